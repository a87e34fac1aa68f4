/- Texts of this claim, laid together: RecKn, K66, F14. -/
import Derived.Test.YtfjhmecmhchbdaaDoorMH
import Derived.Test.YtfjhmecmhchbdaaDoorMF
set_option linter.unusedVariables false
set_option linter.unusedSimpArgs false

namespace Go.Proofs.YtfjhmecmhchbdaaDoor
open Go Go.RowKit

namespace Rc
def sec1 : List UInt8 := 1 :: List.replicate 31 0
def sec2 : List UInt8 := 2 :: List.replicate 31 0
def all0 : DRecord := ⟨1, 7, kDeal, z32, 0, 0, Tx.zero⟩
def all1 : DRecord := ⟨2, 7, zDeal, sec1, 0, 0, Tx.zero⟩
def all2 : DRecord := ⟨3, 7, zDeal, z32, 3, 0, Tx.zero⟩
def all3 : DRecord := ⟨4, 7, zDeal, z32, 0, 6, Tx.zero⟩
def allR (i : Nat) : DRecord := if i = 0 then all0 else if i = 1 then all1 else if i = 2 then all2 else all3
def t4 : DTx := ⟨[⟨zPt, []⟩], [⟨1, []⟩], 0⟩
abbrev z256 : List UInt8 := List.replicate 256 0
def tLong : DTx := ⟨[⟨zPt, []⟩], [⟨1, z256⟩, ⟨1, z256⟩], 0⟩
def modR (k : Nat) (r : DRecord) : DRecord := if k = 0 then { r with deal := kDeal } else if k = 1 then { r with secret := sec2 } else if k = 2 then { r with move := 1 } else if k = 3 then { r with state := 1 } else setTx r t4
def ownB (i k : Nat) : Bool := decide (k = i) || (decide (k = 4) && decide (i = 2))
def setId (r : DRecord) (n : Int) : DRecord := ⟨r.kind, n, r.deal, r.secret, r.move, r.state, r.tx⟩
def long : DRecord := ⟨3, 1, zDeal, z32, 1, 0, tLong⟩
def bad : DRecord := ⟨3, 1, zDeal, z32, 1, 0, ⟨[], [], 5⟩⟩
def st7 : DRecord := ⟨4, 7, zDeal, z32, 0, 7, Tx.zero⟩
def mv4 : DRecord := ⟨3, 7, zDeal, z32, 4, 0, Tx.zero⟩
theorem law_all : ∀ i < 4, chk (allR i) = 0 := by decide +kernel
theorem law_id : ∀ i < 4, chk (setId (allR i) 0) = 1 := by decide +kernel
theorem law_mod : ∀ i < 4, ∀ k < 5, chk (modR k (allR i)) = bif ownB i k then 0 else 11 := by decide +kernel
theorem law_other : chk (setId (allR 0) 8) = 1 := by decide +kernel
theorem law_put : put (allR 2) = ([3, 7, 3, 0], 0) := by decide +kernel
theorem law_long : (put long).2 = 5 := by decide +kernel
theorem law_bad : chk bad = 3 := by decide +kernel
theorem law_st7 : chk st7 = 1 := by decide +kernel
theorem law_mv4 : chk mv4 = 1 := by decide +kernel
theorem law_g1 : (get [5, 7, 2]).2 = 2 := by decide +kernel
theorem law_g2 : (get [4, 7, 7]).2 = 1 := by decide +kernel
theorem law_g3 : (get []).2 = 4 := by decide +kernel
theorem i64s (n : Int) (h : -9223372036854775808 ≤ n ∧ n ≤ 9223372036854775807) : I64 n := h
theorem ok_t4 : Tx.Ok t4 := ⟨fun x hx => by
  obtain rfl : x = ⟨zPt, []⟩ := by simpa [t4] using hx
  exact ⟨rfl, by decide, by decide⟩, fun o ho => by
  obtain rfl : o = ⟨1, []⟩ := by simpa [t4] using ho
  exact ⟨by decide, by decide⟩, by decide, by decide⟩
theorem ok_tLong : Tx.Ok tLong := ⟨fun x hx => by
  obtain rfl : x = ⟨zPt, []⟩ := by simpa [tLong] using hx
  exact ⟨rfl, by decide, by decide⟩, fun o ho => by
  obtain rfl : o = ⟨1, z256⟩ := by simpa [tLong] using ho
  exact ⟨by show (-9223372036854775808 : Int) ≤ 1; decide, by show (1 : Int) ≤ 9223372036854775807; decide⟩, by show (-9223372036854775808 : Int) ≤ 0; decide, by show (0 : Int) ≤ 9223372036854775807; decide⟩
theorem okd_k : OkD kDeal := ⟨i64s _ (by decide), i64s _ (by decide), ⟨i64s _ (by decide), i64s _ (by decide), i64s _ (by decide)⟩, ⟨i64s _ (by decide), i64s _ (by decide), i64s _ (by decide)⟩, rfl, i64s _ (by decide)⟩
theorem ok_mk {k i m s : Int} {d : DDeal} {h : List UInt8} {t : DTx} (hk : I64 k) (hi : I64 i) (hd : OkD d) (hh : h.length = 32) (hm : I64 m) (hs : I64 s) (ht : Tx.Ok t) : Ok ⟨k, i, d, h, m, s, t⟩ := ⟨hk, hi, hd, hh, hm, hs, ht⟩
theorem ok_alls {i : Nat} : Ok (allR i) := by
  unfold allR
  repeat' split
  · exact ok_mk (i64s _ (by decide)) (i64s _ (by decide)) okd_k rfl i64_0 i64_0 Tx.ok_zero
  · exact ok_mk (i64s _ (by decide)) (i64s _ (by decide)) ok_zd rfl i64_0 i64_0 Tx.ok_zero
  · exact ok_mk (i64s _ (by decide)) (i64s _ (by decide)) ok_zd rfl (i64s _ (by decide)) i64_0 Tx.ok_zero
  · exact ok_mk (i64s _ (by decide)) (i64s _ (by decide)) ok_zd rfl i64_0 (i64s _ (by decide)) Tx.ok_zero
theorem alls_d {i : Nat} : (allR i).deal.hash.length = 32 := ok_alls.2.2.1.2.2.2.2.1
theorem alls_s {i : Nat} : (allR i).secret.length = 32 := ok_alls.2.2.2.1
theorem alls_t {i : Nat} : (allR i).tx = Tx.zero := by
  unfold allR
  repeat' split
  all_goals rfl
theorem ok_id {r : DRecord} {n : Int} (h : Ok r) (hn : I64 n) : Ok (setId r n) := ⟨h.1, hn, h.2.2⟩
theorem ok_mod {k : Nat} {r : DRecord} (h : Ok r) : Ok (modR k r) := by
  obtain ⟨h1, h2, h3, h4, h5, h6, h7⟩ := h
  unfold modR
  repeat' split
  · exact ⟨h1, h2, okd_k, h4, h5, h6, h7⟩
  · exact ⟨h1, h2, h3, rfl, h5, h6, h7⟩
  · exact ⟨h1, h2, h3, h4, i64s 1 (by decide), h6, h7⟩
  · exact ⟨h1, h2, h3, h4, h5, i64s 1 (by decide), h7⟩
  · exact ⟨h1, h2, h3, h4, h5, h6, ok_t4⟩
theorem mod_t {k i : Nat} (h : k < 4) : (modR k (allR i)).tx = Tx.zero := by
  unfold modR
  repeat' split
  all_goals first | exact alls_t | omega
theorem ok_long : Ok long := ok_mk (i64s _ (by decide)) (i64s _ (by decide)) ok_zd rfl (i64s _ (by decide)) i64_0 ok_tLong
theorem ok_bad : Ok bad := ok_mk (i64s _ (by decide)) (i64s _ (by decide)) ok_zd rfl (i64s _ (by decide)) i64_0 ⟨fun _ h => (by cases h), fun _ h => (by cases h), i64s _ (by decide)⟩
theorem ok_st7 : Ok st7 := ok_mk (i64s _ (by decide)) (i64s _ (by decide)) ok_zd rfl i64_0 (i64s _ (by decide)) Tx.ok_zero
theorem ok_mv4 : Ok mv4 := ok_mk (i64s _ (by decide)) (i64s _ (by decide)) ok_zd rfl (i64s _ (by decide)) i64_0 Tx.ok_zero
abbrev allC : List Value := recC all0 zt ++ (recC all1 zt ++ (recC all2 zt ++ recC all3 zt))
theorem len_all0 : (recC all0 zt).length = 80 := len_rec rfl rfl rfl
theorem len_all1 : (recC all1 zt).length = 80 := len_rec rfl rfl rfl
theorem len_all2 : (recC all2 zt).length = 80 := len_rec rfl rfl rfl
theorem len_all3 : (recC all3 zt).length = 80 := len_rec rfl rfl rfl
theorem sub_alls {i : Nat} (h : i < 4) : sub allC (0 + i * 80) 80 = recC (allR i) zt := by
  obtain rfl | rfl | rfl | rfl : i = 0 ∨ i = 1 ∨ i = 2 ∨ i = 3 := by omega
  · exact sub_head len_all0
  · exact (sub_skip (k := 0) (m := 80) len_all0).trans (sub_head len_all1)
  · exact (sub_skip (k := 80) (m := 80) len_all0).trans ((sub_skip (k := 0) (m := 80) len_all1).trans (sub_head len_all2))
  · exact (sub_skip (k := 160) (m := 80) len_all0).trans ((sub_skip (k := 80) (m := 80) len_all1).trans ((sub_skip (k := 0) (m := 80) len_all2).trans (sub_all len_all3)))
theorem len_alls {i : Nat} : (recC (allR i) zt).length = 80 := len_rec alls_d alls_s rfl
theorem len_ids {i : Nat} {n : Int} : (recC (setId (allR i) n) zt).length = 80 := len_rec alls_d alls_s rfl
theorem len_mods {i k : Nat} {ct : List Value} (hc : ct.length = 3) : (recC (modR k (allR i)) ct).length = 80 := len_rec (ok_mod ok_alls).2.2.1.2.2.2.2.1 (ok_mod ok_alls).2.2.2.1 hc
end Rc
section
variable {W : World} {h1 h2 h3 h4 tI tO tB : Nat}
theorem rl_one {α : Type} {R : Rep α} {s g t : Nat} {cs : List Value} {x : α} (h : W.heap[g]? = some (.cells cs.toArray t (0, 0))) (hl : cs.length = s) (hR : R W (0 ≤ ·) cs x) : RL s R W (0 ≤ ·) [.slice (some ⟨g, 0, none⟩) 1 1] [x] := by
  refine ⟨some ⟨g, 0, none⟩, 1, cs, rfl, Nat.le_refl _, by decide, (rd_blk (m := 1) h (by omega)).mono (fun _ _ _ => Nat.zero_le _), fun i y hy => ?_⟩
  obtain ⟨rfl, rfl⟩ : i = 0 ∧ y = x := by
    cases i with
    | zero => exact ⟨rfl, by simpa using hy.symm⟩
    | succ i => simp at hy
  rw [Nat.zero_mul, sub_all hl]
  exact hR
theorem rl_two {α : Type} {R : Rep α} {s g t : Nat} {c0 c1 : List Value} {x y : α} (h : W.heap[g]? = some (.cells (c0 ++ c1).toArray t (0, 0))) (hl : c0.length = s) (hl1 : c1.length = s) (hR : R W (0 ≤ ·) c0 x) (hR1 : R W (0 ≤ ·) c1 y) : RL s R W (0 ≤ ·) [.slice (some ⟨g, 0, none⟩) 2 2] [x, y] := by
  refine ⟨some ⟨g, 0, none⟩, 2, c0 ++ c1, rfl, Nat.le_refl _, by decide, (rd_blk (m := 2) h (by rw [List.length_append]; omega)).mono (fun _ _ _ => Nat.zero_le _), fun i z hz => ?_⟩
  match i, hz with
  | 0, hz =>
    obtain rfl : z = x := by simpa using hz.symm
    rw [Nat.zero_mul, sub_head hl]; exact hR
  | 1, hz =>
    obtain rfl : z = y := by simpa using hz.symm
    rw [Nat.one_mul]
    have e := (sub_skip (a := c0) (b := c1) (k := 0) (m := s) hl).trans (sub_all hl1)
    rw [Nat.add_zero] at e
    rw [e]; exact hR1
  | i + 2, hz => simp at hz
theorem in_zero : RIn W (0 ≤ ·) (inC zPt none 0 0) ⟨zPt, []⟩ := in_rep (w := []) rfl ⟨by decide, by decide⟩ rl_nil
theorem rtx_4 (a : W.heap[h1]? = some (.cells (inC zPt none 0 0).toArray tI (0, 0))) (b : W.heap[h2]? = some (.cells (outC 1 none 0 0).toArray tO (0, 0))) : RTx W (0 ≤ ·) (txC (some ⟨h1, 0, none⟩) 1 1 (some ⟨h2, 0, none⟩) 1 1 0) Rc.t4 :=
  tx_rep (l := [_]) (r := [_]) (rl_one a (len_in (p := zPt) rfl) in_zero) (rl_one b rfl (out_rep (s := []) ⟨by decide, by decide⟩ Bs.nil)) ⟨by decide, by decide⟩
set_option maxRecDepth 4000 in
theorem bs_256 (a : W.heap[h1]? = some (.cells ((List.replicate 256 (0 : UInt8)).map u8v).toArray tB (0, 0))) : Bs W (0 ≤ ·) (.slice (some ⟨h1, 0, none⟩) (List.replicate 256 (0 : UInt8)).length 256) (List.replicate 256 (0 : UInt8)) :=
  Bs.mk ((rd_blk (m := (List.replicate 256 (0 : UInt8)).length) (size := 1) a (by rw [List.length_map, Nat.mul_one])).mono (fun _ _ _ => Nat.zero_le _)) (by rw [List.length_replicate]; exact Nat.le_refl _) (by decide)
set_option maxRecDepth 4000 in
theorem rtx_long (a : W.heap[h1]? = some (.cells (inC zPt none 0 0).toArray tI (0, 0))) (b : W.heap[h2]? = some (.cells (outC 1 (some ⟨h3, 0, none⟩) 256 256 ++ outC 1 (some ⟨h4, 0, none⟩) 256 256).toArray tO (0, 0))) (c : W.heap[h3]? = some (.cells ((List.replicate 256 (0 : UInt8)).map u8v).toArray tB (0, 0))) (d : W.heap[h4]? = some (.cells ((List.replicate 256 (0 : UInt8)).map u8v).toArray tB (0, 0))) : RTx W (0 ≤ ·) (txC (some ⟨h1, 0, none⟩) 1 1 (some ⟨h2, 0, none⟩) 2 2 0) Rc.tLong :=
  tx_rep (l := [_]) (r := [_, _]) (rl_one a (len_in (p := zPt) rfl) in_zero) (rl_two b rfl rfl (out_rep (s := Rc.z256) ⟨by decide, by decide⟩ (bs_256 c)) (out_rep (s := Rc.z256) ⟨by decide, by decide⟩ (bs_256 d))) ⟨by decide, by decide⟩
end
end Go.Proofs.YtfjhmecmhchbdaaDoor

namespace Go.Proofs.YtfjhmecmhchbdaaDoor
open Go Go.RowKit
attribute [local irreducible] wpList

section
variable {n : Nat} {ρ : Nat → Value} {W : World} {o : Oper} {x y : Operand} {h h5 h6 : Nat}
theorem b_out (ho : o.op = .build 58 #[(0, .const (.int .i64 1)), (1, x)]) (hx : ev n ρ x = .slice (some ⟨h, 0, none⟩) 256 256) : Runs Tryd.prog n ρ o W (.agg (outC 1 (some ⟨h, 0, none⟩) 256 256).toArray) W :=
  d_build (vs := outC 1 (some ⟨h, 0, none⟩) 256 256) ho (by
    show Program.built _ _ [(0, Value.int .i64 1), (1, ev n ρ x)] = _
    rw [hx]
    exact (built_fields (places := [(0, 1), (1, 1)]) tz58 (by kernel_rfl) (by kernel_rfl) (fill_next (vs := [.int .i64 1]) (.int .i64 1) rfl rfl rfl rfl (Nat.le_of_ble_eq_true rfl) (fill_next (vs := [.slice (some ⟨h, 0, none⟩) 256 256]) (.slice (some ⟨h, 0, none⟩) 256 256) rfl (by rfl) rfl rfl (Nat.le_of_ble_eq_true rfl) (fill_end (by rfl))))))
theorem b_tx (ho : o.op = .build 31 #[(1, x), (0, y)]) (hx : ev n ρ x = .slice (some ⟨h6, 0, none⟩) 2 2) (hy : ev n ρ y = .slice (some ⟨h5, 0, none⟩) 1 1) : Runs Tryd.prog n ρ o W (.agg (txC (some ⟨h5, 0, none⟩) 1 1 (some ⟨h6, 0, none⟩) 2 2 0).toArray) W :=
  d_build (vs := (txC (some ⟨h5, 0, none⟩) 1 1 (some ⟨h6, 0, none⟩) 2 2 0)) ho (by
    show Program.built _ _ [(1, ev n ρ x), (0, ev n ρ y)] = _
    rw [hx, hy]
    exact built_fields (places := [(0, 1), (1, 1), (2, 1)]) tz31 (by kernel_rfl) (by kernel_rfl) rfl)
theorem b_long (ho : o.op = .build 33 #[(0, .const (.int .i64 3)), (1, .const (.int .i64 1)), (4, .const (.int .i64 1)), (6, x)]) (hx : ev n ρ x = .agg (txC (some ⟨h5, 0, none⟩) 1 1 (some ⟨h6, 0, none⟩) 2 2 0).toArray) : Runs Tryd.prog n ρ o W (.agg (recC Rc.long (txC (some ⟨h5, 0, none⟩) 1 1 (some ⟨h6, 0, none⟩) 2 2 0)).toArray) W :=
  d_build (vs := recC Rc.long (txC (some ⟨h5, 0, none⟩) 1 1 (some ⟨h6, 0, none⟩) 2 2 0)) ho (by
    show Program.built _ _ [(0, Value.int .i64 3), (1, .int .i64 1), (4, .int .i64 1), (6, ev n ρ x)] = _
    rw [hx]
    exact (built_fields (places := [(0, 1), (1, 1), (2, 41), (43, 32), (75, 1), (76, 1), (77, 3)]) tz33 (by kernel_rfl) (by kernel_rfl) (fill_next (vs := [.int .i64 3]) (.int .i64 3) rfl rfl rfl rfl (Nat.le_of_ble_eq_true rfl) (fill_next (vs := [.int .i64 1]) (.int .i64 1) rfl (by rfl) rfl rfl (Nat.le_of_ble_eq_true rfl) (fill_skip 73 (fill_next (vs := [.int .i64 1]) (.int .i64 1) rfl (by rfl) rfl rfl (Nat.le_of_ble_eq_true rfl) (fill_skip 1 (fill_next (vs := txC (some ⟨h5, 0, none⟩) 1 1 (some ⟨h6, 0, none⟩) 2 2 0) (.agg (txC (some ⟨h5, 0, none⟩) 1 1 (some ⟨h6, 0, none⟩) 2 2 0).toArray) rfl (by rfl) rfl rfl (Nat.le_of_ble_eq_true rfl) (fill_end (by rfl))))))))))
end

attribute [local irreducible] Rc.get Rc.put Rc.chk Tx.get

set_option maxHeartbeats 4000000 in
theorem recordKnown (w : World) (hG : Gat w 0 formsC) : Calls Tryd.prog 5 [].toArray w (Ret (Is w (.bool true))) := by
  refine k_enter (l := []) Tryd.func5 rfl rfl ?_
  have H := St.start nT w
  refine k_seq ?_
  refine k_region ?_
  refine s_run (w_none rfl) rfl (as_b rfl rfl) ?_
  refine l_nil ?_
  refine k_seq ?_
  refine k_region ?_
  refine s_eff (e_call (w_none rfl) rfl rfl Tryd.func14 rfl rfl rfl (goodT _) ?_)
  rintro _ W ⟨rfl, hb⟩
  replace H := H.below hb
  clear hb
  refine s_run (w_none rfl) rfl (d_build (vs := recC Rc.all0 zt) rfl (built_fields (places := [(0, 1), (1, 1), (2, 41), (43, 32), (75, 1), (76, 1), (77, 3)]) tz33 (by kernel_rfl) (by kernel_rfl) (fill_next (vs := [.int .i64 1]) (.int .i64 1) rfl rfl rfl rfl (Nat.le_of_ble_eq_true rfl) (fill_next (vs := [.int .i64 7]) (.int .i64 7) rfl (by rfl) rfl rfl (Nat.le_of_ble_eq_true rfl) (fill_next (vs := dealC Rc.kDeal) (.agg (dealC Rc.kDeal).toArray) rfl (by rfl) rfl rfl (Nat.le_of_ble_eq_true rfl) (fill_end (by rfl))))))) ?_
  refine s_run (w_none rfl) rfl (d_build (vs := (Rc.sec1.map u8v)) rfl (by kernel_rfl)) ?_
  refine s_run (w_none rfl) rfl (d_build (vs := recC Rc.all1 zt) rfl (built_fields (places := [(0, 1), (1, 1), (2, 41), (43, 32), (75, 1), (76, 1), (77, 3)]) tz33 (by kernel_rfl) (by kernel_rfl) (fill_next (vs := [.int .i64 2]) (.int .i64 2) rfl rfl rfl rfl (Nat.le_of_ble_eq_true rfl) (fill_next (vs := [.int .i64 7]) (.int .i64 7) rfl (by rfl) rfl rfl (Nat.le_of_ble_eq_true rfl) (fill_skip 41 (fill_next (vs := (Rc.sec1.map u8v)) (.agg ((Rc.sec1.map u8v)).toArray) rfl (by rfl) rfl rfl (Nat.le_of_ble_eq_true rfl) (fill_end (by rfl)))))))) ?_
  refine s_run (w_none rfl) rfl (d_build (vs := recC Rc.all2 zt) rfl (built_fields (places := [(0, 1), (1, 1), (2, 41), (43, 32), (75, 1), (76, 1), (77, 3)]) tz33 (by kernel_rfl) (by kernel_rfl) (fill_next (vs := [.int .i64 3]) (.int .i64 3) rfl rfl rfl rfl (Nat.le_of_ble_eq_true rfl) (fill_next (vs := [.int .i64 7]) (.int .i64 7) rfl (by rfl) rfl rfl (Nat.le_of_ble_eq_true rfl) (fill_skip 73 (fill_next (vs := [.int .i64 3]) (.int .i64 3) rfl (by rfl) rfl rfl (Nat.le_of_ble_eq_true rfl) (fill_end (by rfl)))))))) ?_
  refine s_run (w_none rfl) rfl (d_build (vs := recC Rc.all3 zt) rfl (built_fields (places := [(0, 1), (1, 1), (2, 41), (43, 32), (75, 1), (76, 1), (77, 3)]) tz33 (by kernel_rfl) (by kernel_rfl) (fill_next (vs := [.int .i64 4]) (.int .i64 4) rfl rfl rfl rfl (Nat.le_of_ble_eq_true rfl) (fill_next (vs := [.int .i64 7]) (.int .i64 7) rfl (by rfl) rfl rfl (Nat.le_of_ble_eq_true rfl) (fill_skip 74 (fill_next (vs := [.int .i64 6]) (.int .i64 6) rfl (by rfl) rfl rfl (Nat.le_of_ble_eq_true rfl) (fill_end (by rfl)))))))) ?_
  refine s_eff (e_bsl (xs := [.tmp 21, .tmp 23, .tmp 24, .tmp 25]) (vals := [.agg (recC Rc.all0 zt).toArray, .agg (recC Rc.all1 zt).toArray, .agg (recC Rc.all2 zt).toArray, .agg (recC Rc.all3 zt).toArray]) (vs := Rc.allC) (w_none rfl) rfl rfl rfl rfl rfl rfl tu51 ts33 ty33 rfl (by simp [agg_cells, Rc.len_all0, Rc.len_all1, Rc.len_all2, Rc.len_all3]) (by simp [agg_cells]) H ?_)
  clear H; intro ga W H
  refine s_run (w_none rfl) rfl (as_s rfl rfl) ?_
  refine l_nil ?_
  refine k_seq ?_
  refine k_seq ?_
  refine k_region ?_
  refine s_run (w_none rfl) rfl (as_i rfl rfl) ?_
  refine l_nil ?_
  refine k_block ?_
  refine k_loop 27 [0, 2, 3, 4, 5, 6] (fun mm sl W => ∃ i : Nat, 4 - i = mm ∧ sl = [(2, .int .i64 (i : Int))] ∧ (i ≤ 4) ∧ St nT w W [Fact.blk ga Rc.allC 33]) _ _ ⟨0, rfl, rfl, Nat.zero_le _, H⟩ ⟨rfl, trivial⟩ (fun mm sl ρv W hJ => ?_)
  clear H; obtain ⟨i, rfl, rfl, hi, H⟩ := hJ
  refine k_one ?_
  refine k_seq ?_
  refine k_seq ?_
  refine k_region ?_
  refine s_run (w_none rfl) rfl (mv_i rfl rfl) ?_
  refine s_run (w_none rfl) rfl (d_lt rfl rfl rfl) ?_
  refine l_nil ?_
  refine k_cond rfl (fun hc28 => ?_) (fun hc28 => ?_)
  · have hlt : i < 4 := by simp at hc28; omega
    refine k_skip ?_
    refine k_seq ?_
    refine k_block ?_
    refine k_seq ?_
    refine k_seq ?_
    refine k_region ?_
    refine s_run (w_none rfl) rfl (mv_s rfl rfl) ?_
    refine s_run (w_none rfl) rfl (mv_i rfl rfl) ?_
    refine s_run (w_none rfl) rfl (d_iaP (q := i) rfl rfl rfl rfl hlt tu51 ts33) ?_
    refine s_run (w_none rfl) rfl (d_ldXM (g := ga) (off := 0 + i * 80) rfl H (Rc.sub_alls hlt) Rc.len_alls rfl rfl rfl ta33 ts33) ?_
    refine s_eff (e_call (w_none rfl) rfl rfl Tryd.func12 rfl rfl rfl (checkRT (r := Rc.allR i) (ct := zt) (S := nT) _ Rc.ok_alls (tx_zero Rc.alls_t)) ?_)
    rintro _ W ⟨rfl, hb⟩
    replace H := H.below hb
    clear hb
    refine s_run (w_none rfl) rfl (d_ne rfl rfl rfl) ?_
    refine l_nil ?_
    refine k_condF rfl (by rw [Rc.law_all i hlt]; rfl) ?_
    refine k_skip ?_
    refine k_seq ?_
    refine k_seq ?_
    refine k_region ?_
    refine s_run (w_none rfl) rfl (as_i rfl rfl) ?_
    refine l_nil ?_
    refine k_block ?_
    refine k_loop 37 [0, 3, 4, 5] (fun mm sl W => ∃ k : Nat, 5 - k = mm ∧ sl = [(3, .int .i64 (k : Int))] ∧ (k ≤ 5) ∧ St nT w W [Fact.blk ga Rc.allC 33]) _ _ ⟨0, rfl, rfl, Nat.zero_le _, H⟩ ⟨rfl, trivial⟩ (fun mm sl ρv W hJ => ?_)
    clear H; obtain ⟨k, rfl, rfl, hk, H⟩ := hJ
    refine k_one ?_
    refine k_seq ?_
    refine k_seq ?_
    refine k_region ?_
    refine s_run (w_none rfl) rfl (mv_i rfl rfl) ?_
    refine s_run (w_none rfl) rfl (d_lt rfl rfl rfl) ?_
    refine l_nil ?_
    refine k_cond rfl (fun hc38 => ?_) (fun hc38 => ?_)
    · have hlk : k < 5 := by simp at hc38; omega
      refine k_skip ?_
      refine k_seq ?_
      refine k_block ?_
      refine k_seq ?_
      refine k_region ?_
      refine s_run (w_none rfl) rfl (mv_s rfl rfl) ?_
      refine s_run (w_none rfl) rfl (mv_i rfl rfl) ?_
      refine s_run (w_none rfl) rfl (d_iaP (q := i) rfl rfl rfl rfl hlt tu51 ts33) ?_
      refine s_run (w_none rfl) rfl (d_ldXM (g := ga) (off := 0 + i * 80) rfl H (Rc.sub_alls hlt) Rc.len_alls rfl rfl rfl ta33 ts33) ?_
      refine s_eff (e_alloc (w_none rfl) rfl rfl (recC Rc.zero zt) tz33 H ?_)
      clear H; intro g4 W H
      refine s_eff (e_stoK (recC (Rc.allR i) zt) (w_none rfl) rfl rfl rfl rfl rfl ts33 Rc.len_alls (rec_one rfl) H (by rw [len_rec rfl rfl rfl]; decide) (spl_all (Rc.len_alls.trans (len_rec rfl rfl rfl).symm)) ?_)
      clear H; intro W H
      refine l_nil ?_
      refine k_seq ?_
      rcases (show k = i ∨ (k ≠ i ∧ k ≠ 4) ∨ (k ≠ i ∧ k = 4 ∧ i = 2) ∨ (k ≠ i ∧ k = 4 ∧ i ≠ 2) by omega) with h1 | h1 | h1 | h1
      · have ho5 : Rc.ownB i k = true := by simp [Rc.ownB, h1]
        refine k_region ?_
        refine s_run (w_none rfl) rfl (mv_i rfl rfl) ?_
        refine s_run (w_none rfl) rfl (mv_i rfl rfl) ?_
        refine s_run (w_none rfl) rfl (d_eq rfl rfl rfl) ?_
        refine s_run (w_none rfl) rfl (mv_bx (c := true) rfl rfl (by simp; omega)) ?_
        refine s_skip (w_gno rfl rfl rfl rfl rfl) rfl ?_
        refine s_skip (w_gno rfl rfl rfl rfl rfl) rfl ?_
        refine s_skip (w_gno rfl rfl rfl rfl rfl) rfl ?_
        refine s_skip (w_gu rfl rfl rfl rfl rfl) rfl ?_
        refine s_skip (w_gu rfl rfl rfl rfl rfl) rfl ?_
        refine s_skip (w_gno rfl rfl rfl rfl rfl) rfl ?_
        refine s_run (w_none rfl) rfl (d_pickT rfl rfl rfl) ?_
        refine s_run (w_none rfl) rfl (as_b rfl rfl) ?_
        refine l_nil ?_
        refine k_seq ?_
        refine k_seq ?_
        have hl := Rc.law_mod i hlt k hlk
        rw [ho5] at hl
        rcases (show k = 0 ∨ k = 1 ∨ k = 2 ∨ k = 3 by omega) with rfl | rfl | rfl | rfl
        · skip
          refine k_region ?_
          refine s_run (w_none rfl) rfl (mv_i rfl rfl) ?_
          refine l_nil ?_
          refine k_block ?_
          refine k_seq ?_
          refine k_region ?_
          refine s_run (w_none rfl) rfl (d_eq rfl rfl rfl) ?_
          refine s_run (w_none rfl) rfl (as_b rfl rfl) ?_
          refine l_nil ?_
          refine k_condT rfl (by first | rfl | decide) ?_
          refine k_region ?_
          refine s_eff (e_call (w_none rfl) rfl rfl Tryd.func14 rfl rfl rfl (goodT _) ?_)
          rintro _ W ⟨rfl, hb⟩
          replace H := H.below hb
          clear hb
          refine s_run (w_none rfl) rfl (d_fa rfl rfl tf33_2) ?_
          refine s_eff (e_stoK (recC (Rc.modR 0 (Rc.allR i)) zt) (w_none rfl) rfl rfl rfl rfl rfl ts27 (len_deal rfl) deal_one H (rec_le Rc.alls_d Rc.alls_s rfl (by decide)) (spl_r_deal Rc.alls_d rfl) ?_)
          clear H; intro W H
          refine l_nil ?_
          refine k_nil ?_
          refine b_end ?_
          refine k_seq ?_
          refine k_region ?_
          refine s_run (w_none rfl) rfl (d_ldXM (g := g4) (off := 0) rfl H (sub_all (Rc.len_mods rfl)) (Rc.len_mods rfl) rfl rfl rfl ta33 ts33) ?_
          refine s_eff (e_call (w_none rfl) rfl rfl Tryd.func12 rfl rfl rfl (checkRT (r := Rc.modR 0 (Rc.allR i)) (ct := zt) _ (Rc.ok_mod Rc.ok_alls) (tx_zero (S := nT) (Rc.mod_t (by decide)))) ?_)
          rintro _ W ⟨rfl, hb⟩
          replace H := H.below hb
          clear hb
          refine s_run (w_none rfl) rfl (d_eq rfl rfl rfl) ?_
          refine s_run (w_none rfl) rfl (mv_b rfl rfl) ?_
          refine s_run (w_none rfl) rfl (d_diff rfl rfl rfl tu4) ?_
          refine s_run (w_none rfl) rfl (mv_bx (c := false) rfl rfl (by rw [hl]; first | rfl | (simp; omega) | simp_all)) ?_
          refine s_run (w_g rfl rfl rfl rfl) rfl (mv_b rfl rfl) ?_
          refine s_run (w_g rfl rfl rfl rfl) rfl (d_not rfl rfl) ?_
          refine s_run (w_g rfl rfl rfl rfl) rfl (mv_bx (c := false) rfl rfl (by first | rfl | (simp; omega) | simp_all)) ?_
          refine s_skip (w_gno rfl rfl rfl rfl rfl) rfl ?_
          refine s_skip (w_gno rfl rfl rfl rfl rfl) rfl ?_
          refine s_skip (w_gno rfl rfl rfl rfl rfl) rfl ?_
          refine s_run (w_g rfl rfl rfl rfl) rfl (d_pickF rfl rfl rfl) ?_
          refine s_run (w_none rfl) rfl (d_pickF rfl rfl rfl) ?_
          refine l_nil ?_
          refine k_condF rfl (by first | rfl | (rw [hl]; rfl)) ?_
          refine k_skip ?_
          refine k_nil ?_
          refine b_end ?_
          refine k_region ?_
          refine s_run (w_none rfl) rfl (mv_i rfl rfl) ?_
          refine s_run (w_none rfl) rfl (d_add rfl rfl rfl (by omega)) ?_
          refine s_run (w_none rfl) rfl (as_i rfl rfl) ?_
          refine l_nil ?_
          refine k_nil ?_
          refine k_next ?_
          refine ⟨_, _, _, ?_, rfl, ?_, ?_, ⟨0 + 1, rfl, rfl, by omega, H.sub (L' := [_]) (by repeat (first | exact List.Sublist.refl _ | exact List.nil_sublist _ | refine List.Sublist.cons_cons _ ?_ | refine List.Sublist.cons _ ?_))⟩⟩
          · omega
          · repeat (first | ((with_reducible refine Eqo.updl _ Eqo.ovr ?_); exact rfl) | ((with_reducible refine Eqo.updl _ (Eqo.ovr2 ?_ ?_) ?_); rotate_left; exact rfl; exact rfl) | ((with_reducible refine Eqo.upd ?_ ?_); rotate_left; exact rfl))
          · refine ⟨?_, trivial⟩
            · exact vi (by omega)
        · skip
          refine k_region ?_
          refine s_run (w_none rfl) rfl (mv_i rfl rfl) ?_
          refine l_nil ?_
          refine k_block ?_
          refine k_seq ?_
          refine k_region ?_
          refine s_run (w_none rfl) rfl (d_eq rfl rfl rfl) ?_
          refine s_run (w_none rfl) rfl (as_b rfl rfl) ?_
          refine l_nil ?_
          refine k_condF rfl (by first | rfl | decide) ?_
          refine k_seq ?_
          refine k_region ?_
          refine s_run (w_none rfl) rfl (d_eq rfl rfl rfl) ?_
          refine s_run (w_none rfl) rfl (as_b rfl rfl) ?_
          refine l_nil ?_
          refine k_condT rfl (by first | rfl | decide) ?_
          refine k_region ?_
          refine s_run (w_none rfl) rfl (d_build (vs := Rc.sec2.map u8v) rfl (by kernel_rfl)) ?_
          refine s_run (w_none rfl) rfl (d_fa rfl rfl tf33_3) ?_
          refine s_eff (e_stoK (recC (Rc.modR 1 (Rc.allR i)) zt) (w_none rfl) rfl rfl rfl rfl rfl ts25 rfl (all_u8L _) H (rec_le Rc.alls_d Rc.alls_s rfl (by decide)) (spl_r_secret Rc.alls_d Rc.alls_s rfl) ?_)
          clear H; intro W H
          refine l_nil ?_
          refine k_nil ?_
          refine b_end ?_
          refine k_seq ?_
          refine k_region ?_
          refine s_run (w_none rfl) rfl (d_ldXM (g := g4) (off := 0) rfl H (sub_all (Rc.len_mods rfl)) (Rc.len_mods rfl) rfl rfl rfl ta33 ts33) ?_
          refine s_eff (e_call (w_none rfl) rfl rfl Tryd.func12 rfl rfl rfl (checkRT (r := Rc.modR 1 (Rc.allR i)) (ct := zt) _ (Rc.ok_mod Rc.ok_alls) (tx_zero (S := nT) (Rc.mod_t (by decide)))) ?_)
          rintro _ W ⟨rfl, hb⟩
          replace H := H.below hb
          clear hb
          refine s_run (w_none rfl) rfl (d_eq rfl rfl rfl) ?_
          refine s_run (w_none rfl) rfl (mv_b rfl rfl) ?_
          refine s_run (w_none rfl) rfl (d_diff rfl rfl rfl tu4) ?_
          refine s_run (w_none rfl) rfl (mv_bx (c := false) rfl rfl (by rw [hl]; first | rfl | (simp; omega) | simp_all)) ?_
          refine s_run (w_g rfl rfl rfl rfl) rfl (mv_b rfl rfl) ?_
          refine s_run (w_g rfl rfl rfl rfl) rfl (d_not rfl rfl) ?_
          refine s_run (w_g rfl rfl rfl rfl) rfl (mv_bx (c := false) rfl rfl (by first | rfl | (simp; omega) | simp_all)) ?_
          refine s_skip (w_gno rfl rfl rfl rfl rfl) rfl ?_
          refine s_skip (w_gno rfl rfl rfl rfl rfl) rfl ?_
          refine s_skip (w_gno rfl rfl rfl rfl rfl) rfl ?_
          refine s_run (w_g rfl rfl rfl rfl) rfl (d_pickF rfl rfl rfl) ?_
          refine s_run (w_none rfl) rfl (d_pickF rfl rfl rfl) ?_
          refine l_nil ?_
          refine k_condF rfl (by first | rfl | (rw [hl]; rfl)) ?_
          refine k_skip ?_
          refine k_nil ?_
          refine b_end ?_
          refine k_region ?_
          refine s_run (w_none rfl) rfl (mv_i rfl rfl) ?_
          refine s_run (w_none rfl) rfl (d_add rfl rfl rfl (by omega)) ?_
          refine s_run (w_none rfl) rfl (as_i rfl rfl) ?_
          refine l_nil ?_
          refine k_nil ?_
          refine k_next ?_
          refine ⟨_, _, _, ?_, rfl, ?_, ?_, ⟨1 + 1, rfl, rfl, by omega, H.sub (L' := [_]) (by repeat (first | exact List.Sublist.refl _ | exact List.nil_sublist _ | refine List.Sublist.cons_cons _ ?_ | refine List.Sublist.cons _ ?_))⟩⟩
          · omega
          · repeat (first | ((with_reducible refine Eqo.updl _ Eqo.ovr ?_); exact rfl) | ((with_reducible refine Eqo.updl _ (Eqo.ovr2 ?_ ?_) ?_); rotate_left; exact rfl; exact rfl) | ((with_reducible refine Eqo.upd ?_ ?_); rotate_left; exact rfl))
          · refine ⟨?_, trivial⟩
            · exact vi (by omega)
        · skip
          refine k_region ?_
          refine s_run (w_none rfl) rfl (mv_i rfl rfl) ?_
          refine l_nil ?_
          refine k_block ?_
          refine k_seq ?_
          refine k_region ?_
          refine s_run (w_none rfl) rfl (d_eq rfl rfl rfl) ?_
          refine s_run (w_none rfl) rfl (as_b rfl rfl) ?_
          refine l_nil ?_
          refine k_condF rfl (by first | rfl | decide) ?_
          refine k_seq ?_
          refine k_region ?_
          refine s_run (w_none rfl) rfl (d_eq rfl rfl rfl) ?_
          refine s_run (w_none rfl) rfl (as_b rfl rfl) ?_
          refine l_nil ?_
          refine k_condF rfl (by first | rfl | decide) ?_
          refine k_seq ?_
          refine k_region ?_
          refine s_run (w_none rfl) rfl (d_eq rfl rfl rfl) ?_
          refine s_run (w_none rfl) rfl (as_b rfl rfl) ?_
          refine l_nil ?_
          refine k_condT rfl (by first | rfl | decide) ?_
          refine k_region ?_
          refine s_run (w_none rfl) rfl (d_fa rfl rfl tf33_4) ?_
          refine s_eff (e_stoK (v := .int .i64 1) (vs := [.int .i64 1]) (recC (Rc.modR 2 (Rc.allR i)) zt) (w_none rfl) rfl rfl rfl rfl rfl ts3 rfl rfl H (rec_le Rc.alls_d Rc.alls_s rfl (by decide)) (spl_r_move Rc.alls_d Rc.alls_s) ?_)
          clear H; intro W H
          refine l_nil ?_
          refine k_nil ?_
          refine b_end ?_
          refine k_seq ?_
          refine k_region ?_
          refine s_run (w_none rfl) rfl (d_ldXM (g := g4) (off := 0) rfl H (sub_all (Rc.len_mods rfl)) (Rc.len_mods rfl) rfl rfl rfl ta33 ts33) ?_
          refine s_eff (e_call (w_none rfl) rfl rfl Tryd.func12 rfl rfl rfl (checkRT (r := Rc.modR 2 (Rc.allR i)) (ct := zt) _ (Rc.ok_mod Rc.ok_alls) (tx_zero (S := nT) (Rc.mod_t (by decide)))) ?_)
          rintro _ W ⟨rfl, hb⟩
          replace H := H.below hb
          clear hb
          refine s_run (w_none rfl) rfl (d_eq rfl rfl rfl) ?_
          refine s_run (w_none rfl) rfl (mv_b rfl rfl) ?_
          refine s_run (w_none rfl) rfl (d_diff rfl rfl rfl tu4) ?_
          refine s_run (w_none rfl) rfl (mv_bx (c := false) rfl rfl (by rw [hl]; first | rfl | (simp; omega) | simp_all)) ?_
          refine s_run (w_g rfl rfl rfl rfl) rfl (mv_b rfl rfl) ?_
          refine s_run (w_g rfl rfl rfl rfl) rfl (d_not rfl rfl) ?_
          refine s_run (w_g rfl rfl rfl rfl) rfl (mv_bx (c := false) rfl rfl (by first | rfl | (simp; omega) | simp_all)) ?_
          refine s_skip (w_gno rfl rfl rfl rfl rfl) rfl ?_
          refine s_skip (w_gno rfl rfl rfl rfl rfl) rfl ?_
          refine s_skip (w_gno rfl rfl rfl rfl rfl) rfl ?_
          refine s_run (w_g rfl rfl rfl rfl) rfl (d_pickF rfl rfl rfl) ?_
          refine s_run (w_none rfl) rfl (d_pickF rfl rfl rfl) ?_
          refine l_nil ?_
          refine k_condF rfl (by first | rfl | (rw [hl]; rfl)) ?_
          refine k_skip ?_
          refine k_nil ?_
          refine b_end ?_
          refine k_region ?_
          refine s_run (w_none rfl) rfl (mv_i rfl rfl) ?_
          refine s_run (w_none rfl) rfl (d_add rfl rfl rfl (by omega)) ?_
          refine s_run (w_none rfl) rfl (as_i rfl rfl) ?_
          refine l_nil ?_
          refine k_nil ?_
          refine k_next ?_
          refine ⟨_, _, _, ?_, rfl, ?_, ?_, ⟨2 + 1, rfl, rfl, by omega, H.sub (L' := [_]) (by repeat (first | exact List.Sublist.refl _ | exact List.nil_sublist _ | refine List.Sublist.cons_cons _ ?_ | refine List.Sublist.cons _ ?_))⟩⟩
          · omega
          · repeat (first | ((with_reducible refine Eqo.updl _ Eqo.ovr ?_); exact rfl) | ((with_reducible refine Eqo.updl _ (Eqo.ovr2 ?_ ?_) ?_); rotate_left; exact rfl; exact rfl) | ((with_reducible refine Eqo.upd ?_ ?_); rotate_left; exact rfl))
          · refine ⟨?_, trivial⟩
            · exact vi (by omega)
        · skip
          refine k_region ?_
          refine s_run (w_none rfl) rfl (mv_i rfl rfl) ?_
          refine l_nil ?_
          refine k_block ?_
          refine k_seq ?_
          refine k_region ?_
          refine s_run (w_none rfl) rfl (d_eq rfl rfl rfl) ?_
          refine s_run (w_none rfl) rfl (as_b rfl rfl) ?_
          refine l_nil ?_
          refine k_condF rfl (by first | rfl | decide) ?_
          refine k_seq ?_
          refine k_region ?_
          refine s_run (w_none rfl) rfl (d_eq rfl rfl rfl) ?_
          refine s_run (w_none rfl) rfl (as_b rfl rfl) ?_
          refine l_nil ?_
          refine k_condF rfl (by first | rfl | decide) ?_
          refine k_seq ?_
          refine k_region ?_
          refine s_run (w_none rfl) rfl (d_eq rfl rfl rfl) ?_
          refine s_run (w_none rfl) rfl (as_b rfl rfl) ?_
          refine l_nil ?_
          refine k_condF rfl (by first | rfl | decide) ?_
          refine k_seq ?_
          refine k_region ?_
          refine s_run (w_none rfl) rfl (d_eq rfl rfl rfl) ?_
          refine s_run (w_none rfl) rfl (as_b rfl rfl) ?_
          refine l_nil ?_
          refine k_condT rfl (by first | rfl | decide) ?_
          refine k_region ?_
          refine s_run (w_none rfl) rfl (d_fa rfl rfl tf33_5) ?_
          refine s_eff (e_stoK (v := .int .i64 1) (vs := [.int .i64 1]) (recC (Rc.modR 3 (Rc.allR i)) zt) (w_none rfl) rfl rfl rfl rfl rfl ts3 rfl rfl H (rec_le Rc.alls_d Rc.alls_s rfl (by decide)) (spl_r_state Rc.alls_d Rc.alls_s) ?_)
          clear H; intro W H
          refine l_nil ?_
          refine k_nil ?_
          refine b_end ?_
          refine k_seq ?_
          refine k_region ?_
          refine s_run (w_none rfl) rfl (d_ldXM (g := g4) (off := 0) rfl H (sub_all (Rc.len_mods rfl)) (Rc.len_mods rfl) rfl rfl rfl ta33 ts33) ?_
          refine s_eff (e_call (w_none rfl) rfl rfl Tryd.func12 rfl rfl rfl (checkRT (r := Rc.modR 3 (Rc.allR i)) (ct := zt) _ (Rc.ok_mod Rc.ok_alls) (tx_zero (S := nT) (Rc.mod_t (by decide)))) ?_)
          rintro _ W ⟨rfl, hb⟩
          replace H := H.below hb
          clear hb
          refine s_run (w_none rfl) rfl (d_eq rfl rfl rfl) ?_
          refine s_run (w_none rfl) rfl (mv_b rfl rfl) ?_
          refine s_run (w_none rfl) rfl (d_diff rfl rfl rfl tu4) ?_
          refine s_run (w_none rfl) rfl (mv_bx (c := false) rfl rfl (by rw [hl]; first | rfl | (simp; omega) | simp_all)) ?_
          refine s_run (w_g rfl rfl rfl rfl) rfl (mv_b rfl rfl) ?_
          refine s_run (w_g rfl rfl rfl rfl) rfl (d_not rfl rfl) ?_
          refine s_run (w_g rfl rfl rfl rfl) rfl (mv_bx (c := false) rfl rfl (by first | rfl | (simp; omega) | simp_all)) ?_
          refine s_skip (w_gno rfl rfl rfl rfl rfl) rfl ?_
          refine s_skip (w_gno rfl rfl rfl rfl rfl) rfl ?_
          refine s_skip (w_gno rfl rfl rfl rfl rfl) rfl ?_
          refine s_run (w_g rfl rfl rfl rfl) rfl (d_pickF rfl rfl rfl) ?_
          refine s_run (w_none rfl) rfl (d_pickF rfl rfl rfl) ?_
          refine l_nil ?_
          refine k_condF rfl (by first | rfl | (rw [hl]; rfl)) ?_
          refine k_skip ?_
          refine k_nil ?_
          refine b_end ?_
          refine k_region ?_
          refine s_run (w_none rfl) rfl (mv_i rfl rfl) ?_
          refine s_run (w_none rfl) rfl (d_add rfl rfl rfl (by omega)) ?_
          refine s_run (w_none rfl) rfl (as_i rfl rfl) ?_
          refine l_nil ?_
          refine k_nil ?_
          refine k_next ?_
          refine ⟨_, _, _, ?_, rfl, ?_, ?_, ⟨3 + 1, rfl, rfl, by omega, H.sub (L' := [_]) (by repeat (first | exact List.Sublist.refl _ | exact List.nil_sublist _ | refine List.Sublist.cons_cons _ ?_ | refine List.Sublist.cons _ ?_))⟩⟩
          · omega
          · repeat (first | ((with_reducible refine Eqo.updl _ Eqo.ovr ?_); exact rfl) | ((with_reducible refine Eqo.updl _ (Eqo.ovr2 ?_ ?_) ?_); rotate_left; exact rfl; exact rfl) | ((with_reducible refine Eqo.upd ?_ ?_); rotate_left; exact rfl))
          · refine ⟨?_, trivial⟩
            · exact vi (by omega)
      · have ho5 : Rc.ownB i k = false := by simp [Rc.ownB, h1]
        refine k_region ?_
        refine s_run (w_none rfl) rfl (mv_i rfl rfl) ?_
        refine s_run (w_none rfl) rfl (mv_i rfl rfl) ?_
        refine s_run (w_none rfl) rfl (d_eq rfl rfl rfl) ?_
        refine s_run (w_none rfl) rfl (mv_bx (c := false) rfl rfl (by simp; omega)) ?_
        refine s_run (w_g rfl rfl rfl rfl) rfl (mv_i rfl rfl) ?_
        refine s_run (w_g rfl rfl rfl rfl) rfl (d_eq rfl rfl rfl) ?_
        refine s_run (w_g rfl rfl rfl rfl) rfl (mv_bx (c := false) rfl rfl (by simp; omega)) ?_
        refine s_skip (w_gno rfl rfl rfl rfl rfl) rfl ?_
        refine s_skip (w_gno rfl rfl rfl rfl rfl) rfl ?_
        refine s_run (w_g rfl rfl rfl rfl) rfl (d_pickF rfl rfl rfl) ?_
        refine s_run (w_none rfl) rfl (d_pickF rfl rfl rfl) ?_
        refine s_run (w_none rfl) rfl (as_b rfl rfl) ?_
        refine l_nil ?_
        refine k_seq ?_
        refine k_seq ?_
        have hl := Rc.law_mod i hlt k hlk
        rw [ho5] at hl
        rcases (show k = 0 ∨ k = 1 ∨ k = 2 ∨ k = 3 by omega) with rfl | rfl | rfl | rfl
        · skip
          refine k_region ?_
          refine s_run (w_none rfl) rfl (mv_i rfl rfl) ?_
          refine l_nil ?_
          refine k_block ?_
          refine k_seq ?_
          refine k_region ?_
          refine s_run (w_none rfl) rfl (d_eq rfl rfl rfl) ?_
          refine s_run (w_none rfl) rfl (as_b rfl rfl) ?_
          refine l_nil ?_
          refine k_condT rfl (by first | rfl | decide) ?_
          refine k_region ?_
          refine s_eff (e_call (w_none rfl) rfl rfl Tryd.func14 rfl rfl rfl (goodT _) ?_)
          rintro _ W ⟨rfl, hb⟩
          replace H := H.below hb
          clear hb
          refine s_run (w_none rfl) rfl (d_fa rfl rfl tf33_2) ?_
          refine s_eff (e_stoK (recC (Rc.modR 0 (Rc.allR i)) zt) (w_none rfl) rfl rfl rfl rfl rfl ts27 (len_deal rfl) deal_one H (rec_le Rc.alls_d Rc.alls_s rfl (by decide)) (spl_r_deal Rc.alls_d rfl) ?_)
          clear H; intro W H
          refine l_nil ?_
          refine k_nil ?_
          refine b_end ?_
          refine k_seq ?_
          refine k_region ?_
          refine s_run (w_none rfl) rfl (d_ldXM (g := g4) (off := 0) rfl H (sub_all (Rc.len_mods rfl)) (Rc.len_mods rfl) rfl rfl rfl ta33 ts33) ?_
          refine s_eff (e_call (w_none rfl) rfl rfl Tryd.func12 rfl rfl rfl (checkRT (r := Rc.modR 0 (Rc.allR i)) (ct := zt) _ (Rc.ok_mod Rc.ok_alls) (tx_zero (S := nT) (Rc.mod_t (by decide)))) ?_)
          rintro _ W ⟨rfl, hb⟩
          replace H := H.below hb
          clear hb
          refine s_run (w_none rfl) rfl (d_eq rfl rfl rfl) ?_
          refine s_run (w_none rfl) rfl (mv_b rfl rfl) ?_
          refine s_run (w_none rfl) rfl (d_diff rfl rfl rfl tu4) ?_
          refine s_run (w_none rfl) rfl (mv_bx (c := false) rfl rfl (by rw [hl]; first | rfl | (simp; omega) | simp_all)) ?_
          refine s_run (w_g rfl rfl rfl rfl) rfl (mv_b rfl rfl) ?_
          refine s_run (w_g rfl rfl rfl rfl) rfl (d_not rfl rfl) ?_
          refine s_run (w_g rfl rfl rfl rfl) rfl (mv_bx (c := true) rfl rfl (by first | rfl | (simp; omega) | simp_all)) ?_
          refine s_run (w_g rfl rfl rfl rfl) rfl (d_ldXM (g := g4) (off := 0) rfl H (sub_all (Rc.len_mods rfl)) (Rc.len_mods rfl) rfl rfl rfl ta33 ts33) ?_
          refine s_eff (e_call (w_g rfl rfl rfl rfl) rfl rfl Tryd.func12 rfl rfl rfl (checkRT (r := Rc.modR 0 (Rc.allR i)) (ct := zt) _ (Rc.ok_mod Rc.ok_alls) (tx_zero (S := nT) (Rc.mod_t (by decide)))) ?_)
          rintro _ W ⟨rfl, hb⟩
          replace H := H.below hb
          clear hb
          refine s_run (w_g rfl rfl rfl rfl) rfl (d_ne rfl rfl rfl) ?_
          refine s_run (w_g rfl rfl rfl rfl) rfl (d_pickT rfl rfl rfl) ?_
          refine s_run (w_none rfl) rfl (d_pickF rfl rfl rfl) ?_
          refine l_nil ?_
          refine k_condF rfl (by first | rfl | (rw [hl]; rfl)) ?_
          refine k_skip ?_
          refine k_nil ?_
          refine b_end ?_
          refine k_region ?_
          refine s_run (w_none rfl) rfl (mv_i rfl rfl) ?_
          refine s_run (w_none rfl) rfl (d_add rfl rfl rfl (by omega)) ?_
          refine s_run (w_none rfl) rfl (as_i rfl rfl) ?_
          refine l_nil ?_
          refine k_nil ?_
          refine k_next ?_
          refine ⟨_, _, _, ?_, rfl, ?_, ?_, ⟨0 + 1, rfl, rfl, by omega, H.sub (L' := [_]) (by repeat (first | exact List.Sublist.refl _ | exact List.nil_sublist _ | refine List.Sublist.cons_cons _ ?_ | refine List.Sublist.cons _ ?_))⟩⟩
          · omega
          · repeat (first | ((with_reducible refine Eqo.updl _ Eqo.ovr ?_); exact rfl) | ((with_reducible refine Eqo.updl _ (Eqo.ovr2 ?_ ?_) ?_); rotate_left; exact rfl; exact rfl) | ((with_reducible refine Eqo.upd ?_ ?_); rotate_left; exact rfl))
          · refine ⟨?_, trivial⟩
            · exact vi (by omega)
        · skip
          refine k_region ?_
          refine s_run (w_none rfl) rfl (mv_i rfl rfl) ?_
          refine l_nil ?_
          refine k_block ?_
          refine k_seq ?_
          refine k_region ?_
          refine s_run (w_none rfl) rfl (d_eq rfl rfl rfl) ?_
          refine s_run (w_none rfl) rfl (as_b rfl rfl) ?_
          refine l_nil ?_
          refine k_condF rfl (by first | rfl | decide) ?_
          refine k_seq ?_
          refine k_region ?_
          refine s_run (w_none rfl) rfl (d_eq rfl rfl rfl) ?_
          refine s_run (w_none rfl) rfl (as_b rfl rfl) ?_
          refine l_nil ?_
          refine k_condT rfl (by first | rfl | decide) ?_
          refine k_region ?_
          refine s_run (w_none rfl) rfl (d_build (vs := Rc.sec2.map u8v) rfl (by kernel_rfl)) ?_
          refine s_run (w_none rfl) rfl (d_fa rfl rfl tf33_3) ?_
          refine s_eff (e_stoK (recC (Rc.modR 1 (Rc.allR i)) zt) (w_none rfl) rfl rfl rfl rfl rfl ts25 rfl (all_u8L _) H (rec_le Rc.alls_d Rc.alls_s rfl (by decide)) (spl_r_secret Rc.alls_d Rc.alls_s rfl) ?_)
          clear H; intro W H
          refine l_nil ?_
          refine k_nil ?_
          refine b_end ?_
          refine k_seq ?_
          refine k_region ?_
          refine s_run (w_none rfl) rfl (d_ldXM (g := g4) (off := 0) rfl H (sub_all (Rc.len_mods rfl)) (Rc.len_mods rfl) rfl rfl rfl ta33 ts33) ?_
          refine s_eff (e_call (w_none rfl) rfl rfl Tryd.func12 rfl rfl rfl (checkRT (r := Rc.modR 1 (Rc.allR i)) (ct := zt) _ (Rc.ok_mod Rc.ok_alls) (tx_zero (S := nT) (Rc.mod_t (by decide)))) ?_)
          rintro _ W ⟨rfl, hb⟩
          replace H := H.below hb
          clear hb
          refine s_run (w_none rfl) rfl (d_eq rfl rfl rfl) ?_
          refine s_run (w_none rfl) rfl (mv_b rfl rfl) ?_
          refine s_run (w_none rfl) rfl (d_diff rfl rfl rfl tu4) ?_
          refine s_run (w_none rfl) rfl (mv_bx (c := false) rfl rfl (by rw [hl]; first | rfl | (simp; omega) | simp_all)) ?_
          refine s_run (w_g rfl rfl rfl rfl) rfl (mv_b rfl rfl) ?_
          refine s_run (w_g rfl rfl rfl rfl) rfl (d_not rfl rfl) ?_
          refine s_run (w_g rfl rfl rfl rfl) rfl (mv_bx (c := true) rfl rfl (by first | rfl | (simp; omega) | simp_all)) ?_
          refine s_run (w_g rfl rfl rfl rfl) rfl (d_ldXM (g := g4) (off := 0) rfl H (sub_all (Rc.len_mods rfl)) (Rc.len_mods rfl) rfl rfl rfl ta33 ts33) ?_
          refine s_eff (e_call (w_g rfl rfl rfl rfl) rfl rfl Tryd.func12 rfl rfl rfl (checkRT (r := Rc.modR 1 (Rc.allR i)) (ct := zt) _ (Rc.ok_mod Rc.ok_alls) (tx_zero (S := nT) (Rc.mod_t (by decide)))) ?_)
          rintro _ W ⟨rfl, hb⟩
          replace H := H.below hb
          clear hb
          refine s_run (w_g rfl rfl rfl rfl) rfl (d_ne rfl rfl rfl) ?_
          refine s_run (w_g rfl rfl rfl rfl) rfl (d_pickT rfl rfl rfl) ?_
          refine s_run (w_none rfl) rfl (d_pickF rfl rfl rfl) ?_
          refine l_nil ?_
          refine k_condF rfl (by first | rfl | (rw [hl]; rfl)) ?_
          refine k_skip ?_
          refine k_nil ?_
          refine b_end ?_
          refine k_region ?_
          refine s_run (w_none rfl) rfl (mv_i rfl rfl) ?_
          refine s_run (w_none rfl) rfl (d_add rfl rfl rfl (by omega)) ?_
          refine s_run (w_none rfl) rfl (as_i rfl rfl) ?_
          refine l_nil ?_
          refine k_nil ?_
          refine k_next ?_
          refine ⟨_, _, _, ?_, rfl, ?_, ?_, ⟨1 + 1, rfl, rfl, by omega, H.sub (L' := [_]) (by repeat (first | exact List.Sublist.refl _ | exact List.nil_sublist _ | refine List.Sublist.cons_cons _ ?_ | refine List.Sublist.cons _ ?_))⟩⟩
          · omega
          · repeat (first | ((with_reducible refine Eqo.updl _ Eqo.ovr ?_); exact rfl) | ((with_reducible refine Eqo.updl _ (Eqo.ovr2 ?_ ?_) ?_); rotate_left; exact rfl; exact rfl) | ((with_reducible refine Eqo.upd ?_ ?_); rotate_left; exact rfl))
          · refine ⟨?_, trivial⟩
            · exact vi (by omega)
        · skip
          refine k_region ?_
          refine s_run (w_none rfl) rfl (mv_i rfl rfl) ?_
          refine l_nil ?_
          refine k_block ?_
          refine k_seq ?_
          refine k_region ?_
          refine s_run (w_none rfl) rfl (d_eq rfl rfl rfl) ?_
          refine s_run (w_none rfl) rfl (as_b rfl rfl) ?_
          refine l_nil ?_
          refine k_condF rfl (by first | rfl | decide) ?_
          refine k_seq ?_
          refine k_region ?_
          refine s_run (w_none rfl) rfl (d_eq rfl rfl rfl) ?_
          refine s_run (w_none rfl) rfl (as_b rfl rfl) ?_
          refine l_nil ?_
          refine k_condF rfl (by first | rfl | decide) ?_
          refine k_seq ?_
          refine k_region ?_
          refine s_run (w_none rfl) rfl (d_eq rfl rfl rfl) ?_
          refine s_run (w_none rfl) rfl (as_b rfl rfl) ?_
          refine l_nil ?_
          refine k_condT rfl (by first | rfl | decide) ?_
          refine k_region ?_
          refine s_run (w_none rfl) rfl (d_fa rfl rfl tf33_4) ?_
          refine s_eff (e_stoK (v := .int .i64 1) (vs := [.int .i64 1]) (recC (Rc.modR 2 (Rc.allR i)) zt) (w_none rfl) rfl rfl rfl rfl rfl ts3 rfl rfl H (rec_le Rc.alls_d Rc.alls_s rfl (by decide)) (spl_r_move Rc.alls_d Rc.alls_s) ?_)
          clear H; intro W H
          refine l_nil ?_
          refine k_nil ?_
          refine b_end ?_
          refine k_seq ?_
          refine k_region ?_
          refine s_run (w_none rfl) rfl (d_ldXM (g := g4) (off := 0) rfl H (sub_all (Rc.len_mods rfl)) (Rc.len_mods rfl) rfl rfl rfl ta33 ts33) ?_
          refine s_eff (e_call (w_none rfl) rfl rfl Tryd.func12 rfl rfl rfl (checkRT (r := Rc.modR 2 (Rc.allR i)) (ct := zt) _ (Rc.ok_mod Rc.ok_alls) (tx_zero (S := nT) (Rc.mod_t (by decide)))) ?_)
          rintro _ W ⟨rfl, hb⟩
          replace H := H.below hb
          clear hb
          refine s_run (w_none rfl) rfl (d_eq rfl rfl rfl) ?_
          refine s_run (w_none rfl) rfl (mv_b rfl rfl) ?_
          refine s_run (w_none rfl) rfl (d_diff rfl rfl rfl tu4) ?_
          refine s_run (w_none rfl) rfl (mv_bx (c := false) rfl rfl (by rw [hl]; first | rfl | (simp; omega) | simp_all)) ?_
          refine s_run (w_g rfl rfl rfl rfl) rfl (mv_b rfl rfl) ?_
          refine s_run (w_g rfl rfl rfl rfl) rfl (d_not rfl rfl) ?_
          refine s_run (w_g rfl rfl rfl rfl) rfl (mv_bx (c := true) rfl rfl (by first | rfl | (simp; omega) | simp_all)) ?_
          refine s_run (w_g rfl rfl rfl rfl) rfl (d_ldXM (g := g4) (off := 0) rfl H (sub_all (Rc.len_mods rfl)) (Rc.len_mods rfl) rfl rfl rfl ta33 ts33) ?_
          refine s_eff (e_call (w_g rfl rfl rfl rfl) rfl rfl Tryd.func12 rfl rfl rfl (checkRT (r := Rc.modR 2 (Rc.allR i)) (ct := zt) _ (Rc.ok_mod Rc.ok_alls) (tx_zero (S := nT) (Rc.mod_t (by decide)))) ?_)
          rintro _ W ⟨rfl, hb⟩
          replace H := H.below hb
          clear hb
          refine s_run (w_g rfl rfl rfl rfl) rfl (d_ne rfl rfl rfl) ?_
          refine s_run (w_g rfl rfl rfl rfl) rfl (d_pickT rfl rfl rfl) ?_
          refine s_run (w_none rfl) rfl (d_pickF rfl rfl rfl) ?_
          refine l_nil ?_
          refine k_condF rfl (by first | rfl | (rw [hl]; rfl)) ?_
          refine k_skip ?_
          refine k_nil ?_
          refine b_end ?_
          refine k_region ?_
          refine s_run (w_none rfl) rfl (mv_i rfl rfl) ?_
          refine s_run (w_none rfl) rfl (d_add rfl rfl rfl (by omega)) ?_
          refine s_run (w_none rfl) rfl (as_i rfl rfl) ?_
          refine l_nil ?_
          refine k_nil ?_
          refine k_next ?_
          refine ⟨_, _, _, ?_, rfl, ?_, ?_, ⟨2 + 1, rfl, rfl, by omega, H.sub (L' := [_]) (by repeat (first | exact List.Sublist.refl _ | exact List.nil_sublist _ | refine List.Sublist.cons_cons _ ?_ | refine List.Sublist.cons _ ?_))⟩⟩
          · omega
          · repeat (first | ((with_reducible refine Eqo.updl _ Eqo.ovr ?_); exact rfl) | ((with_reducible refine Eqo.updl _ (Eqo.ovr2 ?_ ?_) ?_); rotate_left; exact rfl; exact rfl) | ((with_reducible refine Eqo.upd ?_ ?_); rotate_left; exact rfl))
          · refine ⟨?_, trivial⟩
            · exact vi (by omega)
        · skip
          refine k_region ?_
          refine s_run (w_none rfl) rfl (mv_i rfl rfl) ?_
          refine l_nil ?_
          refine k_block ?_
          refine k_seq ?_
          refine k_region ?_
          refine s_run (w_none rfl) rfl (d_eq rfl rfl rfl) ?_
          refine s_run (w_none rfl) rfl (as_b rfl rfl) ?_
          refine l_nil ?_
          refine k_condF rfl (by first | rfl | decide) ?_
          refine k_seq ?_
          refine k_region ?_
          refine s_run (w_none rfl) rfl (d_eq rfl rfl rfl) ?_
          refine s_run (w_none rfl) rfl (as_b rfl rfl) ?_
          refine l_nil ?_
          refine k_condF rfl (by first | rfl | decide) ?_
          refine k_seq ?_
          refine k_region ?_
          refine s_run (w_none rfl) rfl (d_eq rfl rfl rfl) ?_
          refine s_run (w_none rfl) rfl (as_b rfl rfl) ?_
          refine l_nil ?_
          refine k_condF rfl (by first | rfl | decide) ?_
          refine k_seq ?_
          refine k_region ?_
          refine s_run (w_none rfl) rfl (d_eq rfl rfl rfl) ?_
          refine s_run (w_none rfl) rfl (as_b rfl rfl) ?_
          refine l_nil ?_
          refine k_condT rfl (by first | rfl | decide) ?_
          refine k_region ?_
          refine s_run (w_none rfl) rfl (d_fa rfl rfl tf33_5) ?_
          refine s_eff (e_stoK (v := .int .i64 1) (vs := [.int .i64 1]) (recC (Rc.modR 3 (Rc.allR i)) zt) (w_none rfl) rfl rfl rfl rfl rfl ts3 rfl rfl H (rec_le Rc.alls_d Rc.alls_s rfl (by decide)) (spl_r_state Rc.alls_d Rc.alls_s) ?_)
          clear H; intro W H
          refine l_nil ?_
          refine k_nil ?_
          refine b_end ?_
          refine k_seq ?_
          refine k_region ?_
          refine s_run (w_none rfl) rfl (d_ldXM (g := g4) (off := 0) rfl H (sub_all (Rc.len_mods rfl)) (Rc.len_mods rfl) rfl rfl rfl ta33 ts33) ?_
          refine s_eff (e_call (w_none rfl) rfl rfl Tryd.func12 rfl rfl rfl (checkRT (r := Rc.modR 3 (Rc.allR i)) (ct := zt) _ (Rc.ok_mod Rc.ok_alls) (tx_zero (S := nT) (Rc.mod_t (by decide)))) ?_)
          rintro _ W ⟨rfl, hb⟩
          replace H := H.below hb
          clear hb
          refine s_run (w_none rfl) rfl (d_eq rfl rfl rfl) ?_
          refine s_run (w_none rfl) rfl (mv_b rfl rfl) ?_
          refine s_run (w_none rfl) rfl (d_diff rfl rfl rfl tu4) ?_
          refine s_run (w_none rfl) rfl (mv_bx (c := false) rfl rfl (by rw [hl]; first | rfl | (simp; omega) | simp_all)) ?_
          refine s_run (w_g rfl rfl rfl rfl) rfl (mv_b rfl rfl) ?_
          refine s_run (w_g rfl rfl rfl rfl) rfl (d_not rfl rfl) ?_
          refine s_run (w_g rfl rfl rfl rfl) rfl (mv_bx (c := true) rfl rfl (by first | rfl | (simp; omega) | simp_all)) ?_
          refine s_run (w_g rfl rfl rfl rfl) rfl (d_ldXM (g := g4) (off := 0) rfl H (sub_all (Rc.len_mods rfl)) (Rc.len_mods rfl) rfl rfl rfl ta33 ts33) ?_
          refine s_eff (e_call (w_g rfl rfl rfl rfl) rfl rfl Tryd.func12 rfl rfl rfl (checkRT (r := Rc.modR 3 (Rc.allR i)) (ct := zt) _ (Rc.ok_mod Rc.ok_alls) (tx_zero (S := nT) (Rc.mod_t (by decide)))) ?_)
          rintro _ W ⟨rfl, hb⟩
          replace H := H.below hb
          clear hb
          refine s_run (w_g rfl rfl rfl rfl) rfl (d_ne rfl rfl rfl) ?_
          refine s_run (w_g rfl rfl rfl rfl) rfl (d_pickT rfl rfl rfl) ?_
          refine s_run (w_none rfl) rfl (d_pickF rfl rfl rfl) ?_
          refine l_nil ?_
          refine k_condF rfl (by first | rfl | (rw [hl]; rfl)) ?_
          refine k_skip ?_
          refine k_nil ?_
          refine b_end ?_
          refine k_region ?_
          refine s_run (w_none rfl) rfl (mv_i rfl rfl) ?_
          refine s_run (w_none rfl) rfl (d_add rfl rfl rfl (by omega)) ?_
          refine s_run (w_none rfl) rfl (as_i rfl rfl) ?_
          refine l_nil ?_
          refine k_nil ?_
          refine k_next ?_
          refine ⟨_, _, _, ?_, rfl, ?_, ?_, ⟨3 + 1, rfl, rfl, by omega, H.sub (L' := [_]) (by repeat (first | exact List.Sublist.refl _ | exact List.nil_sublist _ | refine List.Sublist.cons_cons _ ?_ | refine List.Sublist.cons _ ?_))⟩⟩
          · omega
          · repeat (first | ((with_reducible refine Eqo.updl _ Eqo.ovr ?_); exact rfl) | ((with_reducible refine Eqo.updl _ (Eqo.ovr2 ?_ ?_) ?_); rotate_left; exact rfl; exact rfl) | ((with_reducible refine Eqo.upd ?_ ?_); rotate_left; exact rfl))
          · refine ⟨?_, trivial⟩
            · exact vi (by omega)
      · have ho5 : Rc.ownB i k = true := by simp [Rc.ownB, h1]
        refine k_region ?_
        refine s_run (w_none rfl) rfl (mv_i rfl rfl) ?_
        refine s_run (w_none rfl) rfl (mv_i rfl rfl) ?_
        refine s_run (w_none rfl) rfl (d_eq rfl rfl rfl) ?_
        refine s_run (w_none rfl) rfl (mv_bx (c := false) rfl rfl (by simp; omega)) ?_
        refine s_run (w_g rfl rfl rfl rfl) rfl (mv_i rfl rfl) ?_
        refine s_run (w_g rfl rfl rfl rfl) rfl (d_eq rfl rfl rfl) ?_
        refine s_run (w_g rfl rfl rfl rfl) rfl (mv_bx (c := true) rfl rfl (by simp; omega)) ?_
        refine s_run (w_g rfl rfl rfl rfl) rfl (mv_i rfl rfl) ?_
        refine s_run (w_g rfl rfl rfl rfl) rfl (d_eq rfl rfl rfl) ?_
        refine s_run (w_g rfl rfl rfl rfl) rfl (d_pickT rfl rfl rfl) ?_
        refine s_run (w_none rfl) rfl (d_pickF rfl rfl rfl) ?_
        refine s_run (w_none rfl) rfl (as_b rfl rfl) ?_
        refine l_nil ?_
        refine k_seq ?_
        refine k_seq ?_
        have hl := Rc.law_mod i hlt k hlk
        rw [ho5] at hl
        obtain rfl : k = 4 := by omega
        · skip
          refine k_region ?_
          refine s_run (w_none rfl) rfl (mv_i rfl rfl) ?_
          refine l_nil ?_
          refine k_block ?_
          refine k_seq ?_
          refine k_region ?_
          refine s_run (w_none rfl) rfl (d_eq rfl rfl rfl) ?_
          refine s_run (w_none rfl) rfl (as_b rfl rfl) ?_
          refine l_nil ?_
          refine k_condF rfl (by first | rfl | decide) ?_
          refine k_seq ?_
          refine k_region ?_
          refine s_run (w_none rfl) rfl (d_eq rfl rfl rfl) ?_
          refine s_run (w_none rfl) rfl (as_b rfl rfl) ?_
          refine l_nil ?_
          refine k_condF rfl (by first | rfl | decide) ?_
          refine k_seq ?_
          refine k_region ?_
          refine s_run (w_none rfl) rfl (d_eq rfl rfl rfl) ?_
          refine s_run (w_none rfl) rfl (as_b rfl rfl) ?_
          refine l_nil ?_
          refine k_condF rfl (by first | rfl | decide) ?_
          refine k_seq ?_
          refine k_region ?_
          refine s_run (w_none rfl) rfl (d_eq rfl rfl rfl) ?_
          refine s_run (w_none rfl) rfl (as_b rfl rfl) ?_
          refine l_nil ?_
          refine k_condF rfl (by first | rfl | decide) ?_
          refine k_seq ?_
          refine k_region ?_
          refine s_run (w_none rfl) rfl (d_eq rfl rfl rfl) ?_
          refine s_run (w_none rfl) rfl (as_b rfl rfl) ?_
          refine l_nil ?_
          refine k_condT rfl (by first | rfl | decide) ?_
          refine k_region ?_
          refine s_run (w_none rfl) rfl (d_build (vs := inC zPt none 0 0) rfl (by kernel_rfl)) ?_
          refine s_eff (e_bsl (xs := [.tmp 73]) (vals := [.agg (inC zPt none 0 0).toArray]) (vs := (inC zPt none 0 0)) (w_none rfl) rfl rfl rfl rfl rfl rfl tu28 ts56 ty56 rfl (by simp [agg_cells, len_in (p := zPt) rfl]) (by simp [agg_cells]) H ?_)
          clear H; intro h1 W H
          refine s_run (w_none rfl) rfl (d_build (vs := outC 1 none 0 0) rfl (built_fields (places := [(0, 1), (1, 1)]) tz58 (by kernel_rfl) (by kernel_rfl) (fill_next (vs := [.int .i64 1]) (.int .i64 1) rfl rfl rfl rfl (Nat.le_of_ble_eq_true rfl) (fill_end (by rfl))))) ?_
          refine s_eff (e_bsl (xs := [.tmp 75]) (vals := [.agg (outC 1 none 0 0).toArray]) (vs := (outC 1 none 0 0)) (w_none rfl) rfl rfl rfl rfl rfl rfl tu29 ts58 ty58 rfl (by simp [agg_cells, outC]) (by simp [agg_cells]) H ?_)
          clear H; intro h2 W H
          refine s_run (w_none rfl) rfl (d_build (vs := txC (some ⟨h1, 0, none⟩) 1 1 (some ⟨h2, 0, none⟩) 1 1 0) rfl (built_fields (places := [(0, 1), (1, 1), (2, 1)]) tz31 (by kernel_rfl) (by kernel_rfl) (fill_next (vs := [.slice (some ⟨h1, 0, none⟩) 1 1]) (.slice (some ⟨h1, 0, none⟩) 1 1) rfl rfl rfl rfl (Nat.le_of_ble_eq_true rfl) (fill_next (vs := [.slice (some ⟨h2, 0, none⟩) 1 1]) (.slice (some ⟨h2, 0, none⟩) 1 1) rfl (by rfl) rfl rfl (Nat.le_of_ble_eq_true rfl) (fill_end (by rfl)))))) ?_
          refine s_run (w_none rfl) rfl (d_fa rfl rfl tf33_6) ?_
          refine s_eff (e_stoK (recC (Rc.modR 4 (Rc.allR i)) (txC (some ⟨h1, 0, none⟩) 1 1 (some ⟨h2, 0, none⟩) 1 1 0)) (w_none rfl) rfl rfl rfl rfl rfl ts31 rfl rfl H (rec_le Rc.alls_d Rc.alls_s rfl (by decide)) (spl_r_tx (ct := zt) Rc.alls_d Rc.alls_s rfl) ?_)
          clear H; intro W H
          refine l_nil ?_
          refine k_nil ?_
          refine b_end ?_
          refine k_seq ?_
          refine k_region ?_
          refine s_run (w_none rfl) rfl (d_ldXM (g := g4) (off := 0) rfl H (sub_all (Rc.len_mods rfl)) (Rc.len_mods rfl) rfl rfl rfl ta33 ts33) ?_
          refine s_eff (e_call (w_none rfl) rfl rfl Tryd.func12 rfl rfl rfl (checkRT (r := Rc.modR 4 (Rc.allR i)) (ct := (txC (some ⟨h1, 0, none⟩) 1 1 (some ⟨h2, 0, none⟩) 1 1 0)) _ (Rc.ok_mod Rc.ok_alls) (rtx_4 (H.blk (g := h1)) (H.blk (g := h2)))) ?_)
          rintro _ W ⟨rfl, hb⟩
          replace H := H.below hb
          clear hb
          refine s_run (w_none rfl) rfl (d_eq rfl rfl rfl) ?_
          refine s_run (w_none rfl) rfl (mv_b rfl rfl) ?_
          refine s_run (w_none rfl) rfl (d_diff rfl rfl rfl tu4) ?_
          refine s_run (w_none rfl) rfl (mv_bx (c := false) rfl rfl (by rw [hl]; first | rfl | (simp; omega) | simp_all)) ?_
          refine s_run (w_g rfl rfl rfl rfl) rfl (mv_b rfl rfl) ?_
          refine s_run (w_g rfl rfl rfl rfl) rfl (d_not rfl rfl) ?_
          refine s_run (w_g rfl rfl rfl rfl) rfl (mv_bx (c := false) rfl rfl (by first | rfl | (simp; omega) | simp_all)) ?_
          refine s_skip (w_gno rfl rfl rfl rfl rfl) rfl ?_
          refine s_skip (w_gno rfl rfl rfl rfl rfl) rfl ?_
          refine s_skip (w_gno rfl rfl rfl rfl rfl) rfl ?_
          refine s_run (w_g rfl rfl rfl rfl) rfl (d_pickF rfl rfl rfl) ?_
          refine s_run (w_none rfl) rfl (d_pickF rfl rfl rfl) ?_
          refine l_nil ?_
          refine k_condF rfl (by first | rfl | (rw [hl]; rfl)) ?_
          refine k_skip ?_
          refine k_nil ?_
          refine b_end ?_
          refine k_region ?_
          refine s_run (w_none rfl) rfl (mv_i rfl rfl) ?_
          refine s_run (w_none rfl) rfl (d_add rfl rfl rfl (by omega)) ?_
          refine s_run (w_none rfl) rfl (as_i rfl rfl) ?_
          refine l_nil ?_
          refine k_nil ?_
          refine k_next ?_
          refine ⟨_, _, _, ?_, rfl, ?_, ?_, ⟨4 + 1, rfl, rfl, by omega, H.sub (L' := [_]) (by repeat (first | exact List.Sublist.refl _ | exact List.nil_sublist _ | refine List.Sublist.cons_cons _ ?_ | refine List.Sublist.cons _ ?_))⟩⟩
          · omega
          · repeat (first | ((with_reducible refine Eqo.updl _ Eqo.ovr ?_); exact rfl) | ((with_reducible refine Eqo.updl _ (Eqo.ovr2 ?_ ?_) ?_); rotate_left; exact rfl; exact rfl) | ((with_reducible refine Eqo.upd ?_ ?_); rotate_left; exact rfl))
          · refine ⟨?_, trivial⟩
            · exact vi (by omega)
      · have ho5 : Rc.ownB i k = false := by simp [Rc.ownB]; omega
        refine k_region ?_
        refine s_run (w_none rfl) rfl (mv_i rfl rfl) ?_
        refine s_run (w_none rfl) rfl (mv_i rfl rfl) ?_
        refine s_run (w_none rfl) rfl (d_eq rfl rfl rfl) ?_
        refine s_run (w_none rfl) rfl (mv_bx (c := false) rfl rfl (by simp; omega)) ?_
        refine s_run (w_g rfl rfl rfl rfl) rfl (mv_i rfl rfl) ?_
        refine s_run (w_g rfl rfl rfl rfl) rfl (d_eq rfl rfl rfl) ?_
        refine s_run (w_g rfl rfl rfl rfl) rfl (mv_bx (c := true) rfl rfl (by simp; omega)) ?_
        refine s_run (w_g rfl rfl rfl rfl) rfl (mv_i rfl rfl) ?_
        refine s_run (w_g rfl rfl rfl rfl) rfl (d_eq rfl rfl rfl) ?_
        refine s_run (w_g rfl rfl rfl rfl) rfl (d_pickT rfl rfl rfl) ?_
        refine s_run (w_none rfl) rfl (d_pickF rfl rfl rfl) ?_
        refine s_run (w_none rfl) rfl (as_b rfl rfl) ?_
        refine l_nil ?_
        refine k_seq ?_
        refine k_seq ?_
        have hl := Rc.law_mod i hlt k hlk
        rw [ho5] at hl
        obtain rfl : k = 4 := by omega
        · skip
          refine k_region ?_
          refine s_run (w_none rfl) rfl (mv_i rfl rfl) ?_
          refine l_nil ?_
          refine k_block ?_
          refine k_seq ?_
          refine k_region ?_
          refine s_run (w_none rfl) rfl (d_eq rfl rfl rfl) ?_
          refine s_run (w_none rfl) rfl (as_b rfl rfl) ?_
          refine l_nil ?_
          refine k_condF rfl (by first | rfl | decide) ?_
          refine k_seq ?_
          refine k_region ?_
          refine s_run (w_none rfl) rfl (d_eq rfl rfl rfl) ?_
          refine s_run (w_none rfl) rfl (as_b rfl rfl) ?_
          refine l_nil ?_
          refine k_condF rfl (by first | rfl | decide) ?_
          refine k_seq ?_
          refine k_region ?_
          refine s_run (w_none rfl) rfl (d_eq rfl rfl rfl) ?_
          refine s_run (w_none rfl) rfl (as_b rfl rfl) ?_
          refine l_nil ?_
          refine k_condF rfl (by first | rfl | decide) ?_
          refine k_seq ?_
          refine k_region ?_
          refine s_run (w_none rfl) rfl (d_eq rfl rfl rfl) ?_
          refine s_run (w_none rfl) rfl (as_b rfl rfl) ?_
          refine l_nil ?_
          refine k_condF rfl (by first | rfl | decide) ?_
          refine k_seq ?_
          refine k_region ?_
          refine s_run (w_none rfl) rfl (d_eq rfl rfl rfl) ?_
          refine s_run (w_none rfl) rfl (as_b rfl rfl) ?_
          refine l_nil ?_
          refine k_condT rfl (by first | rfl | decide) ?_
          refine k_region ?_
          refine s_run (w_none rfl) rfl (d_build (vs := inC zPt none 0 0) rfl (by kernel_rfl)) ?_
          refine s_eff (e_bsl (xs := [.tmp 73]) (vals := [.agg (inC zPt none 0 0).toArray]) (vs := (inC zPt none 0 0)) (w_none rfl) rfl rfl rfl rfl rfl rfl tu28 ts56 ty56 rfl (by simp [agg_cells, len_in (p := zPt) rfl]) (by simp [agg_cells]) H ?_)
          clear H; intro h1 W H
          refine s_run (w_none rfl) rfl (d_build (vs := outC 1 none 0 0) rfl (built_fields (places := [(0, 1), (1, 1)]) tz58 (by kernel_rfl) (by kernel_rfl) (fill_next (vs := [.int .i64 1]) (.int .i64 1) rfl rfl rfl rfl (Nat.le_of_ble_eq_true rfl) (fill_end (by rfl))))) ?_
          refine s_eff (e_bsl (xs := [.tmp 75]) (vals := [.agg (outC 1 none 0 0).toArray]) (vs := (outC 1 none 0 0)) (w_none rfl) rfl rfl rfl rfl rfl rfl tu29 ts58 ty58 rfl (by simp [agg_cells, outC]) (by simp [agg_cells]) H ?_)
          clear H; intro h2 W H
          refine s_run (w_none rfl) rfl (d_build (vs := txC (some ⟨h1, 0, none⟩) 1 1 (some ⟨h2, 0, none⟩) 1 1 0) rfl (built_fields (places := [(0, 1), (1, 1), (2, 1)]) tz31 (by kernel_rfl) (by kernel_rfl) (fill_next (vs := [.slice (some ⟨h1, 0, none⟩) 1 1]) (.slice (some ⟨h1, 0, none⟩) 1 1) rfl rfl rfl rfl (Nat.le_of_ble_eq_true rfl) (fill_next (vs := [.slice (some ⟨h2, 0, none⟩) 1 1]) (.slice (some ⟨h2, 0, none⟩) 1 1) rfl (by rfl) rfl rfl (Nat.le_of_ble_eq_true rfl) (fill_end (by rfl)))))) ?_
          refine s_run (w_none rfl) rfl (d_fa rfl rfl tf33_6) ?_
          refine s_eff (e_stoK (recC (Rc.modR 4 (Rc.allR i)) (txC (some ⟨h1, 0, none⟩) 1 1 (some ⟨h2, 0, none⟩) 1 1 0)) (w_none rfl) rfl rfl rfl rfl rfl ts31 rfl rfl H (rec_le Rc.alls_d Rc.alls_s rfl (by decide)) (spl_r_tx (ct := zt) Rc.alls_d Rc.alls_s rfl) ?_)
          clear H; intro W H
          refine l_nil ?_
          refine k_nil ?_
          refine b_end ?_
          refine k_seq ?_
          refine k_region ?_
          refine s_run (w_none rfl) rfl (d_ldXM (g := g4) (off := 0) rfl H (sub_all (Rc.len_mods rfl)) (Rc.len_mods rfl) rfl rfl rfl ta33 ts33) ?_
          refine s_eff (e_call (w_none rfl) rfl rfl Tryd.func12 rfl rfl rfl (checkRT (r := Rc.modR 4 (Rc.allR i)) (ct := (txC (some ⟨h1, 0, none⟩) 1 1 (some ⟨h2, 0, none⟩) 1 1 0)) _ (Rc.ok_mod Rc.ok_alls) (rtx_4 (H.blk (g := h1)) (H.blk (g := h2)))) ?_)
          rintro _ W ⟨rfl, hb⟩
          replace H := H.below hb
          clear hb
          refine s_run (w_none rfl) rfl (d_eq rfl rfl rfl) ?_
          refine s_run (w_none rfl) rfl (mv_b rfl rfl) ?_
          refine s_run (w_none rfl) rfl (d_diff rfl rfl rfl tu4) ?_
          refine s_run (w_none rfl) rfl (mv_bx (c := false) rfl rfl (by rw [hl]; first | rfl | (simp; omega) | simp_all)) ?_
          refine s_run (w_g rfl rfl rfl rfl) rfl (mv_b rfl rfl) ?_
          refine s_run (w_g rfl rfl rfl rfl) rfl (d_not rfl rfl) ?_
          refine s_run (w_g rfl rfl rfl rfl) rfl (mv_bx (c := true) rfl rfl (by first | rfl | (simp; omega) | simp_all)) ?_
          refine s_run (w_g rfl rfl rfl rfl) rfl (d_ldXM (g := g4) (off := 0) rfl H (sub_all (Rc.len_mods rfl)) (Rc.len_mods rfl) rfl rfl rfl ta33 ts33) ?_
          refine s_eff (e_call (w_g rfl rfl rfl rfl) rfl rfl Tryd.func12 rfl rfl rfl (checkRT (r := Rc.modR 4 (Rc.allR i)) (ct := (txC (some ⟨h1, 0, none⟩) 1 1 (some ⟨h2, 0, none⟩) 1 1 0)) _ (Rc.ok_mod Rc.ok_alls) (rtx_4 (H.blk (g := h1)) (H.blk (g := h2)))) ?_)
          rintro _ W ⟨rfl, hb⟩
          replace H := H.below hb
          clear hb
          refine s_run (w_g rfl rfl rfl rfl) rfl (d_ne rfl rfl rfl) ?_
          refine s_run (w_g rfl rfl rfl rfl) rfl (d_pickT rfl rfl rfl) ?_
          refine s_run (w_none rfl) rfl (d_pickF rfl rfl rfl) ?_
          refine l_nil ?_
          refine k_condF rfl (by first | rfl | (rw [hl]; rfl)) ?_
          refine k_skip ?_
          refine k_nil ?_
          refine b_end ?_
          refine k_region ?_
          refine s_run (w_none rfl) rfl (mv_i rfl rfl) ?_
          refine s_run (w_none rfl) rfl (d_add rfl rfl rfl (by omega)) ?_
          refine s_run (w_none rfl) rfl (as_i rfl rfl) ?_
          refine l_nil ?_
          refine k_nil ?_
          refine k_next ?_
          refine ⟨_, _, _, ?_, rfl, ?_, ?_, ⟨4 + 1, rfl, rfl, by omega, H.sub (L' := [_]) (by repeat (first | exact List.Sublist.refl _ | exact List.nil_sublist _ | refine List.Sublist.cons_cons _ ?_ | refine List.Sublist.cons _ ?_))⟩⟩
          · omega
          · repeat (first | ((with_reducible refine Eqo.updl _ Eqo.ovr ?_); exact rfl) | ((with_reducible refine Eqo.updl _ (Eqo.ovr2 ?_ ?_) ?_); rotate_left; exact rfl; exact rfl) | ((with_reducible refine Eqo.upd ?_ ?_); rotate_left; exact rfl))
          · refine ⟨?_, trivial⟩
            · exact vi (by omega)
    · skip
      refine k_exit ?_
      refine x_then (x_then ?_)
      refine x_hit ?_
      refine k_seq ?_
      refine k_region ?_
      refine s_run (w_none rfl) rfl (mv_s rfl rfl) ?_
      refine s_run (w_none rfl) rfl (mv_i rfl rfl) ?_
      refine s_run (w_none rfl) rfl (d_iaP (q := i) rfl rfl rfl rfl hlt tu51 ts33) ?_
      refine s_run (w_none rfl) rfl (d_ldXM (g := ga) (off := 0 + i * 80) rfl H (Rc.sub_alls hlt) Rc.len_alls rfl rfl rfl ta33 ts33) ?_
      refine s_eff (e_alloc (w_none rfl) rfl rfl (recC Rc.zero zt) tz33 H ?_)
      clear H; intro g6 W H
      refine s_eff (e_stoK (recC (Rc.allR i) zt) (w_none rfl) rfl rfl rfl rfl rfl ts33 Rc.len_alls (rec_one rfl) H (by rw [len_rec rfl rfl rfl]; decide) (spl_all (Rc.len_alls.trans (len_rec rfl rfl rfl).symm)) ?_)
      clear H; intro W H
      refine l_nil ?_
      refine k_seq ?_
      refine k_region ?_
      refine s_run (w_none rfl) rfl (d_fa rfl rfl tf33_1) ?_
      refine s_eff (e_stoK (v := .int .i64 0) (vs := [.int .i64 0]) (recC (Rc.setId (Rc.allR i) 0) zt) (w_none rfl) rfl rfl rfl rfl rfl ts3 rfl rfl H (rec_le Rc.alls_d Rc.alls_s rfl (by decide)) spl_r_id ?_)
      clear H; intro W H
      refine l_nil ?_
      refine k_seq ?_
      refine k_region ?_
      refine s_run (w_none rfl) rfl (d_ldXM (g := g6) (off := 0) rfl H (sub_all Rc.len_ids) Rc.len_ids rfl rfl rfl ta33 ts33) ?_
      refine s_eff (e_call (w_none rfl) rfl rfl Tryd.func12 rfl rfl rfl (checkRT (r := Rc.setId (Rc.allR i) 0) (ct := zt) (S := nT) _ (Rc.ok_id Rc.ok_alls Rc.i64_0) (tx_zero Rc.alls_t)) ?_)
      rintro _ W ⟨rfl, hb⟩
      replace H := H.below hb
      clear hb
      refine s_run (w_none rfl) rfl (d_ne rfl rfl rfl) ?_
      refine l_nil ?_
      refine k_condF rfl (by rw [Rc.law_id i hlt]; rfl) ?_
      refine k_skip ?_
      refine k_nil ?_
      refine b_end ?_
      refine k_region ?_
      refine s_run (w_none rfl) rfl (mv_i rfl rfl) ?_
      refine s_run (w_none rfl) rfl (d_add rfl rfl rfl (by omega)) ?_
      refine s_run (w_none rfl) rfl (as_i rfl rfl) ?_
      refine l_nil ?_
      refine k_nil ?_
      refine k_next ?_
      refine ⟨_, _, _, ?_, rfl, ?_, ?_, ⟨i + 1, rfl, rfl, by omega, H.sub (L' := [_]) (by repeat (first | exact List.Sublist.refl _ | exact List.nil_sublist _ | refine List.Sublist.cons_cons _ ?_ | refine List.Sublist.cons _ ?_))⟩⟩
      · omega
      · repeat (first | ((with_reducible refine Eqo.updl _ Eqo.ovr ?_); exact rfl) | ((with_reducible refine Eqo.updl _ (Eqo.ovr2 ?_ ?_) ?_); rotate_left; exact rfl; exact rfl) | ((with_reducible refine Eqo.upd ?_ ?_); rotate_left; exact rfl))
      · refine ⟨?_, trivial⟩
        · exact vi (by omega)
  · skip
    refine k_exit ?_
    refine x_then (x_then ?_)
    refine x_hit ?_
    refine k_seq ?_
    refine k_region ?_
    refine s_run (w_none rfl) rfl (mv_s rfl rfl) ?_
    refine s_run (w_none rfl) rfl (d_iaP (q := 2) rfl rfl rfl rfl (by decide) tu51 ts33) ?_
    refine s_run (w_none rfl) rfl (d_ldXM (g := ga) (off := 0 + 2 * 80) rfl H (Rc.sub_alls (by decide)) Rc.len_alls rfl rfl rfl ta33 ts33) ?_
    refine s_eff (e_call (w_none rfl) rfl rfl Tryd.func8 rfl rfl rfl (putRT (r := Rc.allR 2) (ct := zt) (S := nT) _ Rc.ok_alls (tx_zero Rc.alls_t) (H.gat hG)) ?_)
    rintro _ W ⟨_, rfl, A1, c1, rfl, hc1, hd1, hn⟩
    replace H := H.new hn
    clear hn
    refine s_run (w_none rfl) rfl (mv_t rfl rfl) ?_
    refine s_run (w_none rfl) rfl (d_ext rfl rfl rfl) ?_
    refine s_run (w_none rfl) rfl (d_ext rfl rfl rfl) ?_
    refine s_run (w_none rfl) rfl (as_s rfl rfl) ?_
    refine s_run (w_none rfl) rfl (as_i rfl rfl) ?_
    refine l_nil ?_
    refine k_seq ?_
    refine k_region ?_
    refine s_run (w_none rfl) rfl (mv_s rfl rfl) ?_
    refine s_run (w_none rfl) rfl (d_iaP (q := 0) rfl rfl rfl rfl (by decide) tu51 ts33) ?_
    refine s_run (w_none rfl) rfl (d_ldXM (g := ga) (off := 0 + 0 * 80) rfl H (Rc.sub_alls (by decide)) Rc.len_alls rfl rfl rfl ta33 ts33) ?_
    refine s_eff (e_alloc (w_none rfl) rfl rfl (recC Rc.zero zt) tz33 H ?_)
    clear H; intro g9 W H
    refine s_eff (e_stoK (recC (Rc.allR 0) zt) (w_none rfl) rfl rfl rfl rfl rfl ts33 Rc.len_alls (rec_one rfl) H (by rw [len_rec rfl rfl rfl]; decide) (spl_all (Rc.len_alls.trans (len_rec rfl rfl rfl).symm)) ?_)
    clear H; intro W H
    refine l_nil ?_
    refine k_seq ?_
    refine k_region ?_
    refine s_run (w_none rfl) rfl (d_fa rfl rfl tf33_1) ?_
    refine s_eff (e_stoK (v := .int .i64 8) (vs := [.int .i64 8]) (recC (Rc.setId (Rc.allR 0) 8) zt) (w_none rfl) rfl rfl rfl rfl rfl ts3 rfl rfl H (rec_le Rc.alls_d Rc.alls_s rfl (by decide)) spl_r_id ?_)
    clear H; intro W H
    refine l_nil ?_
    refine k_seq ?_
    refine k_cut 112 [10] (fun sl W => ∃ g10 : Nat, ∃ h3 : Nat, ∃ h4 : Nat, ∃ h5 : Nat, ∃ h6 : Nat, sl = [(10, .pointer (some ⟨g10, 0, none⟩))] ∧ St nT w W [Fact.blk g10 (recC Rc.long (txC (some ⟨h5, 0, none⟩) 1 1 (some ⟨h6, 0, none⟩) 2 2 0)) 33, Fact.blk h5 (inC zPt none 0 0) 56, Fact.blk h6 (outC 1 (some ⟨h3, 0, none⟩) 256 256 ++ outC 1 (some ⟨h4, 0, none⟩) 256 256) 58, Fact.blk h3 ((List.replicate 256 (0 : UInt8)).map u8v) 5, Fact.blk h4 ((List.replicate 256 (0 : UInt8)).map u8v) 5, Fact.blk g9 (recC (Rc.setId (Rc.allR 0) 8) zt) 33, Fact.row 5 1 (.slice A1 (Rc.put (Rc.allR 2)).1.length c1) (Rc.put (Rc.allR 2)).1.length ((Rc.put (Rc.allR 2)).1.map u8v), Fact.blk ga Rc.allC 33]) ?_ (fun sl ρv W hJ => ?_)
    · skip
      refine k_drawT (.rd 5 (.many 9 [0, 2, 6, 9] fun j => (bif Nat.beq j 0 then (.rd 1 (.many 7 [2, 6, 9] fun j => (bif Nat.beq j 2 then (.rd 3 (.many 5 [4, 6, 9] fun j => (bif Nat.beq j 4 then (.many 4 [6, 9] fun j => (bif Nat.beq j 6 then (.rd 7 (.rd 8 (.ef 9 (.ef 10 .nil)))) else (.ef 6 (.rd 7 (.rd 8 (.ef 10 .nil)))))) else (bif Nat.beq j 6 then (.many 4 [4, 9] fun j => (bif Nat.beq j 4 then (.rd 7 (.rd 8 (.ef 9 (.ef 10 .nil)))) else (.ef 4 (.rd 7 (.rd 8 (.ef 10 .nil)))))) else (.many 4 [4, 6] fun j => (bif Nat.beq j 4 then (.ef 6 (.rd 7 (.rd 8 (.ef 10 .nil)))) else (.ef 4 (.rd 7 (.rd 8 (.ef 10 .nil)))))))))) else (bif Nat.beq j 6 then (.many 6 [2, 9] fun j => (bif Nat.beq j 2 then (.rd 3 (.many 4 [4, 9] fun j => (bif Nat.beq j 4 then (.rd 7 (.rd 8 (.ef 9 (.ef 10 .nil)))) else (.ef 4 (.rd 7 (.rd 8 (.ef 10 .nil))))))) else (.ef 2 (.rd 3 (.ef 4 (.rd 7 (.rd 8 (.ef 10 .nil)))))))) else (.many 6 [2, 6] fun j => (bif Nat.beq j 2 then (.rd 3 (.many 4 [4, 6] fun j => (bif Nat.beq j 4 then (.ef 6 (.rd 7 (.rd 8 (.ef 10 .nil)))) else (.ef 4 (.rd 7 (.rd 8 (.ef 10 .nil))))))) else (.ef 2 (.rd 3 (.ef 4 (.rd 7 (.rd 8 (.ef 10 .nil)))))))))))) else (bif Nat.beq j 2 then (.rd 3 (.many 7 [0, 6, 9] fun j => (bif Nat.beq j 0 then (.rd 1 (.many 5 [4, 6, 9] fun j => (bif Nat.beq j 4 then (.many 4 [6, 9] fun j => (bif Nat.beq j 6 then (.rd 7 (.rd 8 (.ef 9 (.ef 10 .nil)))) else (.ef 6 (.rd 7 (.rd 8 (.ef 10 .nil)))))) else (bif Nat.beq j 6 then (.many 4 [4, 9] fun j => (bif Nat.beq j 4 then (.rd 7 (.rd 8 (.ef 9 (.ef 10 .nil)))) else (.ef 4 (.rd 7 (.rd 8 (.ef 10 .nil)))))) else (.many 4 [4, 6] fun j => (bif Nat.beq j 4 then (.ef 6 (.rd 7 (.rd 8 (.ef 10 .nil)))) else (.ef 4 (.rd 7 (.rd 8 (.ef 10 .nil)))))))))) else (bif Nat.beq j 6 then (.many 6 [0, 9] fun j => (bif Nat.beq j 0 then (.rd 1 (.many 4 [4, 9] fun j => (bif Nat.beq j 4 then (.rd 7 (.rd 8 (.ef 9 (.ef 10 .nil)))) else (.ef 4 (.rd 7 (.rd 8 (.ef 10 .nil))))))) else (.ef 0 (.rd 1 (.ef 4 (.rd 7 (.rd 8 (.ef 10 .nil)))))))) else (.many 6 [0, 6] fun j => (bif Nat.beq j 0 then (.rd 1 (.many 4 [4, 6] fun j => (bif Nat.beq j 4 then (.ef 6 (.rd 7 (.rd 8 (.ef 10 .nil)))) else (.ef 4 (.rd 7 (.rd 8 (.ef 10 .nil))))))) else (.ef 0 (.rd 1 (.ef 4 (.rd 7 (.rd 8 (.ef 10 .nil)))))))))))) else (bif Nat.beq j 6 then (.many 8 [0, 2, 9] fun j => (bif Nat.beq j 0 then (.rd 1 (.many 6 [2, 9] fun j => (bif Nat.beq j 2 then (.rd 3 (.many 4 [4, 9] fun j => (bif Nat.beq j 4 then (.rd 7 (.rd 8 (.ef 9 (.ef 10 .nil)))) else (.ef 4 (.rd 7 (.rd 8 (.ef 10 .nil))))))) else (.ef 2 (.rd 3 (.ef 4 (.rd 7 (.rd 8 (.ef 10 .nil))))))))) else (bif Nat.beq j 2 then (.rd 3 (.many 6 [0, 9] fun j => (bif Nat.beq j 0 then (.rd 1 (.many 4 [4, 9] fun j => (bif Nat.beq j 4 then (.rd 7 (.rd 8 (.ef 9 (.ef 10 .nil)))) else (.ef 4 (.rd 7 (.rd 8 (.ef 10 .nil))))))) else (.ef 0 (.rd 1 (.ef 4 (.rd 7 (.rd 8 (.ef 10 .nil))))))))) else (.many 7 [0, 2] fun j => (bif Nat.beq j 0 then (.rd 1 (.ef 2 (.rd 3 (.ef 4 (.rd 7 (.rd 8 (.ef 10 .nil))))))) else (.rd 3 (.ef 0 (.rd 1 (.ef 4 (.rd 7 (.rd 8 (.ef 10 .nil)))))))))))) else (.many 8 [0, 2, 6] fun j => (bif Nat.beq j 0 then (.rd 1 (.many 6 [2, 6] fun j => (bif Nat.beq j 2 then (.rd 3 (.many 4 [4, 6] fun j => (bif Nat.beq j 4 then (.ef 6 (.rd 7 (.rd 8 (.ef 10 .nil)))) else (.ef 4 (.rd 7 (.rd 8 (.ef 10 .nil))))))) else (.ef 2 (.rd 3 (.ef 4 (.rd 7 (.rd 8 (.ef 10 .nil))))))))) else (bif Nat.beq j 2 then (.rd 3 (.many 6 [0, 6] fun j => (bif Nat.beq j 0 then (.rd 1 (.many 4 [4, 6] fun j => (bif Nat.beq j 4 then (.ef 6 (.rd 7 (.rd 8 (.ef 10 .nil)))) else (.ef 4 (.rd 7 (.rd 8 (.ef 10 .nil))))))) else (.ef 0 (.rd 1 (.ef 4 (.rd 7 (.rd 8 (.ef 10 .nil))))))))) else (.many 7 [0, 2] fun j => (bif Nat.beq j 0 then (.rd 1 (.ef 2 (.rd 3 (.ef 4 (.rd 7 (.rd 8 (.ef 10 .nil))))))) else (.rd 3 (.ef 0 (.rd 1 (.ef 4 (.rd 7 (.rd 8 (.ef 10 .nil))))))))))))))))) [Fact.blk g9 (recC (Rc.setId (Rc.allR 0) 8) zt) 33, Fact.row 5 1 (.slice A1 (Rc.put (Rc.allR 2)).1.length c1) (Rc.put (Rc.allR 2)).1.length ((Rc.put (Rc.allR 2)).1.map u8v), Fact.blk ga Rc.allC 33] (by kernel_rfl) (by kernel_rfl) H (by repeat (first | exact List.Sublist.refl _ | exact List.nil_sublist _ | refine List.Sublist.cons_cons _ ?_ | refine List.Sublist.cons _ ?_)) ?_
      clear H; intro W H
      refine t_run rfl (w_none rfl) rfl (fun W H => d_build (vs := inC zPt none 0 0) rfl (by kernel_rfl)) ?_
      refine t_each ?_ ?_
      · skip
        refine t_eff rfl (e_mks (w_none rfl) rfl rfl rfl rfl (m := 256) rfl (by omega) tu34 tz5 tx5 H ?_)
        clear H; intro h3 W H
        refine ⟨_, fun _ h => h, H.sub (by repeat (first | exact .refl _ | refine .cons _ ?_)), ?_⟩
        refine t_run rfl (w_none rfl) rfl (fun W H => b_out rfl rfl) ?_
        refine t_each ?_ ?_
        · skip
          refine t_eff rfl (e_mks (w_none rfl) rfl rfl rfl rfl (m := 256) rfl (by omega) tu34 tz5 tx5 H ?_)
          clear H; intro h4 W H
          refine ⟨_, fun _ h => h, H.sub (by repeat (first | exact .refl _ | refine .cons _ ?_)), ?_⟩
          refine t_run rfl (w_none rfl) rfl (fun W H => b_out rfl rfl) ?_
          refine t_each ?_ ?_
          · skip
            refine t_eff rfl (e_bsl (xs := [.tmp 113, .tmp 115]) (vals := [.agg (outC 1 (some ⟨h3, 0, none⟩) 256 256).toArray, .agg (outC 1 (some ⟨h4, 0, none⟩) 256 256).toArray]) (vs := (outC 1 (some ⟨h3, 0, none⟩) 256 256 ++ outC 1 (some ⟨h4, 0, none⟩) 256 256)) (w_none rfl) rfl rfl rfl rfl rfl rfl tu29 ts58 ty58 rfl (by simp [agg_cells, outC]) (by simp [agg_cells]) H ?_)
            clear H; intro h6 W H
            refine ⟨_, fun _ h => h, H.sub (by repeat (first | exact .refl _ | refine .cons _ ?_)), ?_⟩
            refine t_each ?_ ?_
            · skip
              refine t_eff rfl (e_bsl (xs := [.tmp 117]) (vals := [.agg (inC zPt none 0 0).toArray]) (vs := (inC zPt none 0 0)) (w_none rfl) rfl rfl rfl rfl rfl rfl tu28 ts56 ty56 rfl (by simp [agg_cells, len_in (p := zPt) rfl]) (by simp [agg_cells]) H ?_)
              clear H; intro h5 W H
              refine ⟨_, fun _ h => h, H.sub (by repeat (first | exact .refl _ | refine .cons _ ?_)), ?_⟩
              refine t_run rfl (w_none rfl) rfl (fun W H => b_tx rfl rfl rfl) ?_
              refine t_run rfl (w_none rfl) rfl (fun W H => b_long rfl rfl) ?_
              refine t_eff rfl (e_alloc (w_none rfl) rfl rfl (recC Rc.zero zt) tz33 H ?_)
              clear H; intro g10 W H
              refine ⟨_, fun _ h => h, H.sub (by repeat (first | exact .refl _ | refine .cons _ ?_)), ?_⟩
              refine t_eff rfl (e_stoK (recC Rc.long (txC (some ⟨h5, 0, none⟩) 1 1 (some ⟨h6, 0, none⟩) 2 2 0)) (w_none rfl) rfl rfl rfl rfl rfl ts33 (len_rec rfl rfl rfl) (rec_one rfl) H (by rw [len_rec rfl rfl rfl]; decide) (spl_all ((len_rec rfl rfl rfl).trans (len_rec rfl rfl rfl).symm)) ?_)
              clear H; intro W H
              refine ⟨_, fun _ h => h, H.sub (by repeat (first | exact .refl _ | refine .cons _ ?_)), ?_⟩
              refine t_nil ?_
              refine k_nil ?_
              refine n_then ?_
              refine ⟨_, _, rfl, ?_, ?_, ⟨g10, h3, h4, h5, h6, rfl, H.perm (by repeat (first | exact .refl _ | refine .cons _ ?_ | refine .trans (.cons _ ?_) (List.perm_middle (l₁ := [_])).symm | refine .trans (.cons _ ?_) (List.perm_middle (l₁ := [_, _])).symm | refine .trans (.cons _ ?_) (List.perm_middle (l₁ := [_, _, _])).symm | refine .trans (.cons _ ?_) (List.perm_middle (l₁ := [_, _, _, _])).symm | refine .trans (.cons _ ?_) (List.perm_middle (l₁ := [_, _, _, _, _])).symm | refine .trans (.cons _ ?_) (List.perm_middle (l₁ := [_, _, _, _, _, _])).symm | refine .trans (.cons _ ?_) (List.perm_middle (l₁ := [_, _, _, _, _, _, _])).symm))⟩⟩
              · repeat (first | (with_reducible exact Eqo.refl) | ((with_reducible refine Eqo.updl _ (Eqo.ovr2 ?_ ?_) ?_); rotate_left; exact rfl; exact rfl) | ((with_reducible refine Eqo.upd ?_ ?_); rotate_left; exact rfl))
              · refine ⟨?_, trivial⟩
                · exact rfl
            refine t_each ?_ ?_
            · skip
              refine t_eff rfl (e_alloc (w_none rfl) rfl rfl (recC Rc.zero zt) tz33 H ?_)
              clear H; intro g10 W H
              refine ⟨_, fun _ h => h, H.sub (by repeat (first | exact .refl _ | refine .cons _ ?_)), ?_⟩
              refine t_eff rfl (e_bsl (xs := [.tmp 117]) (vals := [.agg (inC zPt none 0 0).toArray]) (vs := (inC zPt none 0 0)) (w_none rfl) rfl rfl rfl rfl rfl rfl tu28 ts56 ty56 rfl (by simp [agg_cells, len_in (p := zPt) rfl]) (by simp [agg_cells]) H ?_)
              clear H; intro h5 W H
              refine ⟨_, fun _ h => h, H.sub (by repeat (first | exact .refl _ | refine .cons _ ?_)), ?_⟩
              refine t_run rfl (w_none rfl) rfl (fun W H => b_tx rfl rfl rfl) ?_
              refine t_run rfl (w_none rfl) rfl (fun W H => b_long rfl rfl) ?_
              refine t_eff rfl (e_stoK (recC Rc.long (txC (some ⟨h5, 0, none⟩) 1 1 (some ⟨h6, 0, none⟩) 2 2 0)) (w_none rfl) rfl rfl rfl rfl rfl ts33 (len_rec rfl rfl rfl) (rec_one rfl) H (by rw [len_rec rfl rfl rfl]; decide) (spl_all ((len_rec rfl rfl rfl).trans (len_rec rfl rfl rfl).symm)) ?_)
              clear H; intro W H
              refine ⟨_, fun _ h => h, H.sub (by repeat (first | exact .refl _ | refine .cons _ ?_)), ?_⟩
              refine t_nil ?_
              refine k_nil ?_
              refine n_then ?_
              refine ⟨_, _, rfl, ?_, ?_, ⟨g10, h3, h4, h5, h6, rfl, H.perm (by repeat (first | exact .refl _ | refine .cons _ ?_ | refine .trans (.cons _ ?_) (List.perm_middle (l₁ := [_])).symm | refine .trans (.cons _ ?_) (List.perm_middle (l₁ := [_, _])).symm | refine .trans (.cons _ ?_) (List.perm_middle (l₁ := [_, _, _])).symm | refine .trans (.cons _ ?_) (List.perm_middle (l₁ := [_, _, _, _])).symm | refine .trans (.cons _ ?_) (List.perm_middle (l₁ := [_, _, _, _, _])).symm | refine .trans (.cons _ ?_) (List.perm_middle (l₁ := [_, _, _, _, _, _])).symm | refine .trans (.cons _ ?_) (List.perm_middle (l₁ := [_, _, _, _, _, _, _])).symm))⟩⟩
              · repeat (first | (with_reducible exact Eqo.refl) | ((with_reducible refine Eqo.updl _ (Eqo.ovr2 ?_ ?_) ?_); rotate_left; exact rfl; exact rfl) | ((with_reducible refine Eqo.upd ?_ ?_); rotate_left; exact rfl))
              · refine ⟨?_, trivial⟩
                · exact rfl
            exact t_none
          refine t_each ?_ ?_
          · skip
            refine t_eff rfl (e_bsl (xs := [.tmp 117]) (vals := [.agg (inC zPt none 0 0).toArray]) (vs := (inC zPt none 0 0)) (w_none rfl) rfl rfl rfl rfl rfl rfl tu28 ts56 ty56 rfl (by simp [agg_cells, len_in (p := zPt) rfl]) (by simp [agg_cells]) H ?_)
            clear H; intro h5 W H
            refine ⟨_, fun _ h => h, H.sub (by repeat (first | exact .refl _ | refine .cons _ ?_)), ?_⟩
            refine t_each ?_ ?_
            · skip
              refine t_eff rfl (e_bsl (xs := [.tmp 113, .tmp 115]) (vals := [.agg (outC 1 (some ⟨h3, 0, none⟩) 256 256).toArray, .agg (outC 1 (some ⟨h4, 0, none⟩) 256 256).toArray]) (vs := (outC 1 (some ⟨h3, 0, none⟩) 256 256 ++ outC 1 (some ⟨h4, 0, none⟩) 256 256)) (w_none rfl) rfl rfl rfl rfl rfl rfl tu29 ts58 ty58 rfl (by simp [agg_cells, outC]) (by simp [agg_cells]) H ?_)
              clear H; intro h6 W H
              refine ⟨_, fun _ h => h, H.sub (by repeat (first | exact .refl _ | refine .cons _ ?_)), ?_⟩
              refine t_run rfl (w_none rfl) rfl (fun W H => b_tx rfl rfl rfl) ?_
              refine t_run rfl (w_none rfl) rfl (fun W H => b_long rfl rfl) ?_
              refine t_eff rfl (e_alloc (w_none rfl) rfl rfl (recC Rc.zero zt) tz33 H ?_)
              clear H; intro g10 W H
              refine ⟨_, fun _ h => h, H.sub (by repeat (first | exact .refl _ | refine .cons _ ?_)), ?_⟩
              refine t_eff rfl (e_stoK (recC Rc.long (txC (some ⟨h5, 0, none⟩) 1 1 (some ⟨h6, 0, none⟩) 2 2 0)) (w_none rfl) rfl rfl rfl rfl rfl ts33 (len_rec rfl rfl rfl) (rec_one rfl) H (by rw [len_rec rfl rfl rfl]; decide) (spl_all ((len_rec rfl rfl rfl).trans (len_rec rfl rfl rfl).symm)) ?_)
              clear H; intro W H
              refine ⟨_, fun _ h => h, H.sub (by repeat (first | exact .refl _ | refine .cons _ ?_)), ?_⟩
              refine t_nil ?_
              refine k_nil ?_
              refine n_then ?_
              refine ⟨_, _, rfl, ?_, ?_, ⟨g10, h3, h4, h5, h6, rfl, H.perm (by repeat (first | exact .refl _ | refine .cons _ ?_ | refine .trans (.cons _ ?_) (List.perm_middle (l₁ := [_])).symm | refine .trans (.cons _ ?_) (List.perm_middle (l₁ := [_, _])).symm | refine .trans (.cons _ ?_) (List.perm_middle (l₁ := [_, _, _])).symm | refine .trans (.cons _ ?_) (List.perm_middle (l₁ := [_, _, _, _])).symm | refine .trans (.cons _ ?_) (List.perm_middle (l₁ := [_, _, _, _, _])).symm | refine .trans (.cons _ ?_) (List.perm_middle (l₁ := [_, _, _, _, _, _])).symm | refine .trans (.cons _ ?_) (List.perm_middle (l₁ := [_, _, _, _, _, _, _])).symm))⟩⟩
              · repeat (first | (with_reducible exact Eqo.refl) | ((with_reducible refine Eqo.updl _ (Eqo.ovr2 ?_ ?_) ?_); rotate_left; exact rfl; exact rfl) | ((with_reducible refine Eqo.upd ?_ ?_); rotate_left; exact rfl))
              · refine ⟨?_, trivial⟩
                · exact rfl
            refine t_each ?_ ?_
            · skip
              refine t_eff rfl (e_alloc (w_none rfl) rfl rfl (recC Rc.zero zt) tz33 H ?_)
              clear H; intro g10 W H
              refine ⟨_, fun _ h => h, H.sub (by repeat (first | exact .refl _ | refine .cons _ ?_)), ?_⟩
              refine t_eff rfl (e_bsl (xs := [.tmp 113, .tmp 115]) (vals := [.agg (outC 1 (some ⟨h3, 0, none⟩) 256 256).toArray, .agg (outC 1 (some ⟨h4, 0, none⟩) 256 256).toArray]) (vs := (outC 1 (some ⟨h3, 0, none⟩) 256 256 ++ outC 1 (some ⟨h4, 0, none⟩) 256 256)) (w_none rfl) rfl rfl rfl rfl rfl rfl tu29 ts58 ty58 rfl (by simp [agg_cells, outC]) (by simp [agg_cells]) H ?_)
              clear H; intro h6 W H
              refine ⟨_, fun _ h => h, H.sub (by repeat (first | exact .refl _ | refine .cons _ ?_)), ?_⟩
              refine t_run rfl (w_none rfl) rfl (fun W H => b_tx rfl rfl rfl) ?_
              refine t_run rfl (w_none rfl) rfl (fun W H => b_long rfl rfl) ?_
              refine t_eff rfl (e_stoK (recC Rc.long (txC (some ⟨h5, 0, none⟩) 1 1 (some ⟨h6, 0, none⟩) 2 2 0)) (w_none rfl) rfl rfl rfl rfl rfl ts33 (len_rec rfl rfl rfl) (rec_one rfl) H (by rw [len_rec rfl rfl rfl]; decide) (spl_all ((len_rec rfl rfl rfl).trans (len_rec rfl rfl rfl).symm)) ?_)
              clear H; intro W H
              refine ⟨_, fun _ h => h, H.sub (by repeat (first | exact .refl _ | refine .cons _ ?_)), ?_⟩
              refine t_nil ?_
              refine k_nil ?_
              refine n_then ?_
              refine ⟨_, _, rfl, ?_, ?_, ⟨g10, h3, h4, h5, h6, rfl, H.perm (by repeat (first | exact .refl _ | refine .cons _ ?_ | refine .trans (.cons _ ?_) (List.perm_middle (l₁ := [_])).symm | refine .trans (.cons _ ?_) (List.perm_middle (l₁ := [_, _])).symm | refine .trans (.cons _ ?_) (List.perm_middle (l₁ := [_, _, _])).symm | refine .trans (.cons _ ?_) (List.perm_middle (l₁ := [_, _, _, _])).symm | refine .trans (.cons _ ?_) (List.perm_middle (l₁ := [_, _, _, _, _])).symm | refine .trans (.cons _ ?_) (List.perm_middle (l₁ := [_, _, _, _, _, _])).symm | refine .trans (.cons _ ?_) (List.perm_middle (l₁ := [_, _, _, _, _, _, _])).symm))⟩⟩
              · repeat (first | (with_reducible exact Eqo.refl) | ((with_reducible refine Eqo.updl _ (Eqo.ovr2 ?_ ?_) ?_); rotate_left; exact rfl; exact rfl) | ((with_reducible refine Eqo.upd ?_ ?_); rotate_left; exact rfl))
              · refine ⟨?_, trivial⟩
                · exact rfl
            exact t_none
          refine t_each ?_ ?_
          · skip
            refine t_eff rfl (e_alloc (w_none rfl) rfl rfl (recC Rc.zero zt) tz33 H ?_)
            clear H; intro g10 W H
            refine ⟨_, fun _ h => h, H.sub (by repeat (first | exact .refl _ | refine .cons _ ?_)), ?_⟩
            refine t_each ?_ ?_
            · skip
              refine t_eff rfl (e_bsl (xs := [.tmp 113, .tmp 115]) (vals := [.agg (outC 1 (some ⟨h3, 0, none⟩) 256 256).toArray, .agg (outC 1 (some ⟨h4, 0, none⟩) 256 256).toArray]) (vs := (outC 1 (some ⟨h3, 0, none⟩) 256 256 ++ outC 1 (some ⟨h4, 0, none⟩) 256 256)) (w_none rfl) rfl rfl rfl rfl rfl rfl tu29 ts58 ty58 rfl (by simp [agg_cells, outC]) (by simp [agg_cells]) H ?_)
              clear H; intro h6 W H
              refine ⟨_, fun _ h => h, H.sub (by repeat (first | exact .refl _ | refine .cons _ ?_)), ?_⟩
              refine t_eff rfl (e_bsl (xs := [.tmp 117]) (vals := [.agg (inC zPt none 0 0).toArray]) (vs := (inC zPt none 0 0)) (w_none rfl) rfl rfl rfl rfl rfl rfl tu28 ts56 ty56 rfl (by simp [agg_cells, len_in (p := zPt) rfl]) (by simp [agg_cells]) H ?_)
              clear H; intro h5 W H
              refine ⟨_, fun _ h => h, H.sub (by repeat (first | exact .refl _ | refine .cons _ ?_)), ?_⟩
              refine t_run rfl (w_none rfl) rfl (fun W H => b_tx rfl rfl rfl) ?_
              refine t_run rfl (w_none rfl) rfl (fun W H => b_long rfl rfl) ?_
              refine t_eff rfl (e_stoK (recC Rc.long (txC (some ⟨h5, 0, none⟩) 1 1 (some ⟨h6, 0, none⟩) 2 2 0)) (w_none rfl) rfl rfl rfl rfl rfl ts33 (len_rec rfl rfl rfl) (rec_one rfl) H (by rw [len_rec rfl rfl rfl]; decide) (spl_all ((len_rec rfl rfl rfl).trans (len_rec rfl rfl rfl).symm)) ?_)
              clear H; intro W H
              refine ⟨_, fun _ h => h, H.sub (by repeat (first | exact .refl _ | refine .cons _ ?_)), ?_⟩
              refine t_nil ?_
              refine k_nil ?_
              refine n_then ?_
              refine ⟨_, _, rfl, ?_, ?_, ⟨g10, h3, h4, h5, h6, rfl, H.perm (by repeat (first | exact .refl _ | refine .cons _ ?_ | refine .trans (.cons _ ?_) (List.perm_middle (l₁ := [_])).symm | refine .trans (.cons _ ?_) (List.perm_middle (l₁ := [_, _])).symm | refine .trans (.cons _ ?_) (List.perm_middle (l₁ := [_, _, _])).symm | refine .trans (.cons _ ?_) (List.perm_middle (l₁ := [_, _, _, _])).symm | refine .trans (.cons _ ?_) (List.perm_middle (l₁ := [_, _, _, _, _])).symm | refine .trans (.cons _ ?_) (List.perm_middle (l₁ := [_, _, _, _, _, _])).symm | refine .trans (.cons _ ?_) (List.perm_middle (l₁ := [_, _, _, _, _, _, _])).symm))⟩⟩
              · repeat (first | (with_reducible exact Eqo.refl) | ((with_reducible refine Eqo.updl _ (Eqo.ovr2 ?_ ?_) ?_); rotate_left; exact rfl; exact rfl) | ((with_reducible refine Eqo.upd ?_ ?_); rotate_left; exact rfl))
              · refine ⟨?_, trivial⟩
                · exact rfl
            refine t_each ?_ ?_
            · skip
              refine t_eff rfl (e_bsl (xs := [.tmp 117]) (vals := [.agg (inC zPt none 0 0).toArray]) (vs := (inC zPt none 0 0)) (w_none rfl) rfl rfl rfl rfl rfl rfl tu28 ts56 ty56 rfl (by simp [agg_cells, len_in (p := zPt) rfl]) (by simp [agg_cells]) H ?_)
              clear H; intro h5 W H
              refine ⟨_, fun _ h => h, H.sub (by repeat (first | exact .refl _ | refine .cons _ ?_)), ?_⟩
              refine t_eff rfl (e_bsl (xs := [.tmp 113, .tmp 115]) (vals := [.agg (outC 1 (some ⟨h3, 0, none⟩) 256 256).toArray, .agg (outC 1 (some ⟨h4, 0, none⟩) 256 256).toArray]) (vs := (outC 1 (some ⟨h3, 0, none⟩) 256 256 ++ outC 1 (some ⟨h4, 0, none⟩) 256 256)) (w_none rfl) rfl rfl rfl rfl rfl rfl tu29 ts58 ty58 rfl (by simp [agg_cells, outC]) (by simp [agg_cells]) H ?_)
              clear H; intro h6 W H
              refine ⟨_, fun _ h => h, H.sub (by repeat (first | exact .refl _ | refine .cons _ ?_)), ?_⟩
              refine t_run rfl (w_none rfl) rfl (fun W H => b_tx rfl rfl rfl) ?_
              refine t_run rfl (w_none rfl) rfl (fun W H => b_long rfl rfl) ?_
              refine t_eff rfl (e_stoK (recC Rc.long (txC (some ⟨h5, 0, none⟩) 1 1 (some ⟨h6, 0, none⟩) 2 2 0)) (w_none rfl) rfl rfl rfl rfl rfl ts33 (len_rec rfl rfl rfl) (rec_one rfl) H (by rw [len_rec rfl rfl rfl]; decide) (spl_all ((len_rec rfl rfl rfl).trans (len_rec rfl rfl rfl).symm)) ?_)
              clear H; intro W H
              refine ⟨_, fun _ h => h, H.sub (by repeat (first | exact .refl _ | refine .cons _ ?_)), ?_⟩
              refine t_nil ?_
              refine k_nil ?_
              refine n_then ?_
              refine ⟨_, _, rfl, ?_, ?_, ⟨g10, h3, h4, h5, h6, rfl, H.perm (by repeat (first | exact .refl _ | refine .cons _ ?_ | refine .trans (.cons _ ?_) (List.perm_middle (l₁ := [_])).symm | refine .trans (.cons _ ?_) (List.perm_middle (l₁ := [_, _])).symm | refine .trans (.cons _ ?_) (List.perm_middle (l₁ := [_, _, _])).symm | refine .trans (.cons _ ?_) (List.perm_middle (l₁ := [_, _, _, _])).symm | refine .trans (.cons _ ?_) (List.perm_middle (l₁ := [_, _, _, _, _])).symm | refine .trans (.cons _ ?_) (List.perm_middle (l₁ := [_, _, _, _, _, _])).symm | refine .trans (.cons _ ?_) (List.perm_middle (l₁ := [_, _, _, _, _, _, _])).symm))⟩⟩
              · repeat (first | (with_reducible exact Eqo.refl) | ((with_reducible refine Eqo.updl _ (Eqo.ovr2 ?_ ?_) ?_); rotate_left; exact rfl; exact rfl) | ((with_reducible refine Eqo.upd ?_ ?_); rotate_left; exact rfl))
              · refine ⟨?_, trivial⟩
                · exact rfl
            exact t_none
          exact t_none
        refine t_each ?_ ?_
        · skip
          refine t_eff rfl (e_bsl (xs := [.tmp 117]) (vals := [.agg (inC zPt none 0 0).toArray]) (vs := (inC zPt none 0 0)) (w_none rfl) rfl rfl rfl rfl rfl rfl tu28 ts56 ty56 rfl (by simp [agg_cells, len_in (p := zPt) rfl]) (by simp [agg_cells]) H ?_)
          clear H; intro h5 W H
          refine ⟨_, fun _ h => h, H.sub (by repeat (first | exact .refl _ | refine .cons _ ?_)), ?_⟩
          refine t_each ?_ ?_
          · skip
            refine t_eff rfl (e_mks (w_none rfl) rfl rfl rfl rfl (m := 256) rfl (by omega) tu34 tz5 tx5 H ?_)
            clear H; intro h4 W H
            refine ⟨_, fun _ h => h, H.sub (by repeat (first | exact .refl _ | refine .cons _ ?_)), ?_⟩
            refine t_run rfl (w_none rfl) rfl (fun W H => b_out rfl rfl) ?_
            refine t_each ?_ ?_
            · skip
              refine t_eff rfl (e_bsl (xs := [.tmp 113, .tmp 115]) (vals := [.agg (outC 1 (some ⟨h3, 0, none⟩) 256 256).toArray, .agg (outC 1 (some ⟨h4, 0, none⟩) 256 256).toArray]) (vs := (outC 1 (some ⟨h3, 0, none⟩) 256 256 ++ outC 1 (some ⟨h4, 0, none⟩) 256 256)) (w_none rfl) rfl rfl rfl rfl rfl rfl tu29 ts58 ty58 rfl (by simp [agg_cells, outC]) (by simp [agg_cells]) H ?_)
              clear H; intro h6 W H
              refine ⟨_, fun _ h => h, H.sub (by repeat (first | exact .refl _ | refine .cons _ ?_)), ?_⟩
              refine t_run rfl (w_none rfl) rfl (fun W H => b_tx rfl rfl rfl) ?_
              refine t_run rfl (w_none rfl) rfl (fun W H => b_long rfl rfl) ?_
              refine t_eff rfl (e_alloc (w_none rfl) rfl rfl (recC Rc.zero zt) tz33 H ?_)
              clear H; intro g10 W H
              refine ⟨_, fun _ h => h, H.sub (by repeat (first | exact .refl _ | refine .cons _ ?_)), ?_⟩
              refine t_eff rfl (e_stoK (recC Rc.long (txC (some ⟨h5, 0, none⟩) 1 1 (some ⟨h6, 0, none⟩) 2 2 0)) (w_none rfl) rfl rfl rfl rfl rfl ts33 (len_rec rfl rfl rfl) (rec_one rfl) H (by rw [len_rec rfl rfl rfl]; decide) (spl_all ((len_rec rfl rfl rfl).trans (len_rec rfl rfl rfl).symm)) ?_)
              clear H; intro W H
              refine ⟨_, fun _ h => h, H.sub (by repeat (first | exact .refl _ | refine .cons _ ?_)), ?_⟩
              refine t_nil ?_
              refine k_nil ?_
              refine n_then ?_
              refine ⟨_, _, rfl, ?_, ?_, ⟨g10, h3, h4, h5, h6, rfl, H.perm (by repeat (first | exact .refl _ | refine .cons _ ?_ | refine .trans (.cons _ ?_) (List.perm_middle (l₁ := [_])).symm | refine .trans (.cons _ ?_) (List.perm_middle (l₁ := [_, _])).symm | refine .trans (.cons _ ?_) (List.perm_middle (l₁ := [_, _, _])).symm | refine .trans (.cons _ ?_) (List.perm_middle (l₁ := [_, _, _, _])).symm | refine .trans (.cons _ ?_) (List.perm_middle (l₁ := [_, _, _, _, _])).symm | refine .trans (.cons _ ?_) (List.perm_middle (l₁ := [_, _, _, _, _, _])).symm | refine .trans (.cons _ ?_) (List.perm_middle (l₁ := [_, _, _, _, _, _, _])).symm))⟩⟩
              · repeat (first | (with_reducible exact Eqo.refl) | ((with_reducible refine Eqo.updl _ (Eqo.ovr2 ?_ ?_) ?_); rotate_left; exact rfl; exact rfl) | ((with_reducible refine Eqo.upd ?_ ?_); rotate_left; exact rfl))
              · refine ⟨?_, trivial⟩
                · exact rfl
            refine t_each ?_ ?_
            · skip
              refine t_eff rfl (e_alloc (w_none rfl) rfl rfl (recC Rc.zero zt) tz33 H ?_)
              clear H; intro g10 W H
              refine ⟨_, fun _ h => h, H.sub (by repeat (first | exact .refl _ | refine .cons _ ?_)), ?_⟩
              refine t_eff rfl (e_bsl (xs := [.tmp 113, .tmp 115]) (vals := [.agg (outC 1 (some ⟨h3, 0, none⟩) 256 256).toArray, .agg (outC 1 (some ⟨h4, 0, none⟩) 256 256).toArray]) (vs := (outC 1 (some ⟨h3, 0, none⟩) 256 256 ++ outC 1 (some ⟨h4, 0, none⟩) 256 256)) (w_none rfl) rfl rfl rfl rfl rfl rfl tu29 ts58 ty58 rfl (by simp [agg_cells, outC]) (by simp [agg_cells]) H ?_)
              clear H; intro h6 W H
              refine ⟨_, fun _ h => h, H.sub (by repeat (first | exact .refl _ | refine .cons _ ?_)), ?_⟩
              refine t_run rfl (w_none rfl) rfl (fun W H => b_tx rfl rfl rfl) ?_
              refine t_run rfl (w_none rfl) rfl (fun W H => b_long rfl rfl) ?_
              refine t_eff rfl (e_stoK (recC Rc.long (txC (some ⟨h5, 0, none⟩) 1 1 (some ⟨h6, 0, none⟩) 2 2 0)) (w_none rfl) rfl rfl rfl rfl rfl ts33 (len_rec rfl rfl rfl) (rec_one rfl) H (by rw [len_rec rfl rfl rfl]; decide) (spl_all ((len_rec rfl rfl rfl).trans (len_rec rfl rfl rfl).symm)) ?_)
              clear H; intro W H
              refine ⟨_, fun _ h => h, H.sub (by repeat (first | exact .refl _ | refine .cons _ ?_)), ?_⟩
              refine t_nil ?_
              refine k_nil ?_
              refine n_then ?_
              refine ⟨_, _, rfl, ?_, ?_, ⟨g10, h3, h4, h5, h6, rfl, H.perm (by repeat (first | exact .refl _ | refine .cons _ ?_ | refine .trans (.cons _ ?_) (List.perm_middle (l₁ := [_])).symm | refine .trans (.cons _ ?_) (List.perm_middle (l₁ := [_, _])).symm | refine .trans (.cons _ ?_) (List.perm_middle (l₁ := [_, _, _])).symm | refine .trans (.cons _ ?_) (List.perm_middle (l₁ := [_, _, _, _])).symm | refine .trans (.cons _ ?_) (List.perm_middle (l₁ := [_, _, _, _, _])).symm | refine .trans (.cons _ ?_) (List.perm_middle (l₁ := [_, _, _, _, _, _])).symm | refine .trans (.cons _ ?_) (List.perm_middle (l₁ := [_, _, _, _, _, _, _])).symm))⟩⟩
              · repeat (first | (with_reducible exact Eqo.refl) | ((with_reducible refine Eqo.updl _ (Eqo.ovr2 ?_ ?_) ?_); rotate_left; exact rfl; exact rfl) | ((with_reducible refine Eqo.upd ?_ ?_); rotate_left; exact rfl))
              · refine ⟨?_, trivial⟩
                · exact rfl
            exact t_none
          refine t_each ?_ ?_
          · skip
            refine t_eff rfl (e_alloc (w_none rfl) rfl rfl (recC Rc.zero zt) tz33 H ?_)
            clear H; intro g10 W H
            refine ⟨_, fun _ h => h, H.sub (by repeat (first | exact .refl _ | refine .cons _ ?_)), ?_⟩
            refine t_eff rfl (e_mks (w_none rfl) rfl rfl rfl rfl (m := 256) rfl (by omega) tu34 tz5 tx5 H ?_)
            clear H; intro h4 W H
            refine ⟨_, fun _ h => h, H.sub (by repeat (first | exact .refl _ | refine .cons _ ?_)), ?_⟩
            refine t_run rfl (w_none rfl) rfl (fun W H => b_out rfl rfl) ?_
            refine t_eff rfl (e_bsl (xs := [.tmp 113, .tmp 115]) (vals := [.agg (outC 1 (some ⟨h3, 0, none⟩) 256 256).toArray, .agg (outC 1 (some ⟨h4, 0, none⟩) 256 256).toArray]) (vs := (outC 1 (some ⟨h3, 0, none⟩) 256 256 ++ outC 1 (some ⟨h4, 0, none⟩) 256 256)) (w_none rfl) rfl rfl rfl rfl rfl rfl tu29 ts58 ty58 rfl (by simp [agg_cells, outC]) (by simp [agg_cells]) H ?_)
            clear H; intro h6 W H
            refine ⟨_, fun _ h => h, H.sub (by repeat (first | exact .refl _ | refine .cons _ ?_)), ?_⟩
            refine t_run rfl (w_none rfl) rfl (fun W H => b_tx rfl rfl rfl) ?_
            refine t_run rfl (w_none rfl) rfl (fun W H => b_long rfl rfl) ?_
            refine t_eff rfl (e_stoK (recC Rc.long (txC (some ⟨h5, 0, none⟩) 1 1 (some ⟨h6, 0, none⟩) 2 2 0)) (w_none rfl) rfl rfl rfl rfl rfl ts33 (len_rec rfl rfl rfl) (rec_one rfl) H (by rw [len_rec rfl rfl rfl]; decide) (spl_all ((len_rec rfl rfl rfl).trans (len_rec rfl rfl rfl).symm)) ?_)
            clear H; intro W H
            refine ⟨_, fun _ h => h, H.sub (by repeat (first | exact .refl _ | refine .cons _ ?_)), ?_⟩
            refine t_nil ?_
            refine k_nil ?_
            refine n_then ?_
            refine ⟨_, _, rfl, ?_, ?_, ⟨g10, h3, h4, h5, h6, rfl, H.perm (by repeat (first | exact .refl _ | refine .cons _ ?_ | refine .trans (.cons _ ?_) (List.perm_middle (l₁ := [_])).symm | refine .trans (.cons _ ?_) (List.perm_middle (l₁ := [_, _])).symm | refine .trans (.cons _ ?_) (List.perm_middle (l₁ := [_, _, _])).symm | refine .trans (.cons _ ?_) (List.perm_middle (l₁ := [_, _, _, _])).symm | refine .trans (.cons _ ?_) (List.perm_middle (l₁ := [_, _, _, _, _])).symm | refine .trans (.cons _ ?_) (List.perm_middle (l₁ := [_, _, _, _, _, _])).symm | refine .trans (.cons _ ?_) (List.perm_middle (l₁ := [_, _, _, _, _, _, _])).symm))⟩⟩
            · repeat (first | (with_reducible exact Eqo.refl) | ((with_reducible refine Eqo.updl _ (Eqo.ovr2 ?_ ?_) ?_); rotate_left; exact rfl; exact rfl) | ((with_reducible refine Eqo.upd ?_ ?_); rotate_left; exact rfl))
            · refine ⟨?_, trivial⟩
              · exact rfl
          exact t_none
        refine t_each ?_ ?_
        · skip
          refine t_eff rfl (e_alloc (w_none rfl) rfl rfl (recC Rc.zero zt) tz33 H ?_)
          clear H; intro g10 W H
          refine ⟨_, fun _ h => h, H.sub (by repeat (first | exact .refl _ | refine .cons _ ?_)), ?_⟩
          refine t_each ?_ ?_
          · skip
            refine t_eff rfl (e_mks (w_none rfl) rfl rfl rfl rfl (m := 256) rfl (by omega) tu34 tz5 tx5 H ?_)
            clear H; intro h4 W H
            refine ⟨_, fun _ h => h, H.sub (by repeat (first | exact .refl _ | refine .cons _ ?_)), ?_⟩
            refine t_run rfl (w_none rfl) rfl (fun W H => b_out rfl rfl) ?_
            refine t_each ?_ ?_
            · skip
              refine t_eff rfl (e_bsl (xs := [.tmp 113, .tmp 115]) (vals := [.agg (outC 1 (some ⟨h3, 0, none⟩) 256 256).toArray, .agg (outC 1 (some ⟨h4, 0, none⟩) 256 256).toArray]) (vs := (outC 1 (some ⟨h3, 0, none⟩) 256 256 ++ outC 1 (some ⟨h4, 0, none⟩) 256 256)) (w_none rfl) rfl rfl rfl rfl rfl rfl tu29 ts58 ty58 rfl (by simp [agg_cells, outC]) (by simp [agg_cells]) H ?_)
              clear H; intro h6 W H
              refine ⟨_, fun _ h => h, H.sub (by repeat (first | exact .refl _ | refine .cons _ ?_)), ?_⟩
              refine t_eff rfl (e_bsl (xs := [.tmp 117]) (vals := [.agg (inC zPt none 0 0).toArray]) (vs := (inC zPt none 0 0)) (w_none rfl) rfl rfl rfl rfl rfl rfl tu28 ts56 ty56 rfl (by simp [agg_cells, len_in (p := zPt) rfl]) (by simp [agg_cells]) H ?_)
              clear H; intro h5 W H
              refine ⟨_, fun _ h => h, H.sub (by repeat (first | exact .refl _ | refine .cons _ ?_)), ?_⟩
              refine t_run rfl (w_none rfl) rfl (fun W H => b_tx rfl rfl rfl) ?_
              refine t_run rfl (w_none rfl) rfl (fun W H => b_long rfl rfl) ?_
              refine t_eff rfl (e_stoK (recC Rc.long (txC (some ⟨h5, 0, none⟩) 1 1 (some ⟨h6, 0, none⟩) 2 2 0)) (w_none rfl) rfl rfl rfl rfl rfl ts33 (len_rec rfl rfl rfl) (rec_one rfl) H (by rw [len_rec rfl rfl rfl]; decide) (spl_all ((len_rec rfl rfl rfl).trans (len_rec rfl rfl rfl).symm)) ?_)
              clear H; intro W H
              refine ⟨_, fun _ h => h, H.sub (by repeat (first | exact .refl _ | refine .cons _ ?_)), ?_⟩
              refine t_nil ?_
              refine k_nil ?_
              refine n_then ?_
              refine ⟨_, _, rfl, ?_, ?_, ⟨g10, h3, h4, h5, h6, rfl, H.perm (by repeat (first | exact .refl _ | refine .cons _ ?_ | refine .trans (.cons _ ?_) (List.perm_middle (l₁ := [_])).symm | refine .trans (.cons _ ?_) (List.perm_middle (l₁ := [_, _])).symm | refine .trans (.cons _ ?_) (List.perm_middle (l₁ := [_, _, _])).symm | refine .trans (.cons _ ?_) (List.perm_middle (l₁ := [_, _, _, _])).symm | refine .trans (.cons _ ?_) (List.perm_middle (l₁ := [_, _, _, _, _])).symm | refine .trans (.cons _ ?_) (List.perm_middle (l₁ := [_, _, _, _, _, _])).symm | refine .trans (.cons _ ?_) (List.perm_middle (l₁ := [_, _, _, _, _, _, _])).symm))⟩⟩
              · repeat (first | (with_reducible exact Eqo.refl) | ((with_reducible refine Eqo.updl _ (Eqo.ovr2 ?_ ?_) ?_); rotate_left; exact rfl; exact rfl) | ((with_reducible refine Eqo.upd ?_ ?_); rotate_left; exact rfl))
              · refine ⟨?_, trivial⟩
                · exact rfl
            refine t_each ?_ ?_
            · skip
              refine t_eff rfl (e_bsl (xs := [.tmp 117]) (vals := [.agg (inC zPt none 0 0).toArray]) (vs := (inC zPt none 0 0)) (w_none rfl) rfl rfl rfl rfl rfl rfl tu28 ts56 ty56 rfl (by simp [agg_cells, len_in (p := zPt) rfl]) (by simp [agg_cells]) H ?_)
              clear H; intro h5 W H
              refine ⟨_, fun _ h => h, H.sub (by repeat (first | exact .refl _ | refine .cons _ ?_)), ?_⟩
              refine t_eff rfl (e_bsl (xs := [.tmp 113, .tmp 115]) (vals := [.agg (outC 1 (some ⟨h3, 0, none⟩) 256 256).toArray, .agg (outC 1 (some ⟨h4, 0, none⟩) 256 256).toArray]) (vs := (outC 1 (some ⟨h3, 0, none⟩) 256 256 ++ outC 1 (some ⟨h4, 0, none⟩) 256 256)) (w_none rfl) rfl rfl rfl rfl rfl rfl tu29 ts58 ty58 rfl (by simp [agg_cells, outC]) (by simp [agg_cells]) H ?_)
              clear H; intro h6 W H
              refine ⟨_, fun _ h => h, H.sub (by repeat (first | exact .refl _ | refine .cons _ ?_)), ?_⟩
              refine t_run rfl (w_none rfl) rfl (fun W H => b_tx rfl rfl rfl) ?_
              refine t_run rfl (w_none rfl) rfl (fun W H => b_long rfl rfl) ?_
              refine t_eff rfl (e_stoK (recC Rc.long (txC (some ⟨h5, 0, none⟩) 1 1 (some ⟨h6, 0, none⟩) 2 2 0)) (w_none rfl) rfl rfl rfl rfl rfl ts33 (len_rec rfl rfl rfl) (rec_one rfl) H (by rw [len_rec rfl rfl rfl]; decide) (spl_all ((len_rec rfl rfl rfl).trans (len_rec rfl rfl rfl).symm)) ?_)
              clear H; intro W H
              refine ⟨_, fun _ h => h, H.sub (by repeat (first | exact .refl _ | refine .cons _ ?_)), ?_⟩
              refine t_nil ?_
              refine k_nil ?_
              refine n_then ?_
              refine ⟨_, _, rfl, ?_, ?_, ⟨g10, h3, h4, h5, h6, rfl, H.perm (by repeat (first | exact .refl _ | refine .cons _ ?_ | refine .trans (.cons _ ?_) (List.perm_middle (l₁ := [_])).symm | refine .trans (.cons _ ?_) (List.perm_middle (l₁ := [_, _])).symm | refine .trans (.cons _ ?_) (List.perm_middle (l₁ := [_, _, _])).symm | refine .trans (.cons _ ?_) (List.perm_middle (l₁ := [_, _, _, _])).symm | refine .trans (.cons _ ?_) (List.perm_middle (l₁ := [_, _, _, _, _])).symm | refine .trans (.cons _ ?_) (List.perm_middle (l₁ := [_, _, _, _, _, _])).symm | refine .trans (.cons _ ?_) (List.perm_middle (l₁ := [_, _, _, _, _, _, _])).symm))⟩⟩
              · repeat (first | (with_reducible exact Eqo.refl) | ((with_reducible refine Eqo.updl _ (Eqo.ovr2 ?_ ?_) ?_); rotate_left; exact rfl; exact rfl) | ((with_reducible refine Eqo.upd ?_ ?_); rotate_left; exact rfl))
              · refine ⟨?_, trivial⟩
                · exact rfl
            exact t_none
          refine t_each ?_ ?_
          · skip
            refine t_eff rfl (e_bsl (xs := [.tmp 117]) (vals := [.agg (inC zPt none 0 0).toArray]) (vs := (inC zPt none 0 0)) (w_none rfl) rfl rfl rfl rfl rfl rfl tu28 ts56 ty56 rfl (by simp [agg_cells, len_in (p := zPt) rfl]) (by simp [agg_cells]) H ?_)
            clear H; intro h5 W H
            refine ⟨_, fun _ h => h, H.sub (by repeat (first | exact .refl _ | refine .cons _ ?_)), ?_⟩
            refine t_eff rfl (e_mks (w_none rfl) rfl rfl rfl rfl (m := 256) rfl (by omega) tu34 tz5 tx5 H ?_)
            clear H; intro h4 W H
            refine ⟨_, fun _ h => h, H.sub (by repeat (first | exact .refl _ | refine .cons _ ?_)), ?_⟩
            refine t_run rfl (w_none rfl) rfl (fun W H => b_out rfl rfl) ?_
            refine t_eff rfl (e_bsl (xs := [.tmp 113, .tmp 115]) (vals := [.agg (outC 1 (some ⟨h3, 0, none⟩) 256 256).toArray, .agg (outC 1 (some ⟨h4, 0, none⟩) 256 256).toArray]) (vs := (outC 1 (some ⟨h3, 0, none⟩) 256 256 ++ outC 1 (some ⟨h4, 0, none⟩) 256 256)) (w_none rfl) rfl rfl rfl rfl rfl rfl tu29 ts58 ty58 rfl (by simp [agg_cells, outC]) (by simp [agg_cells]) H ?_)
            clear H; intro h6 W H
            refine ⟨_, fun _ h => h, H.sub (by repeat (first | exact .refl _ | refine .cons _ ?_)), ?_⟩
            refine t_run rfl (w_none rfl) rfl (fun W H => b_tx rfl rfl rfl) ?_
            refine t_run rfl (w_none rfl) rfl (fun W H => b_long rfl rfl) ?_
            refine t_eff rfl (e_stoK (recC Rc.long (txC (some ⟨h5, 0, none⟩) 1 1 (some ⟨h6, 0, none⟩) 2 2 0)) (w_none rfl) rfl rfl rfl rfl rfl ts33 (len_rec rfl rfl rfl) (rec_one rfl) H (by rw [len_rec rfl rfl rfl]; decide) (spl_all ((len_rec rfl rfl rfl).trans (len_rec rfl rfl rfl).symm)) ?_)
            clear H; intro W H
            refine ⟨_, fun _ h => h, H.sub (by repeat (first | exact .refl _ | refine .cons _ ?_)), ?_⟩
            refine t_nil ?_
            refine k_nil ?_
            refine n_then ?_
            refine ⟨_, _, rfl, ?_, ?_, ⟨g10, h3, h4, h5, h6, rfl, H.perm (by repeat (first | exact .refl _ | refine .cons _ ?_ | refine .trans (.cons _ ?_) (List.perm_middle (l₁ := [_])).symm | refine .trans (.cons _ ?_) (List.perm_middle (l₁ := [_, _])).symm | refine .trans (.cons _ ?_) (List.perm_middle (l₁ := [_, _, _])).symm | refine .trans (.cons _ ?_) (List.perm_middle (l₁ := [_, _, _, _])).symm | refine .trans (.cons _ ?_) (List.perm_middle (l₁ := [_, _, _, _, _])).symm | refine .trans (.cons _ ?_) (List.perm_middle (l₁ := [_, _, _, _, _, _])).symm | refine .trans (.cons _ ?_) (List.perm_middle (l₁ := [_, _, _, _, _, _, _])).symm))⟩⟩
            · repeat (first | (with_reducible exact Eqo.refl) | ((with_reducible refine Eqo.updl _ (Eqo.ovr2 ?_ ?_) ?_); rotate_left; exact rfl; exact rfl) | ((with_reducible refine Eqo.upd ?_ ?_); rotate_left; exact rfl))
            · refine ⟨?_, trivial⟩
              · exact rfl
          exact t_none
        exact t_none
      refine t_each ?_ ?_
      · skip
        refine t_eff rfl (e_mks (w_none rfl) rfl rfl rfl rfl (m := 256) rfl (by omega) tu34 tz5 tx5 H ?_)
        clear H; intro h4 W H
        refine ⟨_, fun _ h => h, H.sub (by repeat (first | exact .refl _ | refine .cons _ ?_)), ?_⟩
        refine t_run rfl (w_none rfl) rfl (fun W H => b_out rfl rfl) ?_
        refine t_each ?_ ?_
        · skip
          refine t_eff rfl (e_mks (w_none rfl) rfl rfl rfl rfl (m := 256) rfl (by omega) tu34 tz5 tx5 H ?_)
          clear H; intro h3 W H
          refine ⟨_, fun _ h => h, H.sub (by repeat (first | exact .refl _ | refine .cons _ ?_)), ?_⟩
          refine t_run rfl (w_none rfl) rfl (fun W H => b_out rfl rfl) ?_
          refine t_each ?_ ?_
          · skip
            refine t_eff rfl (e_bsl (xs := [.tmp 113, .tmp 115]) (vals := [.agg (outC 1 (some ⟨h3, 0, none⟩) 256 256).toArray, .agg (outC 1 (some ⟨h4, 0, none⟩) 256 256).toArray]) (vs := (outC 1 (some ⟨h3, 0, none⟩) 256 256 ++ outC 1 (some ⟨h4, 0, none⟩) 256 256)) (w_none rfl) rfl rfl rfl rfl rfl rfl tu29 ts58 ty58 rfl (by simp [agg_cells, outC]) (by simp [agg_cells]) H ?_)
            clear H; intro h6 W H
            refine ⟨_, fun _ h => h, H.sub (by repeat (first | exact .refl _ | refine .cons _ ?_)), ?_⟩
            refine t_each ?_ ?_
            · skip
              refine t_eff rfl (e_bsl (xs := [.tmp 117]) (vals := [.agg (inC zPt none 0 0).toArray]) (vs := (inC zPt none 0 0)) (w_none rfl) rfl rfl rfl rfl rfl rfl tu28 ts56 ty56 rfl (by simp [agg_cells, len_in (p := zPt) rfl]) (by simp [agg_cells]) H ?_)
              clear H; intro h5 W H
              refine ⟨_, fun _ h => h, H.sub (by repeat (first | exact .refl _ | refine .cons _ ?_)), ?_⟩
              refine t_run rfl (w_none rfl) rfl (fun W H => b_tx rfl rfl rfl) ?_
              refine t_run rfl (w_none rfl) rfl (fun W H => b_long rfl rfl) ?_
              refine t_eff rfl (e_alloc (w_none rfl) rfl rfl (recC Rc.zero zt) tz33 H ?_)
              clear H; intro g10 W H
              refine ⟨_, fun _ h => h, H.sub (by repeat (first | exact .refl _ | refine .cons _ ?_)), ?_⟩
              refine t_eff rfl (e_stoK (recC Rc.long (txC (some ⟨h5, 0, none⟩) 1 1 (some ⟨h6, 0, none⟩) 2 2 0)) (w_none rfl) rfl rfl rfl rfl rfl ts33 (len_rec rfl rfl rfl) (rec_one rfl) H (by rw [len_rec rfl rfl rfl]; decide) (spl_all ((len_rec rfl rfl rfl).trans (len_rec rfl rfl rfl).symm)) ?_)
              clear H; intro W H
              refine ⟨_, fun _ h => h, H.sub (by repeat (first | exact .refl _ | refine .cons _ ?_)), ?_⟩
              refine t_nil ?_
              refine k_nil ?_
              refine n_then ?_
              refine ⟨_, _, rfl, ?_, ?_, ⟨g10, h3, h4, h5, h6, rfl, H.perm (by repeat (first | exact .refl _ | refine .cons _ ?_ | refine .trans (.cons _ ?_) (List.perm_middle (l₁ := [_])).symm | refine .trans (.cons _ ?_) (List.perm_middle (l₁ := [_, _])).symm | refine .trans (.cons _ ?_) (List.perm_middle (l₁ := [_, _, _])).symm | refine .trans (.cons _ ?_) (List.perm_middle (l₁ := [_, _, _, _])).symm | refine .trans (.cons _ ?_) (List.perm_middle (l₁ := [_, _, _, _, _])).symm | refine .trans (.cons _ ?_) (List.perm_middle (l₁ := [_, _, _, _, _, _])).symm | refine .trans (.cons _ ?_) (List.perm_middle (l₁ := [_, _, _, _, _, _, _])).symm))⟩⟩
              · repeat (first | (with_reducible exact Eqo.refl) | ((with_reducible refine Eqo.updl _ (Eqo.ovr2 ?_ ?_) ?_); rotate_left; exact rfl; exact rfl) | ((with_reducible refine Eqo.upd ?_ ?_); rotate_left; exact rfl))
              · refine ⟨?_, trivial⟩
                · exact rfl
            refine t_each ?_ ?_
            · skip
              refine t_eff rfl (e_alloc (w_none rfl) rfl rfl (recC Rc.zero zt) tz33 H ?_)
              clear H; intro g10 W H
              refine ⟨_, fun _ h => h, H.sub (by repeat (first | exact .refl _ | refine .cons _ ?_)), ?_⟩
              refine t_eff rfl (e_bsl (xs := [.tmp 117]) (vals := [.agg (inC zPt none 0 0).toArray]) (vs := (inC zPt none 0 0)) (w_none rfl) rfl rfl rfl rfl rfl rfl tu28 ts56 ty56 rfl (by simp [agg_cells, len_in (p := zPt) rfl]) (by simp [agg_cells]) H ?_)
              clear H; intro h5 W H
              refine ⟨_, fun _ h => h, H.sub (by repeat (first | exact .refl _ | refine .cons _ ?_)), ?_⟩
              refine t_run rfl (w_none rfl) rfl (fun W H => b_tx rfl rfl rfl) ?_
              refine t_run rfl (w_none rfl) rfl (fun W H => b_long rfl rfl) ?_
              refine t_eff rfl (e_stoK (recC Rc.long (txC (some ⟨h5, 0, none⟩) 1 1 (some ⟨h6, 0, none⟩) 2 2 0)) (w_none rfl) rfl rfl rfl rfl rfl ts33 (len_rec rfl rfl rfl) (rec_one rfl) H (by rw [len_rec rfl rfl rfl]; decide) (spl_all ((len_rec rfl rfl rfl).trans (len_rec rfl rfl rfl).symm)) ?_)
              clear H; intro W H
              refine ⟨_, fun _ h => h, H.sub (by repeat (first | exact .refl _ | refine .cons _ ?_)), ?_⟩
              refine t_nil ?_
              refine k_nil ?_
              refine n_then ?_
              refine ⟨_, _, rfl, ?_, ?_, ⟨g10, h3, h4, h5, h6, rfl, H.perm (by repeat (first | exact .refl _ | refine .cons _ ?_ | refine .trans (.cons _ ?_) (List.perm_middle (l₁ := [_])).symm | refine .trans (.cons _ ?_) (List.perm_middle (l₁ := [_, _])).symm | refine .trans (.cons _ ?_) (List.perm_middle (l₁ := [_, _, _])).symm | refine .trans (.cons _ ?_) (List.perm_middle (l₁ := [_, _, _, _])).symm | refine .trans (.cons _ ?_) (List.perm_middle (l₁ := [_, _, _, _, _])).symm | refine .trans (.cons _ ?_) (List.perm_middle (l₁ := [_, _, _, _, _, _])).symm | refine .trans (.cons _ ?_) (List.perm_middle (l₁ := [_, _, _, _, _, _, _])).symm))⟩⟩
              · repeat (first | (with_reducible exact Eqo.refl) | ((with_reducible refine Eqo.updl _ (Eqo.ovr2 ?_ ?_) ?_); rotate_left; exact rfl; exact rfl) | ((with_reducible refine Eqo.upd ?_ ?_); rotate_left; exact rfl))
              · refine ⟨?_, trivial⟩
                · exact rfl
            exact t_none
          refine t_each ?_ ?_
          · skip
            refine t_eff rfl (e_bsl (xs := [.tmp 117]) (vals := [.agg (inC zPt none 0 0).toArray]) (vs := (inC zPt none 0 0)) (w_none rfl) rfl rfl rfl rfl rfl rfl tu28 ts56 ty56 rfl (by simp [agg_cells, len_in (p := zPt) rfl]) (by simp [agg_cells]) H ?_)
            clear H; intro h5 W H
            refine ⟨_, fun _ h => h, H.sub (by repeat (first | exact .refl _ | refine .cons _ ?_)), ?_⟩
            refine t_each ?_ ?_
            · skip
              refine t_eff rfl (e_bsl (xs := [.tmp 113, .tmp 115]) (vals := [.agg (outC 1 (some ⟨h3, 0, none⟩) 256 256).toArray, .agg (outC 1 (some ⟨h4, 0, none⟩) 256 256).toArray]) (vs := (outC 1 (some ⟨h3, 0, none⟩) 256 256 ++ outC 1 (some ⟨h4, 0, none⟩) 256 256)) (w_none rfl) rfl rfl rfl rfl rfl rfl tu29 ts58 ty58 rfl (by simp [agg_cells, outC]) (by simp [agg_cells]) H ?_)
              clear H; intro h6 W H
              refine ⟨_, fun _ h => h, H.sub (by repeat (first | exact .refl _ | refine .cons _ ?_)), ?_⟩
              refine t_run rfl (w_none rfl) rfl (fun W H => b_tx rfl rfl rfl) ?_
              refine t_run rfl (w_none rfl) rfl (fun W H => b_long rfl rfl) ?_
              refine t_eff rfl (e_alloc (w_none rfl) rfl rfl (recC Rc.zero zt) tz33 H ?_)
              clear H; intro g10 W H
              refine ⟨_, fun _ h => h, H.sub (by repeat (first | exact .refl _ | refine .cons _ ?_)), ?_⟩
              refine t_eff rfl (e_stoK (recC Rc.long (txC (some ⟨h5, 0, none⟩) 1 1 (some ⟨h6, 0, none⟩) 2 2 0)) (w_none rfl) rfl rfl rfl rfl rfl ts33 (len_rec rfl rfl rfl) (rec_one rfl) H (by rw [len_rec rfl rfl rfl]; decide) (spl_all ((len_rec rfl rfl rfl).trans (len_rec rfl rfl rfl).symm)) ?_)
              clear H; intro W H
              refine ⟨_, fun _ h => h, H.sub (by repeat (first | exact .refl _ | refine .cons _ ?_)), ?_⟩
              refine t_nil ?_
              refine k_nil ?_
              refine n_then ?_
              refine ⟨_, _, rfl, ?_, ?_, ⟨g10, h3, h4, h5, h6, rfl, H.perm (by repeat (first | exact .refl _ | refine .cons _ ?_ | refine .trans (.cons _ ?_) (List.perm_middle (l₁ := [_])).symm | refine .trans (.cons _ ?_) (List.perm_middle (l₁ := [_, _])).symm | refine .trans (.cons _ ?_) (List.perm_middle (l₁ := [_, _, _])).symm | refine .trans (.cons _ ?_) (List.perm_middle (l₁ := [_, _, _, _])).symm | refine .trans (.cons _ ?_) (List.perm_middle (l₁ := [_, _, _, _, _])).symm | refine .trans (.cons _ ?_) (List.perm_middle (l₁ := [_, _, _, _, _, _])).symm | refine .trans (.cons _ ?_) (List.perm_middle (l₁ := [_, _, _, _, _, _, _])).symm))⟩⟩
              · repeat (first | (with_reducible exact Eqo.refl) | ((with_reducible refine Eqo.updl _ (Eqo.ovr2 ?_ ?_) ?_); rotate_left; exact rfl; exact rfl) | ((with_reducible refine Eqo.upd ?_ ?_); rotate_left; exact rfl))
              · refine ⟨?_, trivial⟩
                · exact rfl
            refine t_each ?_ ?_
            · skip
              refine t_eff rfl (e_alloc (w_none rfl) rfl rfl (recC Rc.zero zt) tz33 H ?_)
              clear H; intro g10 W H
              refine ⟨_, fun _ h => h, H.sub (by repeat (first | exact .refl _ | refine .cons _ ?_)), ?_⟩
              refine t_eff rfl (e_bsl (xs := [.tmp 113, .tmp 115]) (vals := [.agg (outC 1 (some ⟨h3, 0, none⟩) 256 256).toArray, .agg (outC 1 (some ⟨h4, 0, none⟩) 256 256).toArray]) (vs := (outC 1 (some ⟨h3, 0, none⟩) 256 256 ++ outC 1 (some ⟨h4, 0, none⟩) 256 256)) (w_none rfl) rfl rfl rfl rfl rfl rfl tu29 ts58 ty58 rfl (by simp [agg_cells, outC]) (by simp [agg_cells]) H ?_)
              clear H; intro h6 W H
              refine ⟨_, fun _ h => h, H.sub (by repeat (first | exact .refl _ | refine .cons _ ?_)), ?_⟩
              refine t_run rfl (w_none rfl) rfl (fun W H => b_tx rfl rfl rfl) ?_
              refine t_run rfl (w_none rfl) rfl (fun W H => b_long rfl rfl) ?_
              refine t_eff rfl (e_stoK (recC Rc.long (txC (some ⟨h5, 0, none⟩) 1 1 (some ⟨h6, 0, none⟩) 2 2 0)) (w_none rfl) rfl rfl rfl rfl rfl ts33 (len_rec rfl rfl rfl) (rec_one rfl) H (by rw [len_rec rfl rfl rfl]; decide) (spl_all ((len_rec rfl rfl rfl).trans (len_rec rfl rfl rfl).symm)) ?_)
              clear H; intro W H
              refine ⟨_, fun _ h => h, H.sub (by repeat (first | exact .refl _ | refine .cons _ ?_)), ?_⟩
              refine t_nil ?_
              refine k_nil ?_
              refine n_then ?_
              refine ⟨_, _, rfl, ?_, ?_, ⟨g10, h3, h4, h5, h6, rfl, H.perm (by repeat (first | exact .refl _ | refine .cons _ ?_ | refine .trans (.cons _ ?_) (List.perm_middle (l₁ := [_])).symm | refine .trans (.cons _ ?_) (List.perm_middle (l₁ := [_, _])).symm | refine .trans (.cons _ ?_) (List.perm_middle (l₁ := [_, _, _])).symm | refine .trans (.cons _ ?_) (List.perm_middle (l₁ := [_, _, _, _])).symm | refine .trans (.cons _ ?_) (List.perm_middle (l₁ := [_, _, _, _, _])).symm | refine .trans (.cons _ ?_) (List.perm_middle (l₁ := [_, _, _, _, _, _])).symm | refine .trans (.cons _ ?_) (List.perm_middle (l₁ := [_, _, _, _, _, _, _])).symm))⟩⟩
              · repeat (first | (with_reducible exact Eqo.refl) | ((with_reducible refine Eqo.updl _ (Eqo.ovr2 ?_ ?_) ?_); rotate_left; exact rfl; exact rfl) | ((with_reducible refine Eqo.upd ?_ ?_); rotate_left; exact rfl))
              · refine ⟨?_, trivial⟩
                · exact rfl
            exact t_none
          refine t_each ?_ ?_
          · skip
            refine t_eff rfl (e_alloc (w_none rfl) rfl rfl (recC Rc.zero zt) tz33 H ?_)
            clear H; intro g10 W H
            refine ⟨_, fun _ h => h, H.sub (by repeat (first | exact .refl _ | refine .cons _ ?_)), ?_⟩
            refine t_each ?_ ?_
            · skip
              refine t_eff rfl (e_bsl (xs := [.tmp 113, .tmp 115]) (vals := [.agg (outC 1 (some ⟨h3, 0, none⟩) 256 256).toArray, .agg (outC 1 (some ⟨h4, 0, none⟩) 256 256).toArray]) (vs := (outC 1 (some ⟨h3, 0, none⟩) 256 256 ++ outC 1 (some ⟨h4, 0, none⟩) 256 256)) (w_none rfl) rfl rfl rfl rfl rfl rfl tu29 ts58 ty58 rfl (by simp [agg_cells, outC]) (by simp [agg_cells]) H ?_)
              clear H; intro h6 W H
              refine ⟨_, fun _ h => h, H.sub (by repeat (first | exact .refl _ | refine .cons _ ?_)), ?_⟩
              refine t_eff rfl (e_bsl (xs := [.tmp 117]) (vals := [.agg (inC zPt none 0 0).toArray]) (vs := (inC zPt none 0 0)) (w_none rfl) rfl rfl rfl rfl rfl rfl tu28 ts56 ty56 rfl (by simp [agg_cells, len_in (p := zPt) rfl]) (by simp [agg_cells]) H ?_)
              clear H; intro h5 W H
              refine ⟨_, fun _ h => h, H.sub (by repeat (first | exact .refl _ | refine .cons _ ?_)), ?_⟩
              refine t_run rfl (w_none rfl) rfl (fun W H => b_tx rfl rfl rfl) ?_
              refine t_run rfl (w_none rfl) rfl (fun W H => b_long rfl rfl) ?_
              refine t_eff rfl (e_stoK (recC Rc.long (txC (some ⟨h5, 0, none⟩) 1 1 (some ⟨h6, 0, none⟩) 2 2 0)) (w_none rfl) rfl rfl rfl rfl rfl ts33 (len_rec rfl rfl rfl) (rec_one rfl) H (by rw [len_rec rfl rfl rfl]; decide) (spl_all ((len_rec rfl rfl rfl).trans (len_rec rfl rfl rfl).symm)) ?_)
              clear H; intro W H
              refine ⟨_, fun _ h => h, H.sub (by repeat (first | exact .refl _ | refine .cons _ ?_)), ?_⟩
              refine t_nil ?_
              refine k_nil ?_
              refine n_then ?_
              refine ⟨_, _, rfl, ?_, ?_, ⟨g10, h3, h4, h5, h6, rfl, H.perm (by repeat (first | exact .refl _ | refine .cons _ ?_ | refine .trans (.cons _ ?_) (List.perm_middle (l₁ := [_])).symm | refine .trans (.cons _ ?_) (List.perm_middle (l₁ := [_, _])).symm | refine .trans (.cons _ ?_) (List.perm_middle (l₁ := [_, _, _])).symm | refine .trans (.cons _ ?_) (List.perm_middle (l₁ := [_, _, _, _])).symm | refine .trans (.cons _ ?_) (List.perm_middle (l₁ := [_, _, _, _, _])).symm | refine .trans (.cons _ ?_) (List.perm_middle (l₁ := [_, _, _, _, _, _])).symm | refine .trans (.cons _ ?_) (List.perm_middle (l₁ := [_, _, _, _, _, _, _])).symm))⟩⟩
              · repeat (first | (with_reducible exact Eqo.refl) | ((with_reducible refine Eqo.updl _ (Eqo.ovr2 ?_ ?_) ?_); rotate_left; exact rfl; exact rfl) | ((with_reducible refine Eqo.upd ?_ ?_); rotate_left; exact rfl))
              · refine ⟨?_, trivial⟩
                · exact rfl
            refine t_each ?_ ?_
            · skip
              refine t_eff rfl (e_bsl (xs := [.tmp 117]) (vals := [.agg (inC zPt none 0 0).toArray]) (vs := (inC zPt none 0 0)) (w_none rfl) rfl rfl rfl rfl rfl rfl tu28 ts56 ty56 rfl (by simp [agg_cells, len_in (p := zPt) rfl]) (by simp [agg_cells]) H ?_)
              clear H; intro h5 W H
              refine ⟨_, fun _ h => h, H.sub (by repeat (first | exact .refl _ | refine .cons _ ?_)), ?_⟩
              refine t_eff rfl (e_bsl (xs := [.tmp 113, .tmp 115]) (vals := [.agg (outC 1 (some ⟨h3, 0, none⟩) 256 256).toArray, .agg (outC 1 (some ⟨h4, 0, none⟩) 256 256).toArray]) (vs := (outC 1 (some ⟨h3, 0, none⟩) 256 256 ++ outC 1 (some ⟨h4, 0, none⟩) 256 256)) (w_none rfl) rfl rfl rfl rfl rfl rfl tu29 ts58 ty58 rfl (by simp [agg_cells, outC]) (by simp [agg_cells]) H ?_)
              clear H; intro h6 W H
              refine ⟨_, fun _ h => h, H.sub (by repeat (first | exact .refl _ | refine .cons _ ?_)), ?_⟩
              refine t_run rfl (w_none rfl) rfl (fun W H => b_tx rfl rfl rfl) ?_
              refine t_run rfl (w_none rfl) rfl (fun W H => b_long rfl rfl) ?_
              refine t_eff rfl (e_stoK (recC Rc.long (txC (some ⟨h5, 0, none⟩) 1 1 (some ⟨h6, 0, none⟩) 2 2 0)) (w_none rfl) rfl rfl rfl rfl rfl ts33 (len_rec rfl rfl rfl) (rec_one rfl) H (by rw [len_rec rfl rfl rfl]; decide) (spl_all ((len_rec rfl rfl rfl).trans (len_rec rfl rfl rfl).symm)) ?_)
              clear H; intro W H
              refine ⟨_, fun _ h => h, H.sub (by repeat (first | exact .refl _ | refine .cons _ ?_)), ?_⟩
              refine t_nil ?_
              refine k_nil ?_
              refine n_then ?_
              refine ⟨_, _, rfl, ?_, ?_, ⟨g10, h3, h4, h5, h6, rfl, H.perm (by repeat (first | exact .refl _ | refine .cons _ ?_ | refine .trans (.cons _ ?_) (List.perm_middle (l₁ := [_])).symm | refine .trans (.cons _ ?_) (List.perm_middle (l₁ := [_, _])).symm | refine .trans (.cons _ ?_) (List.perm_middle (l₁ := [_, _, _])).symm | refine .trans (.cons _ ?_) (List.perm_middle (l₁ := [_, _, _, _])).symm | refine .trans (.cons _ ?_) (List.perm_middle (l₁ := [_, _, _, _, _])).symm | refine .trans (.cons _ ?_) (List.perm_middle (l₁ := [_, _, _, _, _, _])).symm | refine .trans (.cons _ ?_) (List.perm_middle (l₁ := [_, _, _, _, _, _, _])).symm))⟩⟩
              · repeat (first | (with_reducible exact Eqo.refl) | ((with_reducible refine Eqo.updl _ (Eqo.ovr2 ?_ ?_) ?_); rotate_left; exact rfl; exact rfl) | ((with_reducible refine Eqo.upd ?_ ?_); rotate_left; exact rfl))
              · refine ⟨?_, trivial⟩
                · exact rfl
            exact t_none
          exact t_none
        refine t_each ?_ ?_
        · skip
          refine t_eff rfl (e_bsl (xs := [.tmp 117]) (vals := [.agg (inC zPt none 0 0).toArray]) (vs := (inC zPt none 0 0)) (w_none rfl) rfl rfl rfl rfl rfl rfl tu28 ts56 ty56 rfl (by simp [agg_cells, len_in (p := zPt) rfl]) (by simp [agg_cells]) H ?_)
          clear H; intro h5 W H
          refine ⟨_, fun _ h => h, H.sub (by repeat (first | exact .refl _ | refine .cons _ ?_)), ?_⟩
          refine t_each ?_ ?_
          · skip
            refine t_eff rfl (e_mks (w_none rfl) rfl rfl rfl rfl (m := 256) rfl (by omega) tu34 tz5 tx5 H ?_)
            clear H; intro h3 W H
            refine ⟨_, fun _ h => h, H.sub (by repeat (first | exact .refl _ | refine .cons _ ?_)), ?_⟩
            refine t_run rfl (w_none rfl) rfl (fun W H => b_out rfl rfl) ?_
            refine t_each ?_ ?_
            · skip
              refine t_eff rfl (e_bsl (xs := [.tmp 113, .tmp 115]) (vals := [.agg (outC 1 (some ⟨h3, 0, none⟩) 256 256).toArray, .agg (outC 1 (some ⟨h4, 0, none⟩) 256 256).toArray]) (vs := (outC 1 (some ⟨h3, 0, none⟩) 256 256 ++ outC 1 (some ⟨h4, 0, none⟩) 256 256)) (w_none rfl) rfl rfl rfl rfl rfl rfl tu29 ts58 ty58 rfl (by simp [agg_cells, outC]) (by simp [agg_cells]) H ?_)
              clear H; intro h6 W H
              refine ⟨_, fun _ h => h, H.sub (by repeat (first | exact .refl _ | refine .cons _ ?_)), ?_⟩
              refine t_run rfl (w_none rfl) rfl (fun W H => b_tx rfl rfl rfl) ?_
              refine t_run rfl (w_none rfl) rfl (fun W H => b_long rfl rfl) ?_
              refine t_eff rfl (e_alloc (w_none rfl) rfl rfl (recC Rc.zero zt) tz33 H ?_)
              clear H; intro g10 W H
              refine ⟨_, fun _ h => h, H.sub (by repeat (first | exact .refl _ | refine .cons _ ?_)), ?_⟩
              refine t_eff rfl (e_stoK (recC Rc.long (txC (some ⟨h5, 0, none⟩) 1 1 (some ⟨h6, 0, none⟩) 2 2 0)) (w_none rfl) rfl rfl rfl rfl rfl ts33 (len_rec rfl rfl rfl) (rec_one rfl) H (by rw [len_rec rfl rfl rfl]; decide) (spl_all ((len_rec rfl rfl rfl).trans (len_rec rfl rfl rfl).symm)) ?_)
              clear H; intro W H
              refine ⟨_, fun _ h => h, H.sub (by repeat (first | exact .refl _ | refine .cons _ ?_)), ?_⟩
              refine t_nil ?_
              refine k_nil ?_
              refine n_then ?_
              refine ⟨_, _, rfl, ?_, ?_, ⟨g10, h3, h4, h5, h6, rfl, H.perm (by repeat (first | exact .refl _ | refine .cons _ ?_ | refine .trans (.cons _ ?_) (List.perm_middle (l₁ := [_])).symm | refine .trans (.cons _ ?_) (List.perm_middle (l₁ := [_, _])).symm | refine .trans (.cons _ ?_) (List.perm_middle (l₁ := [_, _, _])).symm | refine .trans (.cons _ ?_) (List.perm_middle (l₁ := [_, _, _, _])).symm | refine .trans (.cons _ ?_) (List.perm_middle (l₁ := [_, _, _, _, _])).symm | refine .trans (.cons _ ?_) (List.perm_middle (l₁ := [_, _, _, _, _, _])).symm | refine .trans (.cons _ ?_) (List.perm_middle (l₁ := [_, _, _, _, _, _, _])).symm))⟩⟩
              · repeat (first | (with_reducible exact Eqo.refl) | ((with_reducible refine Eqo.updl _ (Eqo.ovr2 ?_ ?_) ?_); rotate_left; exact rfl; exact rfl) | ((with_reducible refine Eqo.upd ?_ ?_); rotate_left; exact rfl))
              · refine ⟨?_, trivial⟩
                · exact rfl
            refine t_each ?_ ?_
            · skip
              refine t_eff rfl (e_alloc (w_none rfl) rfl rfl (recC Rc.zero zt) tz33 H ?_)
              clear H; intro g10 W H
              refine ⟨_, fun _ h => h, H.sub (by repeat (first | exact .refl _ | refine .cons _ ?_)), ?_⟩
              refine t_eff rfl (e_bsl (xs := [.tmp 113, .tmp 115]) (vals := [.agg (outC 1 (some ⟨h3, 0, none⟩) 256 256).toArray, .agg (outC 1 (some ⟨h4, 0, none⟩) 256 256).toArray]) (vs := (outC 1 (some ⟨h3, 0, none⟩) 256 256 ++ outC 1 (some ⟨h4, 0, none⟩) 256 256)) (w_none rfl) rfl rfl rfl rfl rfl rfl tu29 ts58 ty58 rfl (by simp [agg_cells, outC]) (by simp [agg_cells]) H ?_)
              clear H; intro h6 W H
              refine ⟨_, fun _ h => h, H.sub (by repeat (first | exact .refl _ | refine .cons _ ?_)), ?_⟩
              refine t_run rfl (w_none rfl) rfl (fun W H => b_tx rfl rfl rfl) ?_
              refine t_run rfl (w_none rfl) rfl (fun W H => b_long rfl rfl) ?_
              refine t_eff rfl (e_stoK (recC Rc.long (txC (some ⟨h5, 0, none⟩) 1 1 (some ⟨h6, 0, none⟩) 2 2 0)) (w_none rfl) rfl rfl rfl rfl rfl ts33 (len_rec rfl rfl rfl) (rec_one rfl) H (by rw [len_rec rfl rfl rfl]; decide) (spl_all ((len_rec rfl rfl rfl).trans (len_rec rfl rfl rfl).symm)) ?_)
              clear H; intro W H
              refine ⟨_, fun _ h => h, H.sub (by repeat (first | exact .refl _ | refine .cons _ ?_)), ?_⟩
              refine t_nil ?_
              refine k_nil ?_
              refine n_then ?_
              refine ⟨_, _, rfl, ?_, ?_, ⟨g10, h3, h4, h5, h6, rfl, H.perm (by repeat (first | exact .refl _ | refine .cons _ ?_ | refine .trans (.cons _ ?_) (List.perm_middle (l₁ := [_])).symm | refine .trans (.cons _ ?_) (List.perm_middle (l₁ := [_, _])).symm | refine .trans (.cons _ ?_) (List.perm_middle (l₁ := [_, _, _])).symm | refine .trans (.cons _ ?_) (List.perm_middle (l₁ := [_, _, _, _])).symm | refine .trans (.cons _ ?_) (List.perm_middle (l₁ := [_, _, _, _, _])).symm | refine .trans (.cons _ ?_) (List.perm_middle (l₁ := [_, _, _, _, _, _])).symm | refine .trans (.cons _ ?_) (List.perm_middle (l₁ := [_, _, _, _, _, _, _])).symm))⟩⟩
              · repeat (first | (with_reducible exact Eqo.refl) | ((with_reducible refine Eqo.updl _ (Eqo.ovr2 ?_ ?_) ?_); rotate_left; exact rfl; exact rfl) | ((with_reducible refine Eqo.upd ?_ ?_); rotate_left; exact rfl))
              · refine ⟨?_, trivial⟩
                · exact rfl
            exact t_none
          refine t_each ?_ ?_
          · skip
            refine t_eff rfl (e_alloc (w_none rfl) rfl rfl (recC Rc.zero zt) tz33 H ?_)
            clear H; intro g10 W H
            refine ⟨_, fun _ h => h, H.sub (by repeat (first | exact .refl _ | refine .cons _ ?_)), ?_⟩
            refine t_eff rfl (e_mks (w_none rfl) rfl rfl rfl rfl (m := 256) rfl (by omega) tu34 tz5 tx5 H ?_)
            clear H; intro h3 W H
            refine ⟨_, fun _ h => h, H.sub (by repeat (first | exact .refl _ | refine .cons _ ?_)), ?_⟩
            refine t_run rfl (w_none rfl) rfl (fun W H => b_out rfl rfl) ?_
            refine t_eff rfl (e_bsl (xs := [.tmp 113, .tmp 115]) (vals := [.agg (outC 1 (some ⟨h3, 0, none⟩) 256 256).toArray, .agg (outC 1 (some ⟨h4, 0, none⟩) 256 256).toArray]) (vs := (outC 1 (some ⟨h3, 0, none⟩) 256 256 ++ outC 1 (some ⟨h4, 0, none⟩) 256 256)) (w_none rfl) rfl rfl rfl rfl rfl rfl tu29 ts58 ty58 rfl (by simp [agg_cells, outC]) (by simp [agg_cells]) H ?_)
            clear H; intro h6 W H
            refine ⟨_, fun _ h => h, H.sub (by repeat (first | exact .refl _ | refine .cons _ ?_)), ?_⟩
            refine t_run rfl (w_none rfl) rfl (fun W H => b_tx rfl rfl rfl) ?_
            refine t_run rfl (w_none rfl) rfl (fun W H => b_long rfl rfl) ?_
            refine t_eff rfl (e_stoK (recC Rc.long (txC (some ⟨h5, 0, none⟩) 1 1 (some ⟨h6, 0, none⟩) 2 2 0)) (w_none rfl) rfl rfl rfl rfl rfl ts33 (len_rec rfl rfl rfl) (rec_one rfl) H (by rw [len_rec rfl rfl rfl]; decide) (spl_all ((len_rec rfl rfl rfl).trans (len_rec rfl rfl rfl).symm)) ?_)
            clear H; intro W H
            refine ⟨_, fun _ h => h, H.sub (by repeat (first | exact .refl _ | refine .cons _ ?_)), ?_⟩
            refine t_nil ?_
            refine k_nil ?_
            refine n_then ?_
            refine ⟨_, _, rfl, ?_, ?_, ⟨g10, h3, h4, h5, h6, rfl, H.perm (by repeat (first | exact .refl _ | refine .cons _ ?_ | refine .trans (.cons _ ?_) (List.perm_middle (l₁ := [_])).symm | refine .trans (.cons _ ?_) (List.perm_middle (l₁ := [_, _])).symm | refine .trans (.cons _ ?_) (List.perm_middle (l₁ := [_, _, _])).symm | refine .trans (.cons _ ?_) (List.perm_middle (l₁ := [_, _, _, _])).symm | refine .trans (.cons _ ?_) (List.perm_middle (l₁ := [_, _, _, _, _])).symm | refine .trans (.cons _ ?_) (List.perm_middle (l₁ := [_, _, _, _, _, _])).symm | refine .trans (.cons _ ?_) (List.perm_middle (l₁ := [_, _, _, _, _, _, _])).symm))⟩⟩
            · repeat (first | (with_reducible exact Eqo.refl) | ((with_reducible refine Eqo.updl _ (Eqo.ovr2 ?_ ?_) ?_); rotate_left; exact rfl; exact rfl) | ((with_reducible refine Eqo.upd ?_ ?_); rotate_left; exact rfl))
            · refine ⟨?_, trivial⟩
              · exact rfl
          exact t_none
        refine t_each ?_ ?_
        · skip
          refine t_eff rfl (e_alloc (w_none rfl) rfl rfl (recC Rc.zero zt) tz33 H ?_)
          clear H; intro g10 W H
          refine ⟨_, fun _ h => h, H.sub (by repeat (first | exact .refl _ | refine .cons _ ?_)), ?_⟩
          refine t_each ?_ ?_
          · skip
            refine t_eff rfl (e_mks (w_none rfl) rfl rfl rfl rfl (m := 256) rfl (by omega) tu34 tz5 tx5 H ?_)
            clear H; intro h3 W H
            refine ⟨_, fun _ h => h, H.sub (by repeat (first | exact .refl _ | refine .cons _ ?_)), ?_⟩
            refine t_run rfl (w_none rfl) rfl (fun W H => b_out rfl rfl) ?_
            refine t_each ?_ ?_
            · skip
              refine t_eff rfl (e_bsl (xs := [.tmp 113, .tmp 115]) (vals := [.agg (outC 1 (some ⟨h3, 0, none⟩) 256 256).toArray, .agg (outC 1 (some ⟨h4, 0, none⟩) 256 256).toArray]) (vs := (outC 1 (some ⟨h3, 0, none⟩) 256 256 ++ outC 1 (some ⟨h4, 0, none⟩) 256 256)) (w_none rfl) rfl rfl rfl rfl rfl rfl tu29 ts58 ty58 rfl (by simp [agg_cells, outC]) (by simp [agg_cells]) H ?_)
              clear H; intro h6 W H
              refine ⟨_, fun _ h => h, H.sub (by repeat (first | exact .refl _ | refine .cons _ ?_)), ?_⟩
              refine t_eff rfl (e_bsl (xs := [.tmp 117]) (vals := [.agg (inC zPt none 0 0).toArray]) (vs := (inC zPt none 0 0)) (w_none rfl) rfl rfl rfl rfl rfl rfl tu28 ts56 ty56 rfl (by simp [agg_cells, len_in (p := zPt) rfl]) (by simp [agg_cells]) H ?_)
              clear H; intro h5 W H
              refine ⟨_, fun _ h => h, H.sub (by repeat (first | exact .refl _ | refine .cons _ ?_)), ?_⟩
              refine t_run rfl (w_none rfl) rfl (fun W H => b_tx rfl rfl rfl) ?_
              refine t_run rfl (w_none rfl) rfl (fun W H => b_long rfl rfl) ?_
              refine t_eff rfl (e_stoK (recC Rc.long (txC (some ⟨h5, 0, none⟩) 1 1 (some ⟨h6, 0, none⟩) 2 2 0)) (w_none rfl) rfl rfl rfl rfl rfl ts33 (len_rec rfl rfl rfl) (rec_one rfl) H (by rw [len_rec rfl rfl rfl]; decide) (spl_all ((len_rec rfl rfl rfl).trans (len_rec rfl rfl rfl).symm)) ?_)
              clear H; intro W H
              refine ⟨_, fun _ h => h, H.sub (by repeat (first | exact .refl _ | refine .cons _ ?_)), ?_⟩
              refine t_nil ?_
              refine k_nil ?_
              refine n_then ?_
              refine ⟨_, _, rfl, ?_, ?_, ⟨g10, h3, h4, h5, h6, rfl, H.perm (by repeat (first | exact .refl _ | refine .cons _ ?_ | refine .trans (.cons _ ?_) (List.perm_middle (l₁ := [_])).symm | refine .trans (.cons _ ?_) (List.perm_middle (l₁ := [_, _])).symm | refine .trans (.cons _ ?_) (List.perm_middle (l₁ := [_, _, _])).symm | refine .trans (.cons _ ?_) (List.perm_middle (l₁ := [_, _, _, _])).symm | refine .trans (.cons _ ?_) (List.perm_middle (l₁ := [_, _, _, _, _])).symm | refine .trans (.cons _ ?_) (List.perm_middle (l₁ := [_, _, _, _, _, _])).symm | refine .trans (.cons _ ?_) (List.perm_middle (l₁ := [_, _, _, _, _, _, _])).symm))⟩⟩
              · repeat (first | (with_reducible exact Eqo.refl) | ((with_reducible refine Eqo.updl _ (Eqo.ovr2 ?_ ?_) ?_); rotate_left; exact rfl; exact rfl) | ((with_reducible refine Eqo.upd ?_ ?_); rotate_left; exact rfl))
              · refine ⟨?_, trivial⟩
                · exact rfl
            refine t_each ?_ ?_
            · skip
              refine t_eff rfl (e_bsl (xs := [.tmp 117]) (vals := [.agg (inC zPt none 0 0).toArray]) (vs := (inC zPt none 0 0)) (w_none rfl) rfl rfl rfl rfl rfl rfl tu28 ts56 ty56 rfl (by simp [agg_cells, len_in (p := zPt) rfl]) (by simp [agg_cells]) H ?_)
              clear H; intro h5 W H
              refine ⟨_, fun _ h => h, H.sub (by repeat (first | exact .refl _ | refine .cons _ ?_)), ?_⟩
              refine t_eff rfl (e_bsl (xs := [.tmp 113, .tmp 115]) (vals := [.agg (outC 1 (some ⟨h3, 0, none⟩) 256 256).toArray, .agg (outC 1 (some ⟨h4, 0, none⟩) 256 256).toArray]) (vs := (outC 1 (some ⟨h3, 0, none⟩) 256 256 ++ outC 1 (some ⟨h4, 0, none⟩) 256 256)) (w_none rfl) rfl rfl rfl rfl rfl rfl tu29 ts58 ty58 rfl (by simp [agg_cells, outC]) (by simp [agg_cells]) H ?_)
              clear H; intro h6 W H
              refine ⟨_, fun _ h => h, H.sub (by repeat (first | exact .refl _ | refine .cons _ ?_)), ?_⟩
              refine t_run rfl (w_none rfl) rfl (fun W H => b_tx rfl rfl rfl) ?_
              refine t_run rfl (w_none rfl) rfl (fun W H => b_long rfl rfl) ?_
              refine t_eff rfl (e_stoK (recC Rc.long (txC (some ⟨h5, 0, none⟩) 1 1 (some ⟨h6, 0, none⟩) 2 2 0)) (w_none rfl) rfl rfl rfl rfl rfl ts33 (len_rec rfl rfl rfl) (rec_one rfl) H (by rw [len_rec rfl rfl rfl]; decide) (spl_all ((len_rec rfl rfl rfl).trans (len_rec rfl rfl rfl).symm)) ?_)
              clear H; intro W H
              refine ⟨_, fun _ h => h, H.sub (by repeat (first | exact .refl _ | refine .cons _ ?_)), ?_⟩
              refine t_nil ?_
              refine k_nil ?_
              refine n_then ?_
              refine ⟨_, _, rfl, ?_, ?_, ⟨g10, h3, h4, h5, h6, rfl, H.perm (by repeat (first | exact .refl _ | refine .cons _ ?_ | refine .trans (.cons _ ?_) (List.perm_middle (l₁ := [_])).symm | refine .trans (.cons _ ?_) (List.perm_middle (l₁ := [_, _])).symm | refine .trans (.cons _ ?_) (List.perm_middle (l₁ := [_, _, _])).symm | refine .trans (.cons _ ?_) (List.perm_middle (l₁ := [_, _, _, _])).symm | refine .trans (.cons _ ?_) (List.perm_middle (l₁ := [_, _, _, _, _])).symm | refine .trans (.cons _ ?_) (List.perm_middle (l₁ := [_, _, _, _, _, _])).symm | refine .trans (.cons _ ?_) (List.perm_middle (l₁ := [_, _, _, _, _, _, _])).symm))⟩⟩
              · repeat (first | (with_reducible exact Eqo.refl) | ((with_reducible refine Eqo.updl _ (Eqo.ovr2 ?_ ?_) ?_); rotate_left; exact rfl; exact rfl) | ((with_reducible refine Eqo.upd ?_ ?_); rotate_left; exact rfl))
              · refine ⟨?_, trivial⟩
                · exact rfl
            exact t_none
          refine t_each ?_ ?_
          · skip
            refine t_eff rfl (e_bsl (xs := [.tmp 117]) (vals := [.agg (inC zPt none 0 0).toArray]) (vs := (inC zPt none 0 0)) (w_none rfl) rfl rfl rfl rfl rfl rfl tu28 ts56 ty56 rfl (by simp [agg_cells, len_in (p := zPt) rfl]) (by simp [agg_cells]) H ?_)
            clear H; intro h5 W H
            refine ⟨_, fun _ h => h, H.sub (by repeat (first | exact .refl _ | refine .cons _ ?_)), ?_⟩
            refine t_eff rfl (e_mks (w_none rfl) rfl rfl rfl rfl (m := 256) rfl (by omega) tu34 tz5 tx5 H ?_)
            clear H; intro h3 W H
            refine ⟨_, fun _ h => h, H.sub (by repeat (first | exact .refl _ | refine .cons _ ?_)), ?_⟩
            refine t_run rfl (w_none rfl) rfl (fun W H => b_out rfl rfl) ?_
            refine t_eff rfl (e_bsl (xs := [.tmp 113, .tmp 115]) (vals := [.agg (outC 1 (some ⟨h3, 0, none⟩) 256 256).toArray, .agg (outC 1 (some ⟨h4, 0, none⟩) 256 256).toArray]) (vs := (outC 1 (some ⟨h3, 0, none⟩) 256 256 ++ outC 1 (some ⟨h4, 0, none⟩) 256 256)) (w_none rfl) rfl rfl rfl rfl rfl rfl tu29 ts58 ty58 rfl (by simp [agg_cells, outC]) (by simp [agg_cells]) H ?_)
            clear H; intro h6 W H
            refine ⟨_, fun _ h => h, H.sub (by repeat (first | exact .refl _ | refine .cons _ ?_)), ?_⟩
            refine t_run rfl (w_none rfl) rfl (fun W H => b_tx rfl rfl rfl) ?_
            refine t_run rfl (w_none rfl) rfl (fun W H => b_long rfl rfl) ?_
            refine t_eff rfl (e_stoK (recC Rc.long (txC (some ⟨h5, 0, none⟩) 1 1 (some ⟨h6, 0, none⟩) 2 2 0)) (w_none rfl) rfl rfl rfl rfl rfl ts33 (len_rec rfl rfl rfl) (rec_one rfl) H (by rw [len_rec rfl rfl rfl]; decide) (spl_all ((len_rec rfl rfl rfl).trans (len_rec rfl rfl rfl).symm)) ?_)
            clear H; intro W H
            refine ⟨_, fun _ h => h, H.sub (by repeat (first | exact .refl _ | refine .cons _ ?_)), ?_⟩
            refine t_nil ?_
            refine k_nil ?_
            refine n_then ?_
            refine ⟨_, _, rfl, ?_, ?_, ⟨g10, h3, h4, h5, h6, rfl, H.perm (by repeat (first | exact .refl _ | refine .cons _ ?_ | refine .trans (.cons _ ?_) (List.perm_middle (l₁ := [_])).symm | refine .trans (.cons _ ?_) (List.perm_middle (l₁ := [_, _])).symm | refine .trans (.cons _ ?_) (List.perm_middle (l₁ := [_, _, _])).symm | refine .trans (.cons _ ?_) (List.perm_middle (l₁ := [_, _, _, _])).symm | refine .trans (.cons _ ?_) (List.perm_middle (l₁ := [_, _, _, _, _])).symm | refine .trans (.cons _ ?_) (List.perm_middle (l₁ := [_, _, _, _, _, _])).symm | refine .trans (.cons _ ?_) (List.perm_middle (l₁ := [_, _, _, _, _, _, _])).symm))⟩⟩
            · repeat (first | (with_reducible exact Eqo.refl) | ((with_reducible refine Eqo.updl _ (Eqo.ovr2 ?_ ?_) ?_); rotate_left; exact rfl; exact rfl) | ((with_reducible refine Eqo.upd ?_ ?_); rotate_left; exact rfl))
            · refine ⟨?_, trivial⟩
              · exact rfl
          exact t_none
        exact t_none
      refine t_each ?_ ?_
      · skip
        refine t_eff rfl (e_bsl (xs := [.tmp 117]) (vals := [.agg (inC zPt none 0 0).toArray]) (vs := (inC zPt none 0 0)) (w_none rfl) rfl rfl rfl rfl rfl rfl tu28 ts56 ty56 rfl (by simp [agg_cells, len_in (p := zPt) rfl]) (by simp [agg_cells]) H ?_)
        clear H; intro h5 W H
        refine ⟨_, fun _ h => h, H.sub (by repeat (first | exact .refl _ | refine .cons _ ?_)), ?_⟩
        refine t_each ?_ ?_
        · skip
          refine t_eff rfl (e_mks (w_none rfl) rfl rfl rfl rfl (m := 256) rfl (by omega) tu34 tz5 tx5 H ?_)
          clear H; intro h3 W H
          refine ⟨_, fun _ h => h, H.sub (by repeat (first | exact .refl _ | refine .cons _ ?_)), ?_⟩
          refine t_run rfl (w_none rfl) rfl (fun W H => b_out rfl rfl) ?_
          refine t_each ?_ ?_
          · skip
            refine t_eff rfl (e_mks (w_none rfl) rfl rfl rfl rfl (m := 256) rfl (by omega) tu34 tz5 tx5 H ?_)
            clear H; intro h4 W H
            refine ⟨_, fun _ h => h, H.sub (by repeat (first | exact .refl _ | refine .cons _ ?_)), ?_⟩
            refine t_run rfl (w_none rfl) rfl (fun W H => b_out rfl rfl) ?_
            refine t_each ?_ ?_
            · skip
              refine t_eff rfl (e_bsl (xs := [.tmp 113, .tmp 115]) (vals := [.agg (outC 1 (some ⟨h3, 0, none⟩) 256 256).toArray, .agg (outC 1 (some ⟨h4, 0, none⟩) 256 256).toArray]) (vs := (outC 1 (some ⟨h3, 0, none⟩) 256 256 ++ outC 1 (some ⟨h4, 0, none⟩) 256 256)) (w_none rfl) rfl rfl rfl rfl rfl rfl tu29 ts58 ty58 rfl (by simp [agg_cells, outC]) (by simp [agg_cells]) H ?_)
              clear H; intro h6 W H
              refine ⟨_, fun _ h => h, H.sub (by repeat (first | exact .refl _ | refine .cons _ ?_)), ?_⟩
              refine t_run rfl (w_none rfl) rfl (fun W H => b_tx rfl rfl rfl) ?_
              refine t_run rfl (w_none rfl) rfl (fun W H => b_long rfl rfl) ?_
              refine t_eff rfl (e_alloc (w_none rfl) rfl rfl (recC Rc.zero zt) tz33 H ?_)
              clear H; intro g10 W H
              refine ⟨_, fun _ h => h, H.sub (by repeat (first | exact .refl _ | refine .cons _ ?_)), ?_⟩
              refine t_eff rfl (e_stoK (recC Rc.long (txC (some ⟨h5, 0, none⟩) 1 1 (some ⟨h6, 0, none⟩) 2 2 0)) (w_none rfl) rfl rfl rfl rfl rfl ts33 (len_rec rfl rfl rfl) (rec_one rfl) H (by rw [len_rec rfl rfl rfl]; decide) (spl_all ((len_rec rfl rfl rfl).trans (len_rec rfl rfl rfl).symm)) ?_)
              clear H; intro W H
              refine ⟨_, fun _ h => h, H.sub (by repeat (first | exact .refl _ | refine .cons _ ?_)), ?_⟩
              refine t_nil ?_
              refine k_nil ?_
              refine n_then ?_
              refine ⟨_, _, rfl, ?_, ?_, ⟨g10, h3, h4, h5, h6, rfl, H.perm (by repeat (first | exact .refl _ | refine .cons _ ?_ | refine .trans (.cons _ ?_) (List.perm_middle (l₁ := [_])).symm | refine .trans (.cons _ ?_) (List.perm_middle (l₁ := [_, _])).symm | refine .trans (.cons _ ?_) (List.perm_middle (l₁ := [_, _, _])).symm | refine .trans (.cons _ ?_) (List.perm_middle (l₁ := [_, _, _, _])).symm | refine .trans (.cons _ ?_) (List.perm_middle (l₁ := [_, _, _, _, _])).symm | refine .trans (.cons _ ?_) (List.perm_middle (l₁ := [_, _, _, _, _, _])).symm | refine .trans (.cons _ ?_) (List.perm_middle (l₁ := [_, _, _, _, _, _, _])).symm))⟩⟩
              · repeat (first | (with_reducible exact Eqo.refl) | ((with_reducible refine Eqo.updl _ (Eqo.ovr2 ?_ ?_) ?_); rotate_left; exact rfl; exact rfl) | ((with_reducible refine Eqo.upd ?_ ?_); rotate_left; exact rfl))
              · refine ⟨?_, trivial⟩
                · exact rfl
            refine t_each ?_ ?_
            · skip
              refine t_eff rfl (e_alloc (w_none rfl) rfl rfl (recC Rc.zero zt) tz33 H ?_)
              clear H; intro g10 W H
              refine ⟨_, fun _ h => h, H.sub (by repeat (first | exact .refl _ | refine .cons _ ?_)), ?_⟩
              refine t_eff rfl (e_bsl (xs := [.tmp 113, .tmp 115]) (vals := [.agg (outC 1 (some ⟨h3, 0, none⟩) 256 256).toArray, .agg (outC 1 (some ⟨h4, 0, none⟩) 256 256).toArray]) (vs := (outC 1 (some ⟨h3, 0, none⟩) 256 256 ++ outC 1 (some ⟨h4, 0, none⟩) 256 256)) (w_none rfl) rfl rfl rfl rfl rfl rfl tu29 ts58 ty58 rfl (by simp [agg_cells, outC]) (by simp [agg_cells]) H ?_)
              clear H; intro h6 W H
              refine ⟨_, fun _ h => h, H.sub (by repeat (first | exact .refl _ | refine .cons _ ?_)), ?_⟩
              refine t_run rfl (w_none rfl) rfl (fun W H => b_tx rfl rfl rfl) ?_
              refine t_run rfl (w_none rfl) rfl (fun W H => b_long rfl rfl) ?_
              refine t_eff rfl (e_stoK (recC Rc.long (txC (some ⟨h5, 0, none⟩) 1 1 (some ⟨h6, 0, none⟩) 2 2 0)) (w_none rfl) rfl rfl rfl rfl rfl ts33 (len_rec rfl rfl rfl) (rec_one rfl) H (by rw [len_rec rfl rfl rfl]; decide) (spl_all ((len_rec rfl rfl rfl).trans (len_rec rfl rfl rfl).symm)) ?_)
              clear H; intro W H
              refine ⟨_, fun _ h => h, H.sub (by repeat (first | exact .refl _ | refine .cons _ ?_)), ?_⟩
              refine t_nil ?_
              refine k_nil ?_
              refine n_then ?_
              refine ⟨_, _, rfl, ?_, ?_, ⟨g10, h3, h4, h5, h6, rfl, H.perm (by repeat (first | exact .refl _ | refine .cons _ ?_ | refine .trans (.cons _ ?_) (List.perm_middle (l₁ := [_])).symm | refine .trans (.cons _ ?_) (List.perm_middle (l₁ := [_, _])).symm | refine .trans (.cons _ ?_) (List.perm_middle (l₁ := [_, _, _])).symm | refine .trans (.cons _ ?_) (List.perm_middle (l₁ := [_, _, _, _])).symm | refine .trans (.cons _ ?_) (List.perm_middle (l₁ := [_, _, _, _, _])).symm | refine .trans (.cons _ ?_) (List.perm_middle (l₁ := [_, _, _, _, _, _])).symm | refine .trans (.cons _ ?_) (List.perm_middle (l₁ := [_, _, _, _, _, _, _])).symm))⟩⟩
              · repeat (first | (with_reducible exact Eqo.refl) | ((with_reducible refine Eqo.updl _ (Eqo.ovr2 ?_ ?_) ?_); rotate_left; exact rfl; exact rfl) | ((with_reducible refine Eqo.upd ?_ ?_); rotate_left; exact rfl))
              · refine ⟨?_, trivial⟩
                · exact rfl
            exact t_none
          refine t_each ?_ ?_
          · skip
            refine t_eff rfl (e_alloc (w_none rfl) rfl rfl (recC Rc.zero zt) tz33 H ?_)
            clear H; intro g10 W H
            refine ⟨_, fun _ h => h, H.sub (by repeat (first | exact .refl _ | refine .cons _ ?_)), ?_⟩
            refine t_eff rfl (e_mks (w_none rfl) rfl rfl rfl rfl (m := 256) rfl (by omega) tu34 tz5 tx5 H ?_)
            clear H; intro h4 W H
            refine ⟨_, fun _ h => h, H.sub (by repeat (first | exact .refl _ | refine .cons _ ?_)), ?_⟩
            refine t_run rfl (w_none rfl) rfl (fun W H => b_out rfl rfl) ?_
            refine t_eff rfl (e_bsl (xs := [.tmp 113, .tmp 115]) (vals := [.agg (outC 1 (some ⟨h3, 0, none⟩) 256 256).toArray, .agg (outC 1 (some ⟨h4, 0, none⟩) 256 256).toArray]) (vs := (outC 1 (some ⟨h3, 0, none⟩) 256 256 ++ outC 1 (some ⟨h4, 0, none⟩) 256 256)) (w_none rfl) rfl rfl rfl rfl rfl rfl tu29 ts58 ty58 rfl (by simp [agg_cells, outC]) (by simp [agg_cells]) H ?_)
            clear H; intro h6 W H
            refine ⟨_, fun _ h => h, H.sub (by repeat (first | exact .refl _ | refine .cons _ ?_)), ?_⟩
            refine t_run rfl (w_none rfl) rfl (fun W H => b_tx rfl rfl rfl) ?_
            refine t_run rfl (w_none rfl) rfl (fun W H => b_long rfl rfl) ?_
            refine t_eff rfl (e_stoK (recC Rc.long (txC (some ⟨h5, 0, none⟩) 1 1 (some ⟨h6, 0, none⟩) 2 2 0)) (w_none rfl) rfl rfl rfl rfl rfl ts33 (len_rec rfl rfl rfl) (rec_one rfl) H (by rw [len_rec rfl rfl rfl]; decide) (spl_all ((len_rec rfl rfl rfl).trans (len_rec rfl rfl rfl).symm)) ?_)
            clear H; intro W H
            refine ⟨_, fun _ h => h, H.sub (by repeat (first | exact .refl _ | refine .cons _ ?_)), ?_⟩
            refine t_nil ?_
            refine k_nil ?_
            refine n_then ?_
            refine ⟨_, _, rfl, ?_, ?_, ⟨g10, h3, h4, h5, h6, rfl, H.perm (by repeat (first | exact .refl _ | refine .cons _ ?_ | refine .trans (.cons _ ?_) (List.perm_middle (l₁ := [_])).symm | refine .trans (.cons _ ?_) (List.perm_middle (l₁ := [_, _])).symm | refine .trans (.cons _ ?_) (List.perm_middle (l₁ := [_, _, _])).symm | refine .trans (.cons _ ?_) (List.perm_middle (l₁ := [_, _, _, _])).symm | refine .trans (.cons _ ?_) (List.perm_middle (l₁ := [_, _, _, _, _])).symm | refine .trans (.cons _ ?_) (List.perm_middle (l₁ := [_, _, _, _, _, _])).symm | refine .trans (.cons _ ?_) (List.perm_middle (l₁ := [_, _, _, _, _, _, _])).symm))⟩⟩
            · repeat (first | (with_reducible exact Eqo.refl) | ((with_reducible refine Eqo.updl _ (Eqo.ovr2 ?_ ?_) ?_); rotate_left; exact rfl; exact rfl) | ((with_reducible refine Eqo.upd ?_ ?_); rotate_left; exact rfl))
            · refine ⟨?_, trivial⟩
              · exact rfl
          exact t_none
        refine t_each ?_ ?_
        · skip
          refine t_eff rfl (e_mks (w_none rfl) rfl rfl rfl rfl (m := 256) rfl (by omega) tu34 tz5 tx5 H ?_)
          clear H; intro h4 W H
          refine ⟨_, fun _ h => h, H.sub (by repeat (first | exact .refl _ | refine .cons _ ?_)), ?_⟩
          refine t_run rfl (w_none rfl) rfl (fun W H => b_out rfl rfl) ?_
          refine t_each ?_ ?_
          · skip
            refine t_eff rfl (e_mks (w_none rfl) rfl rfl rfl rfl (m := 256) rfl (by omega) tu34 tz5 tx5 H ?_)
            clear H; intro h3 W H
            refine ⟨_, fun _ h => h, H.sub (by repeat (first | exact .refl _ | refine .cons _ ?_)), ?_⟩
            refine t_run rfl (w_none rfl) rfl (fun W H => b_out rfl rfl) ?_
            refine t_each ?_ ?_
            · skip
              refine t_eff rfl (e_bsl (xs := [.tmp 113, .tmp 115]) (vals := [.agg (outC 1 (some ⟨h3, 0, none⟩) 256 256).toArray, .agg (outC 1 (some ⟨h4, 0, none⟩) 256 256).toArray]) (vs := (outC 1 (some ⟨h3, 0, none⟩) 256 256 ++ outC 1 (some ⟨h4, 0, none⟩) 256 256)) (w_none rfl) rfl rfl rfl rfl rfl rfl tu29 ts58 ty58 rfl (by simp [agg_cells, outC]) (by simp [agg_cells]) H ?_)
              clear H; intro h6 W H
              refine ⟨_, fun _ h => h, H.sub (by repeat (first | exact .refl _ | refine .cons _ ?_)), ?_⟩
              refine t_run rfl (w_none rfl) rfl (fun W H => b_tx rfl rfl rfl) ?_
              refine t_run rfl (w_none rfl) rfl (fun W H => b_long rfl rfl) ?_
              refine t_eff rfl (e_alloc (w_none rfl) rfl rfl (recC Rc.zero zt) tz33 H ?_)
              clear H; intro g10 W H
              refine ⟨_, fun _ h => h, H.sub (by repeat (first | exact .refl _ | refine .cons _ ?_)), ?_⟩
              refine t_eff rfl (e_stoK (recC Rc.long (txC (some ⟨h5, 0, none⟩) 1 1 (some ⟨h6, 0, none⟩) 2 2 0)) (w_none rfl) rfl rfl rfl rfl rfl ts33 (len_rec rfl rfl rfl) (rec_one rfl) H (by rw [len_rec rfl rfl rfl]; decide) (spl_all ((len_rec rfl rfl rfl).trans (len_rec rfl rfl rfl).symm)) ?_)
              clear H; intro W H
              refine ⟨_, fun _ h => h, H.sub (by repeat (first | exact .refl _ | refine .cons _ ?_)), ?_⟩
              refine t_nil ?_
              refine k_nil ?_
              refine n_then ?_
              refine ⟨_, _, rfl, ?_, ?_, ⟨g10, h3, h4, h5, h6, rfl, H.perm (by repeat (first | exact .refl _ | refine .cons _ ?_ | refine .trans (.cons _ ?_) (List.perm_middle (l₁ := [_])).symm | refine .trans (.cons _ ?_) (List.perm_middle (l₁ := [_, _])).symm | refine .trans (.cons _ ?_) (List.perm_middle (l₁ := [_, _, _])).symm | refine .trans (.cons _ ?_) (List.perm_middle (l₁ := [_, _, _, _])).symm | refine .trans (.cons _ ?_) (List.perm_middle (l₁ := [_, _, _, _, _])).symm | refine .trans (.cons _ ?_) (List.perm_middle (l₁ := [_, _, _, _, _, _])).symm | refine .trans (.cons _ ?_) (List.perm_middle (l₁ := [_, _, _, _, _, _, _])).symm))⟩⟩
              · repeat (first | (with_reducible exact Eqo.refl) | ((with_reducible refine Eqo.updl _ (Eqo.ovr2 ?_ ?_) ?_); rotate_left; exact rfl; exact rfl) | ((with_reducible refine Eqo.upd ?_ ?_); rotate_left; exact rfl))
              · refine ⟨?_, trivial⟩
                · exact rfl
            refine t_each ?_ ?_
            · skip
              refine t_eff rfl (e_alloc (w_none rfl) rfl rfl (recC Rc.zero zt) tz33 H ?_)
              clear H; intro g10 W H
              refine ⟨_, fun _ h => h, H.sub (by repeat (first | exact .refl _ | refine .cons _ ?_)), ?_⟩
              refine t_eff rfl (e_bsl (xs := [.tmp 113, .tmp 115]) (vals := [.agg (outC 1 (some ⟨h3, 0, none⟩) 256 256).toArray, .agg (outC 1 (some ⟨h4, 0, none⟩) 256 256).toArray]) (vs := (outC 1 (some ⟨h3, 0, none⟩) 256 256 ++ outC 1 (some ⟨h4, 0, none⟩) 256 256)) (w_none rfl) rfl rfl rfl rfl rfl rfl tu29 ts58 ty58 rfl (by simp [agg_cells, outC]) (by simp [agg_cells]) H ?_)
              clear H; intro h6 W H
              refine ⟨_, fun _ h => h, H.sub (by repeat (first | exact .refl _ | refine .cons _ ?_)), ?_⟩
              refine t_run rfl (w_none rfl) rfl (fun W H => b_tx rfl rfl rfl) ?_
              refine t_run rfl (w_none rfl) rfl (fun W H => b_long rfl rfl) ?_
              refine t_eff rfl (e_stoK (recC Rc.long (txC (some ⟨h5, 0, none⟩) 1 1 (some ⟨h6, 0, none⟩) 2 2 0)) (w_none rfl) rfl rfl rfl rfl rfl ts33 (len_rec rfl rfl rfl) (rec_one rfl) H (by rw [len_rec rfl rfl rfl]; decide) (spl_all ((len_rec rfl rfl rfl).trans (len_rec rfl rfl rfl).symm)) ?_)
              clear H; intro W H
              refine ⟨_, fun _ h => h, H.sub (by repeat (first | exact .refl _ | refine .cons _ ?_)), ?_⟩
              refine t_nil ?_
              refine k_nil ?_
              refine n_then ?_
              refine ⟨_, _, rfl, ?_, ?_, ⟨g10, h3, h4, h5, h6, rfl, H.perm (by repeat (first | exact .refl _ | refine .cons _ ?_ | refine .trans (.cons _ ?_) (List.perm_middle (l₁ := [_])).symm | refine .trans (.cons _ ?_) (List.perm_middle (l₁ := [_, _])).symm | refine .trans (.cons _ ?_) (List.perm_middle (l₁ := [_, _, _])).symm | refine .trans (.cons _ ?_) (List.perm_middle (l₁ := [_, _, _, _])).symm | refine .trans (.cons _ ?_) (List.perm_middle (l₁ := [_, _, _, _, _])).symm | refine .trans (.cons _ ?_) (List.perm_middle (l₁ := [_, _, _, _, _, _])).symm | refine .trans (.cons _ ?_) (List.perm_middle (l₁ := [_, _, _, _, _, _, _])).symm))⟩⟩
              · repeat (first | (with_reducible exact Eqo.refl) | ((with_reducible refine Eqo.updl _ (Eqo.ovr2 ?_ ?_) ?_); rotate_left; exact rfl; exact rfl) | ((with_reducible refine Eqo.upd ?_ ?_); rotate_left; exact rfl))
              · refine ⟨?_, trivial⟩
                · exact rfl
            exact t_none
          refine t_each ?_ ?_
          · skip
            refine t_eff rfl (e_alloc (w_none rfl) rfl rfl (recC Rc.zero zt) tz33 H ?_)
            clear H; intro g10 W H
            refine ⟨_, fun _ h => h, H.sub (by repeat (first | exact .refl _ | refine .cons _ ?_)), ?_⟩
            refine t_eff rfl (e_mks (w_none rfl) rfl rfl rfl rfl (m := 256) rfl (by omega) tu34 tz5 tx5 H ?_)
            clear H; intro h3 W H
            refine ⟨_, fun _ h => h, H.sub (by repeat (first | exact .refl _ | refine .cons _ ?_)), ?_⟩
            refine t_run rfl (w_none rfl) rfl (fun W H => b_out rfl rfl) ?_
            refine t_eff rfl (e_bsl (xs := [.tmp 113, .tmp 115]) (vals := [.agg (outC 1 (some ⟨h3, 0, none⟩) 256 256).toArray, .agg (outC 1 (some ⟨h4, 0, none⟩) 256 256).toArray]) (vs := (outC 1 (some ⟨h3, 0, none⟩) 256 256 ++ outC 1 (some ⟨h4, 0, none⟩) 256 256)) (w_none rfl) rfl rfl rfl rfl rfl rfl tu29 ts58 ty58 rfl (by simp [agg_cells, outC]) (by simp [agg_cells]) H ?_)
            clear H; intro h6 W H
            refine ⟨_, fun _ h => h, H.sub (by repeat (first | exact .refl _ | refine .cons _ ?_)), ?_⟩
            refine t_run rfl (w_none rfl) rfl (fun W H => b_tx rfl rfl rfl) ?_
            refine t_run rfl (w_none rfl) rfl (fun W H => b_long rfl rfl) ?_
            refine t_eff rfl (e_stoK (recC Rc.long (txC (some ⟨h5, 0, none⟩) 1 1 (some ⟨h6, 0, none⟩) 2 2 0)) (w_none rfl) rfl rfl rfl rfl rfl ts33 (len_rec rfl rfl rfl) (rec_one rfl) H (by rw [len_rec rfl rfl rfl]; decide) (spl_all ((len_rec rfl rfl rfl).trans (len_rec rfl rfl rfl).symm)) ?_)
            clear H; intro W H
            refine ⟨_, fun _ h => h, H.sub (by repeat (first | exact .refl _ | refine .cons _ ?_)), ?_⟩
            refine t_nil ?_
            refine k_nil ?_
            refine n_then ?_
            refine ⟨_, _, rfl, ?_, ?_, ⟨g10, h3, h4, h5, h6, rfl, H.perm (by repeat (first | exact .refl _ | refine .cons _ ?_ | refine .trans (.cons _ ?_) (List.perm_middle (l₁ := [_])).symm | refine .trans (.cons _ ?_) (List.perm_middle (l₁ := [_, _])).symm | refine .trans (.cons _ ?_) (List.perm_middle (l₁ := [_, _, _])).symm | refine .trans (.cons _ ?_) (List.perm_middle (l₁ := [_, _, _, _])).symm | refine .trans (.cons _ ?_) (List.perm_middle (l₁ := [_, _, _, _, _])).symm | refine .trans (.cons _ ?_) (List.perm_middle (l₁ := [_, _, _, _, _, _])).symm | refine .trans (.cons _ ?_) (List.perm_middle (l₁ := [_, _, _, _, _, _, _])).symm))⟩⟩
            · repeat (first | (with_reducible exact Eqo.refl) | ((with_reducible refine Eqo.updl _ (Eqo.ovr2 ?_ ?_) ?_); rotate_left; exact rfl; exact rfl) | ((with_reducible refine Eqo.upd ?_ ?_); rotate_left; exact rfl))
            · refine ⟨?_, trivial⟩
              · exact rfl
          exact t_none
        refine t_each ?_ ?_
        · skip
          refine t_eff rfl (e_alloc (w_none rfl) rfl rfl (recC Rc.zero zt) tz33 H ?_)
          clear H; intro g10 W H
          refine ⟨_, fun _ h => h, H.sub (by repeat (first | exact .refl _ | refine .cons _ ?_)), ?_⟩
          refine t_each ?_ ?_
          · skip
            refine t_eff rfl (e_mks (w_none rfl) rfl rfl rfl rfl (m := 256) rfl (by omega) tu34 tz5 tx5 H ?_)
            clear H; intro h3 W H
            refine ⟨_, fun _ h => h, H.sub (by repeat (first | exact .refl _ | refine .cons _ ?_)), ?_⟩
            refine t_run rfl (w_none rfl) rfl (fun W H => b_out rfl rfl) ?_
            refine t_eff rfl (e_mks (w_none rfl) rfl rfl rfl rfl (m := 256) rfl (by omega) tu34 tz5 tx5 H ?_)
            clear H; intro h4 W H
            refine ⟨_, fun _ h => h, H.sub (by repeat (first | exact .refl _ | refine .cons _ ?_)), ?_⟩
            refine t_run rfl (w_none rfl) rfl (fun W H => b_out rfl rfl) ?_
            refine t_eff rfl (e_bsl (xs := [.tmp 113, .tmp 115]) (vals := [.agg (outC 1 (some ⟨h3, 0, none⟩) 256 256).toArray, .agg (outC 1 (some ⟨h4, 0, none⟩) 256 256).toArray]) (vs := (outC 1 (some ⟨h3, 0, none⟩) 256 256 ++ outC 1 (some ⟨h4, 0, none⟩) 256 256)) (w_none rfl) rfl rfl rfl rfl rfl rfl tu29 ts58 ty58 rfl (by simp [agg_cells, outC]) (by simp [agg_cells]) H ?_)
            clear H; intro h6 W H
            refine ⟨_, fun _ h => h, H.sub (by repeat (first | exact .refl _ | refine .cons _ ?_)), ?_⟩
            refine t_run rfl (w_none rfl) rfl (fun W H => b_tx rfl rfl rfl) ?_
            refine t_run rfl (w_none rfl) rfl (fun W H => b_long rfl rfl) ?_
            refine t_eff rfl (e_stoK (recC Rc.long (txC (some ⟨h5, 0, none⟩) 1 1 (some ⟨h6, 0, none⟩) 2 2 0)) (w_none rfl) rfl rfl rfl rfl rfl ts33 (len_rec rfl rfl rfl) (rec_one rfl) H (by rw [len_rec rfl rfl rfl]; decide) (spl_all ((len_rec rfl rfl rfl).trans (len_rec rfl rfl rfl).symm)) ?_)
            clear H; intro W H
            refine ⟨_, fun _ h => h, H.sub (by repeat (first | exact .refl _ | refine .cons _ ?_)), ?_⟩
            refine t_nil ?_
            refine k_nil ?_
            refine n_then ?_
            refine ⟨_, _, rfl, ?_, ?_, ⟨g10, h3, h4, h5, h6, rfl, H.perm (by repeat (first | exact .refl _ | refine .cons _ ?_ | refine .trans (.cons _ ?_) (List.perm_middle (l₁ := [_])).symm | refine .trans (.cons _ ?_) (List.perm_middle (l₁ := [_, _])).symm | refine .trans (.cons _ ?_) (List.perm_middle (l₁ := [_, _, _])).symm | refine .trans (.cons _ ?_) (List.perm_middle (l₁ := [_, _, _, _])).symm | refine .trans (.cons _ ?_) (List.perm_middle (l₁ := [_, _, _, _, _])).symm | refine .trans (.cons _ ?_) (List.perm_middle (l₁ := [_, _, _, _, _, _])).symm | refine .trans (.cons _ ?_) (List.perm_middle (l₁ := [_, _, _, _, _, _, _])).symm))⟩⟩
            · repeat (first | (with_reducible exact Eqo.refl) | ((with_reducible refine Eqo.updl _ (Eqo.ovr2 ?_ ?_) ?_); rotate_left; exact rfl; exact rfl) | ((with_reducible refine Eqo.upd ?_ ?_); rotate_left; exact rfl))
            · refine ⟨?_, trivial⟩
              · exact rfl
          refine t_each ?_ ?_
          · skip
            refine t_eff rfl (e_mks (w_none rfl) rfl rfl rfl rfl (m := 256) rfl (by omega) tu34 tz5 tx5 H ?_)
            clear H; intro h4 W H
            refine ⟨_, fun _ h => h, H.sub (by repeat (first | exact .refl _ | refine .cons _ ?_)), ?_⟩
            refine t_run rfl (w_none rfl) rfl (fun W H => b_out rfl rfl) ?_
            refine t_eff rfl (e_mks (w_none rfl) rfl rfl rfl rfl (m := 256) rfl (by omega) tu34 tz5 tx5 H ?_)
            clear H; intro h3 W H
            refine ⟨_, fun _ h => h, H.sub (by repeat (first | exact .refl _ | refine .cons _ ?_)), ?_⟩
            refine t_run rfl (w_none rfl) rfl (fun W H => b_out rfl rfl) ?_
            refine t_eff rfl (e_bsl (xs := [.tmp 113, .tmp 115]) (vals := [.agg (outC 1 (some ⟨h3, 0, none⟩) 256 256).toArray, .agg (outC 1 (some ⟨h4, 0, none⟩) 256 256).toArray]) (vs := (outC 1 (some ⟨h3, 0, none⟩) 256 256 ++ outC 1 (some ⟨h4, 0, none⟩) 256 256)) (w_none rfl) rfl rfl rfl rfl rfl rfl tu29 ts58 ty58 rfl (by simp [agg_cells, outC]) (by simp [agg_cells]) H ?_)
            clear H; intro h6 W H
            refine ⟨_, fun _ h => h, H.sub (by repeat (first | exact .refl _ | refine .cons _ ?_)), ?_⟩
            refine t_run rfl (w_none rfl) rfl (fun W H => b_tx rfl rfl rfl) ?_
            refine t_run rfl (w_none rfl) rfl (fun W H => b_long rfl rfl) ?_
            refine t_eff rfl (e_stoK (recC Rc.long (txC (some ⟨h5, 0, none⟩) 1 1 (some ⟨h6, 0, none⟩) 2 2 0)) (w_none rfl) rfl rfl rfl rfl rfl ts33 (len_rec rfl rfl rfl) (rec_one rfl) H (by rw [len_rec rfl rfl rfl]; decide) (spl_all ((len_rec rfl rfl rfl).trans (len_rec rfl rfl rfl).symm)) ?_)
            clear H; intro W H
            refine ⟨_, fun _ h => h, H.sub (by repeat (first | exact .refl _ | refine .cons _ ?_)), ?_⟩
            refine t_nil ?_
            refine k_nil ?_
            refine n_then ?_
            refine ⟨_, _, rfl, ?_, ?_, ⟨g10, h3, h4, h5, h6, rfl, H.perm (by repeat (first | exact .refl _ | refine .cons _ ?_ | refine .trans (.cons _ ?_) (List.perm_middle (l₁ := [_])).symm | refine .trans (.cons _ ?_) (List.perm_middle (l₁ := [_, _])).symm | refine .trans (.cons _ ?_) (List.perm_middle (l₁ := [_, _, _])).symm | refine .trans (.cons _ ?_) (List.perm_middle (l₁ := [_, _, _, _])).symm | refine .trans (.cons _ ?_) (List.perm_middle (l₁ := [_, _, _, _, _])).symm | refine .trans (.cons _ ?_) (List.perm_middle (l₁ := [_, _, _, _, _, _])).symm | refine .trans (.cons _ ?_) (List.perm_middle (l₁ := [_, _, _, _, _, _, _])).symm))⟩⟩
            · repeat (first | (with_reducible exact Eqo.refl) | ((with_reducible refine Eqo.updl _ (Eqo.ovr2 ?_ ?_) ?_); rotate_left; exact rfl; exact rfl) | ((with_reducible refine Eqo.upd ?_ ?_); rotate_left; exact rfl))
            · refine ⟨?_, trivial⟩
              · exact rfl
          exact t_none
        exact t_none
      refine t_each ?_ ?_
      · skip
        refine t_eff rfl (e_alloc (w_none rfl) rfl rfl (recC Rc.zero zt) tz33 H ?_)
        clear H; intro g10 W H
        refine ⟨_, fun _ h => h, H.sub (by repeat (first | exact .refl _ | refine .cons _ ?_)), ?_⟩
        refine t_each ?_ ?_
        · skip
          refine t_eff rfl (e_mks (w_none rfl) rfl rfl rfl rfl (m := 256) rfl (by omega) tu34 tz5 tx5 H ?_)
          clear H; intro h3 W H
          refine ⟨_, fun _ h => h, H.sub (by repeat (first | exact .refl _ | refine .cons _ ?_)), ?_⟩
          refine t_run rfl (w_none rfl) rfl (fun W H => b_out rfl rfl) ?_
          refine t_each ?_ ?_
          · skip
            refine t_eff rfl (e_mks (w_none rfl) rfl rfl rfl rfl (m := 256) rfl (by omega) tu34 tz5 tx5 H ?_)
            clear H; intro h4 W H
            refine ⟨_, fun _ h => h, H.sub (by repeat (first | exact .refl _ | refine .cons _ ?_)), ?_⟩
            refine t_run rfl (w_none rfl) rfl (fun W H => b_out rfl rfl) ?_
            refine t_each ?_ ?_
            · skip
              refine t_eff rfl (e_bsl (xs := [.tmp 113, .tmp 115]) (vals := [.agg (outC 1 (some ⟨h3, 0, none⟩) 256 256).toArray, .agg (outC 1 (some ⟨h4, 0, none⟩) 256 256).toArray]) (vs := (outC 1 (some ⟨h3, 0, none⟩) 256 256 ++ outC 1 (some ⟨h4, 0, none⟩) 256 256)) (w_none rfl) rfl rfl rfl rfl rfl rfl tu29 ts58 ty58 rfl (by simp [agg_cells, outC]) (by simp [agg_cells]) H ?_)
              clear H; intro h6 W H
              refine ⟨_, fun _ h => h, H.sub (by repeat (first | exact .refl _ | refine .cons _ ?_)), ?_⟩
              refine t_eff rfl (e_bsl (xs := [.tmp 117]) (vals := [.agg (inC zPt none 0 0).toArray]) (vs := (inC zPt none 0 0)) (w_none rfl) rfl rfl rfl rfl rfl rfl tu28 ts56 ty56 rfl (by simp [agg_cells, len_in (p := zPt) rfl]) (by simp [agg_cells]) H ?_)
              clear H; intro h5 W H
              refine ⟨_, fun _ h => h, H.sub (by repeat (first | exact .refl _ | refine .cons _ ?_)), ?_⟩
              refine t_run rfl (w_none rfl) rfl (fun W H => b_tx rfl rfl rfl) ?_
              refine t_run rfl (w_none rfl) rfl (fun W H => b_long rfl rfl) ?_
              refine t_eff rfl (e_stoK (recC Rc.long (txC (some ⟨h5, 0, none⟩) 1 1 (some ⟨h6, 0, none⟩) 2 2 0)) (w_none rfl) rfl rfl rfl rfl rfl ts33 (len_rec rfl rfl rfl) (rec_one rfl) H (by rw [len_rec rfl rfl rfl]; decide) (spl_all ((len_rec rfl rfl rfl).trans (len_rec rfl rfl rfl).symm)) ?_)
              clear H; intro W H
              refine ⟨_, fun _ h => h, H.sub (by repeat (first | exact .refl _ | refine .cons _ ?_)), ?_⟩
              refine t_nil ?_
              refine k_nil ?_
              refine n_then ?_
              refine ⟨_, _, rfl, ?_, ?_, ⟨g10, h3, h4, h5, h6, rfl, H.perm (by repeat (first | exact .refl _ | refine .cons _ ?_ | refine .trans (.cons _ ?_) (List.perm_middle (l₁ := [_])).symm | refine .trans (.cons _ ?_) (List.perm_middle (l₁ := [_, _])).symm | refine .trans (.cons _ ?_) (List.perm_middle (l₁ := [_, _, _])).symm | refine .trans (.cons _ ?_) (List.perm_middle (l₁ := [_, _, _, _])).symm | refine .trans (.cons _ ?_) (List.perm_middle (l₁ := [_, _, _, _, _])).symm | refine .trans (.cons _ ?_) (List.perm_middle (l₁ := [_, _, _, _, _, _])).symm | refine .trans (.cons _ ?_) (List.perm_middle (l₁ := [_, _, _, _, _, _, _])).symm))⟩⟩
              · repeat (first | (with_reducible exact Eqo.refl) | ((with_reducible refine Eqo.updl _ (Eqo.ovr2 ?_ ?_) ?_); rotate_left; exact rfl; exact rfl) | ((with_reducible refine Eqo.upd ?_ ?_); rotate_left; exact rfl))
              · refine ⟨?_, trivial⟩
                · exact rfl
            refine t_each ?_ ?_
            · skip
              refine t_eff rfl (e_bsl (xs := [.tmp 117]) (vals := [.agg (inC zPt none 0 0).toArray]) (vs := (inC zPt none 0 0)) (w_none rfl) rfl rfl rfl rfl rfl rfl tu28 ts56 ty56 rfl (by simp [agg_cells, len_in (p := zPt) rfl]) (by simp [agg_cells]) H ?_)
              clear H; intro h5 W H
              refine ⟨_, fun _ h => h, H.sub (by repeat (first | exact .refl _ | refine .cons _ ?_)), ?_⟩
              refine t_eff rfl (e_bsl (xs := [.tmp 113, .tmp 115]) (vals := [.agg (outC 1 (some ⟨h3, 0, none⟩) 256 256).toArray, .agg (outC 1 (some ⟨h4, 0, none⟩) 256 256).toArray]) (vs := (outC 1 (some ⟨h3, 0, none⟩) 256 256 ++ outC 1 (some ⟨h4, 0, none⟩) 256 256)) (w_none rfl) rfl rfl rfl rfl rfl rfl tu29 ts58 ty58 rfl (by simp [agg_cells, outC]) (by simp [agg_cells]) H ?_)
              clear H; intro h6 W H
              refine ⟨_, fun _ h => h, H.sub (by repeat (first | exact .refl _ | refine .cons _ ?_)), ?_⟩
              refine t_run rfl (w_none rfl) rfl (fun W H => b_tx rfl rfl rfl) ?_
              refine t_run rfl (w_none rfl) rfl (fun W H => b_long rfl rfl) ?_
              refine t_eff rfl (e_stoK (recC Rc.long (txC (some ⟨h5, 0, none⟩) 1 1 (some ⟨h6, 0, none⟩) 2 2 0)) (w_none rfl) rfl rfl rfl rfl rfl ts33 (len_rec rfl rfl rfl) (rec_one rfl) H (by rw [len_rec rfl rfl rfl]; decide) (spl_all ((len_rec rfl rfl rfl).trans (len_rec rfl rfl rfl).symm)) ?_)
              clear H; intro W H
              refine ⟨_, fun _ h => h, H.sub (by repeat (first | exact .refl _ | refine .cons _ ?_)), ?_⟩
              refine t_nil ?_
              refine k_nil ?_
              refine n_then ?_
              refine ⟨_, _, rfl, ?_, ?_, ⟨g10, h3, h4, h5, h6, rfl, H.perm (by repeat (first | exact .refl _ | refine .cons _ ?_ | refine .trans (.cons _ ?_) (List.perm_middle (l₁ := [_])).symm | refine .trans (.cons _ ?_) (List.perm_middle (l₁ := [_, _])).symm | refine .trans (.cons _ ?_) (List.perm_middle (l₁ := [_, _, _])).symm | refine .trans (.cons _ ?_) (List.perm_middle (l₁ := [_, _, _, _])).symm | refine .trans (.cons _ ?_) (List.perm_middle (l₁ := [_, _, _, _, _])).symm | refine .trans (.cons _ ?_) (List.perm_middle (l₁ := [_, _, _, _, _, _])).symm | refine .trans (.cons _ ?_) (List.perm_middle (l₁ := [_, _, _, _, _, _, _])).symm))⟩⟩
              · repeat (first | (with_reducible exact Eqo.refl) | ((with_reducible refine Eqo.updl _ (Eqo.ovr2 ?_ ?_) ?_); rotate_left; exact rfl; exact rfl) | ((with_reducible refine Eqo.upd ?_ ?_); rotate_left; exact rfl))
              · refine ⟨?_, trivial⟩
                · exact rfl
            exact t_none
          refine t_each ?_ ?_
          · skip
            refine t_eff rfl (e_bsl (xs := [.tmp 117]) (vals := [.agg (inC zPt none 0 0).toArray]) (vs := (inC zPt none 0 0)) (w_none rfl) rfl rfl rfl rfl rfl rfl tu28 ts56 ty56 rfl (by simp [agg_cells, len_in (p := zPt) rfl]) (by simp [agg_cells]) H ?_)
            clear H; intro h5 W H
            refine ⟨_, fun _ h => h, H.sub (by repeat (first | exact .refl _ | refine .cons _ ?_)), ?_⟩
            refine t_eff rfl (e_mks (w_none rfl) rfl rfl rfl rfl (m := 256) rfl (by omega) tu34 tz5 tx5 H ?_)
            clear H; intro h4 W H
            refine ⟨_, fun _ h => h, H.sub (by repeat (first | exact .refl _ | refine .cons _ ?_)), ?_⟩
            refine t_run rfl (w_none rfl) rfl (fun W H => b_out rfl rfl) ?_
            refine t_eff rfl (e_bsl (xs := [.tmp 113, .tmp 115]) (vals := [.agg (outC 1 (some ⟨h3, 0, none⟩) 256 256).toArray, .agg (outC 1 (some ⟨h4, 0, none⟩) 256 256).toArray]) (vs := (outC 1 (some ⟨h3, 0, none⟩) 256 256 ++ outC 1 (some ⟨h4, 0, none⟩) 256 256)) (w_none rfl) rfl rfl rfl rfl rfl rfl tu29 ts58 ty58 rfl (by simp [agg_cells, outC]) (by simp [agg_cells]) H ?_)
            clear H; intro h6 W H
            refine ⟨_, fun _ h => h, H.sub (by repeat (first | exact .refl _ | refine .cons _ ?_)), ?_⟩
            refine t_run rfl (w_none rfl) rfl (fun W H => b_tx rfl rfl rfl) ?_
            refine t_run rfl (w_none rfl) rfl (fun W H => b_long rfl rfl) ?_
            refine t_eff rfl (e_stoK (recC Rc.long (txC (some ⟨h5, 0, none⟩) 1 1 (some ⟨h6, 0, none⟩) 2 2 0)) (w_none rfl) rfl rfl rfl rfl rfl ts33 (len_rec rfl rfl rfl) (rec_one rfl) H (by rw [len_rec rfl rfl rfl]; decide) (spl_all ((len_rec rfl rfl rfl).trans (len_rec rfl rfl rfl).symm)) ?_)
            clear H; intro W H
            refine ⟨_, fun _ h => h, H.sub (by repeat (first | exact .refl _ | refine .cons _ ?_)), ?_⟩
            refine t_nil ?_
            refine k_nil ?_
            refine n_then ?_
            refine ⟨_, _, rfl, ?_, ?_, ⟨g10, h3, h4, h5, h6, rfl, H.perm (by repeat (first | exact .refl _ | refine .cons _ ?_ | refine .trans (.cons _ ?_) (List.perm_middle (l₁ := [_])).symm | refine .trans (.cons _ ?_) (List.perm_middle (l₁ := [_, _])).symm | refine .trans (.cons _ ?_) (List.perm_middle (l₁ := [_, _, _])).symm | refine .trans (.cons _ ?_) (List.perm_middle (l₁ := [_, _, _, _])).symm | refine .trans (.cons _ ?_) (List.perm_middle (l₁ := [_, _, _, _, _])).symm | refine .trans (.cons _ ?_) (List.perm_middle (l₁ := [_, _, _, _, _, _])).symm | refine .trans (.cons _ ?_) (List.perm_middle (l₁ := [_, _, _, _, _, _, _])).symm))⟩⟩
            · repeat (first | (with_reducible exact Eqo.refl) | ((with_reducible refine Eqo.updl _ (Eqo.ovr2 ?_ ?_) ?_); rotate_left; exact rfl; exact rfl) | ((with_reducible refine Eqo.upd ?_ ?_); rotate_left; exact rfl))
            · refine ⟨?_, trivial⟩
              · exact rfl
          exact t_none
        refine t_each ?_ ?_
        · skip
          refine t_eff rfl (e_mks (w_none rfl) rfl rfl rfl rfl (m := 256) rfl (by omega) tu34 tz5 tx5 H ?_)
          clear H; intro h4 W H
          refine ⟨_, fun _ h => h, H.sub (by repeat (first | exact .refl _ | refine .cons _ ?_)), ?_⟩
          refine t_run rfl (w_none rfl) rfl (fun W H => b_out rfl rfl) ?_
          refine t_each ?_ ?_
          · skip
            refine t_eff rfl (e_mks (w_none rfl) rfl rfl rfl rfl (m := 256) rfl (by omega) tu34 tz5 tx5 H ?_)
            clear H; intro h3 W H
            refine ⟨_, fun _ h => h, H.sub (by repeat (first | exact .refl _ | refine .cons _ ?_)), ?_⟩
            refine t_run rfl (w_none rfl) rfl (fun W H => b_out rfl rfl) ?_
            refine t_each ?_ ?_
            · skip
              refine t_eff rfl (e_bsl (xs := [.tmp 113, .tmp 115]) (vals := [.agg (outC 1 (some ⟨h3, 0, none⟩) 256 256).toArray, .agg (outC 1 (some ⟨h4, 0, none⟩) 256 256).toArray]) (vs := (outC 1 (some ⟨h3, 0, none⟩) 256 256 ++ outC 1 (some ⟨h4, 0, none⟩) 256 256)) (w_none rfl) rfl rfl rfl rfl rfl rfl tu29 ts58 ty58 rfl (by simp [agg_cells, outC]) (by simp [agg_cells]) H ?_)
              clear H; intro h6 W H
              refine ⟨_, fun _ h => h, H.sub (by repeat (first | exact .refl _ | refine .cons _ ?_)), ?_⟩
              refine t_eff rfl (e_bsl (xs := [.tmp 117]) (vals := [.agg (inC zPt none 0 0).toArray]) (vs := (inC zPt none 0 0)) (w_none rfl) rfl rfl rfl rfl rfl rfl tu28 ts56 ty56 rfl (by simp [agg_cells, len_in (p := zPt) rfl]) (by simp [agg_cells]) H ?_)
              clear H; intro h5 W H
              refine ⟨_, fun _ h => h, H.sub (by repeat (first | exact .refl _ | refine .cons _ ?_)), ?_⟩
              refine t_run rfl (w_none rfl) rfl (fun W H => b_tx rfl rfl rfl) ?_
              refine t_run rfl (w_none rfl) rfl (fun W H => b_long rfl rfl) ?_
              refine t_eff rfl (e_stoK (recC Rc.long (txC (some ⟨h5, 0, none⟩) 1 1 (some ⟨h6, 0, none⟩) 2 2 0)) (w_none rfl) rfl rfl rfl rfl rfl ts33 (len_rec rfl rfl rfl) (rec_one rfl) H (by rw [len_rec rfl rfl rfl]; decide) (spl_all ((len_rec rfl rfl rfl).trans (len_rec rfl rfl rfl).symm)) ?_)
              clear H; intro W H
              refine ⟨_, fun _ h => h, H.sub (by repeat (first | exact .refl _ | refine .cons _ ?_)), ?_⟩
              refine t_nil ?_
              refine k_nil ?_
              refine n_then ?_
              refine ⟨_, _, rfl, ?_, ?_, ⟨g10, h3, h4, h5, h6, rfl, H.perm (by repeat (first | exact .refl _ | refine .cons _ ?_ | refine .trans (.cons _ ?_) (List.perm_middle (l₁ := [_])).symm | refine .trans (.cons _ ?_) (List.perm_middle (l₁ := [_, _])).symm | refine .trans (.cons _ ?_) (List.perm_middle (l₁ := [_, _, _])).symm | refine .trans (.cons _ ?_) (List.perm_middle (l₁ := [_, _, _, _])).symm | refine .trans (.cons _ ?_) (List.perm_middle (l₁ := [_, _, _, _, _])).symm | refine .trans (.cons _ ?_) (List.perm_middle (l₁ := [_, _, _, _, _, _])).symm | refine .trans (.cons _ ?_) (List.perm_middle (l₁ := [_, _, _, _, _, _, _])).symm))⟩⟩
              · repeat (first | (with_reducible exact Eqo.refl) | ((with_reducible refine Eqo.updl _ (Eqo.ovr2 ?_ ?_) ?_); rotate_left; exact rfl; exact rfl) | ((with_reducible refine Eqo.upd ?_ ?_); rotate_left; exact rfl))
              · refine ⟨?_, trivial⟩
                · exact rfl
            refine t_each ?_ ?_
            · skip
              refine t_eff rfl (e_bsl (xs := [.tmp 117]) (vals := [.agg (inC zPt none 0 0).toArray]) (vs := (inC zPt none 0 0)) (w_none rfl) rfl rfl rfl rfl rfl rfl tu28 ts56 ty56 rfl (by simp [agg_cells, len_in (p := zPt) rfl]) (by simp [agg_cells]) H ?_)
              clear H; intro h5 W H
              refine ⟨_, fun _ h => h, H.sub (by repeat (first | exact .refl _ | refine .cons _ ?_)), ?_⟩
              refine t_eff rfl (e_bsl (xs := [.tmp 113, .tmp 115]) (vals := [.agg (outC 1 (some ⟨h3, 0, none⟩) 256 256).toArray, .agg (outC 1 (some ⟨h4, 0, none⟩) 256 256).toArray]) (vs := (outC 1 (some ⟨h3, 0, none⟩) 256 256 ++ outC 1 (some ⟨h4, 0, none⟩) 256 256)) (w_none rfl) rfl rfl rfl rfl rfl rfl tu29 ts58 ty58 rfl (by simp [agg_cells, outC]) (by simp [agg_cells]) H ?_)
              clear H; intro h6 W H
              refine ⟨_, fun _ h => h, H.sub (by repeat (first | exact .refl _ | refine .cons _ ?_)), ?_⟩
              refine t_run rfl (w_none rfl) rfl (fun W H => b_tx rfl rfl rfl) ?_
              refine t_run rfl (w_none rfl) rfl (fun W H => b_long rfl rfl) ?_
              refine t_eff rfl (e_stoK (recC Rc.long (txC (some ⟨h5, 0, none⟩) 1 1 (some ⟨h6, 0, none⟩) 2 2 0)) (w_none rfl) rfl rfl rfl rfl rfl ts33 (len_rec rfl rfl rfl) (rec_one rfl) H (by rw [len_rec rfl rfl rfl]; decide) (spl_all ((len_rec rfl rfl rfl).trans (len_rec rfl rfl rfl).symm)) ?_)
              clear H; intro W H
              refine ⟨_, fun _ h => h, H.sub (by repeat (first | exact .refl _ | refine .cons _ ?_)), ?_⟩
              refine t_nil ?_
              refine k_nil ?_
              refine n_then ?_
              refine ⟨_, _, rfl, ?_, ?_, ⟨g10, h3, h4, h5, h6, rfl, H.perm (by repeat (first | exact .refl _ | refine .cons _ ?_ | refine .trans (.cons _ ?_) (List.perm_middle (l₁ := [_])).symm | refine .trans (.cons _ ?_) (List.perm_middle (l₁ := [_, _])).symm | refine .trans (.cons _ ?_) (List.perm_middle (l₁ := [_, _, _])).symm | refine .trans (.cons _ ?_) (List.perm_middle (l₁ := [_, _, _, _])).symm | refine .trans (.cons _ ?_) (List.perm_middle (l₁ := [_, _, _, _, _])).symm | refine .trans (.cons _ ?_) (List.perm_middle (l₁ := [_, _, _, _, _, _])).symm | refine .trans (.cons _ ?_) (List.perm_middle (l₁ := [_, _, _, _, _, _, _])).symm))⟩⟩
              · repeat (first | (with_reducible exact Eqo.refl) | ((with_reducible refine Eqo.updl _ (Eqo.ovr2 ?_ ?_) ?_); rotate_left; exact rfl; exact rfl) | ((with_reducible refine Eqo.upd ?_ ?_); rotate_left; exact rfl))
              · refine ⟨?_, trivial⟩
                · exact rfl
            exact t_none
          refine t_each ?_ ?_
          · skip
            refine t_eff rfl (e_bsl (xs := [.tmp 117]) (vals := [.agg (inC zPt none 0 0).toArray]) (vs := (inC zPt none 0 0)) (w_none rfl) rfl rfl rfl rfl rfl rfl tu28 ts56 ty56 rfl (by simp [agg_cells, len_in (p := zPt) rfl]) (by simp [agg_cells]) H ?_)
            clear H; intro h5 W H
            refine ⟨_, fun _ h => h, H.sub (by repeat (first | exact .refl _ | refine .cons _ ?_)), ?_⟩
            refine t_eff rfl (e_mks (w_none rfl) rfl rfl rfl rfl (m := 256) rfl (by omega) tu34 tz5 tx5 H ?_)
            clear H; intro h3 W H
            refine ⟨_, fun _ h => h, H.sub (by repeat (first | exact .refl _ | refine .cons _ ?_)), ?_⟩
            refine t_run rfl (w_none rfl) rfl (fun W H => b_out rfl rfl) ?_
            refine t_eff rfl (e_bsl (xs := [.tmp 113, .tmp 115]) (vals := [.agg (outC 1 (some ⟨h3, 0, none⟩) 256 256).toArray, .agg (outC 1 (some ⟨h4, 0, none⟩) 256 256).toArray]) (vs := (outC 1 (some ⟨h3, 0, none⟩) 256 256 ++ outC 1 (some ⟨h4, 0, none⟩) 256 256)) (w_none rfl) rfl rfl rfl rfl rfl rfl tu29 ts58 ty58 rfl (by simp [agg_cells, outC]) (by simp [agg_cells]) H ?_)
            clear H; intro h6 W H
            refine ⟨_, fun _ h => h, H.sub (by repeat (first | exact .refl _ | refine .cons _ ?_)), ?_⟩
            refine t_run rfl (w_none rfl) rfl (fun W H => b_tx rfl rfl rfl) ?_
            refine t_run rfl (w_none rfl) rfl (fun W H => b_long rfl rfl) ?_
            refine t_eff rfl (e_stoK (recC Rc.long (txC (some ⟨h5, 0, none⟩) 1 1 (some ⟨h6, 0, none⟩) 2 2 0)) (w_none rfl) rfl rfl rfl rfl rfl ts33 (len_rec rfl rfl rfl) (rec_one rfl) H (by rw [len_rec rfl rfl rfl]; decide) (spl_all ((len_rec rfl rfl rfl).trans (len_rec rfl rfl rfl).symm)) ?_)
            clear H; intro W H
            refine ⟨_, fun _ h => h, H.sub (by repeat (first | exact .refl _ | refine .cons _ ?_)), ?_⟩
            refine t_nil ?_
            refine k_nil ?_
            refine n_then ?_
            refine ⟨_, _, rfl, ?_, ?_, ⟨g10, h3, h4, h5, h6, rfl, H.perm (by repeat (first | exact .refl _ | refine .cons _ ?_ | refine .trans (.cons _ ?_) (List.perm_middle (l₁ := [_])).symm | refine .trans (.cons _ ?_) (List.perm_middle (l₁ := [_, _])).symm | refine .trans (.cons _ ?_) (List.perm_middle (l₁ := [_, _, _])).symm | refine .trans (.cons _ ?_) (List.perm_middle (l₁ := [_, _, _, _])).symm | refine .trans (.cons _ ?_) (List.perm_middle (l₁ := [_, _, _, _, _])).symm | refine .trans (.cons _ ?_) (List.perm_middle (l₁ := [_, _, _, _, _, _])).symm | refine .trans (.cons _ ?_) (List.perm_middle (l₁ := [_, _, _, _, _, _, _])).symm))⟩⟩
            · repeat (first | (with_reducible exact Eqo.refl) | ((with_reducible refine Eqo.updl _ (Eqo.ovr2 ?_ ?_) ?_); rotate_left; exact rfl; exact rfl) | ((with_reducible refine Eqo.upd ?_ ?_); rotate_left; exact rfl))
            · refine ⟨?_, trivial⟩
              · exact rfl
          exact t_none
        refine t_each ?_ ?_
        · skip
          refine t_eff rfl (e_bsl (xs := [.tmp 117]) (vals := [.agg (inC zPt none 0 0).toArray]) (vs := (inC zPt none 0 0)) (w_none rfl) rfl rfl rfl rfl rfl rfl tu28 ts56 ty56 rfl (by simp [agg_cells, len_in (p := zPt) rfl]) (by simp [agg_cells]) H ?_)
          clear H; intro h5 W H
          refine ⟨_, fun _ h => h, H.sub (by repeat (first | exact .refl _ | refine .cons _ ?_)), ?_⟩
          refine t_each ?_ ?_
          · skip
            refine t_eff rfl (e_mks (w_none rfl) rfl rfl rfl rfl (m := 256) rfl (by omega) tu34 tz5 tx5 H ?_)
            clear H; intro h3 W H
            refine ⟨_, fun _ h => h, H.sub (by repeat (first | exact .refl _ | refine .cons _ ?_)), ?_⟩
            refine t_run rfl (w_none rfl) rfl (fun W H => b_out rfl rfl) ?_
            refine t_eff rfl (e_mks (w_none rfl) rfl rfl rfl rfl (m := 256) rfl (by omega) tu34 tz5 tx5 H ?_)
            clear H; intro h4 W H
            refine ⟨_, fun _ h => h, H.sub (by repeat (first | exact .refl _ | refine .cons _ ?_)), ?_⟩
            refine t_run rfl (w_none rfl) rfl (fun W H => b_out rfl rfl) ?_
            refine t_eff rfl (e_bsl (xs := [.tmp 113, .tmp 115]) (vals := [.agg (outC 1 (some ⟨h3, 0, none⟩) 256 256).toArray, .agg (outC 1 (some ⟨h4, 0, none⟩) 256 256).toArray]) (vs := (outC 1 (some ⟨h3, 0, none⟩) 256 256 ++ outC 1 (some ⟨h4, 0, none⟩) 256 256)) (w_none rfl) rfl rfl rfl rfl rfl rfl tu29 ts58 ty58 rfl (by simp [agg_cells, outC]) (by simp [agg_cells]) H ?_)
            clear H; intro h6 W H
            refine ⟨_, fun _ h => h, H.sub (by repeat (first | exact .refl _ | refine .cons _ ?_)), ?_⟩
            refine t_run rfl (w_none rfl) rfl (fun W H => b_tx rfl rfl rfl) ?_
            refine t_run rfl (w_none rfl) rfl (fun W H => b_long rfl rfl) ?_
            refine t_eff rfl (e_stoK (recC Rc.long (txC (some ⟨h5, 0, none⟩) 1 1 (some ⟨h6, 0, none⟩) 2 2 0)) (w_none rfl) rfl rfl rfl rfl rfl ts33 (len_rec rfl rfl rfl) (rec_one rfl) H (by rw [len_rec rfl rfl rfl]; decide) (spl_all ((len_rec rfl rfl rfl).trans (len_rec rfl rfl rfl).symm)) ?_)
            clear H; intro W H
            refine ⟨_, fun _ h => h, H.sub (by repeat (first | exact .refl _ | refine .cons _ ?_)), ?_⟩
            refine t_nil ?_
            refine k_nil ?_
            refine n_then ?_
            refine ⟨_, _, rfl, ?_, ?_, ⟨g10, h3, h4, h5, h6, rfl, H.perm (by repeat (first | exact .refl _ | refine .cons _ ?_ | refine .trans (.cons _ ?_) (List.perm_middle (l₁ := [_])).symm | refine .trans (.cons _ ?_) (List.perm_middle (l₁ := [_, _])).symm | refine .trans (.cons _ ?_) (List.perm_middle (l₁ := [_, _, _])).symm | refine .trans (.cons _ ?_) (List.perm_middle (l₁ := [_, _, _, _])).symm | refine .trans (.cons _ ?_) (List.perm_middle (l₁ := [_, _, _, _, _])).symm | refine .trans (.cons _ ?_) (List.perm_middle (l₁ := [_, _, _, _, _, _])).symm | refine .trans (.cons _ ?_) (List.perm_middle (l₁ := [_, _, _, _, _, _, _])).symm))⟩⟩
            · repeat (first | (with_reducible exact Eqo.refl) | ((with_reducible refine Eqo.updl _ (Eqo.ovr2 ?_ ?_) ?_); rotate_left; exact rfl; exact rfl) | ((with_reducible refine Eqo.upd ?_ ?_); rotate_left; exact rfl))
            · refine ⟨?_, trivial⟩
              · exact rfl
          refine t_each ?_ ?_
          · skip
            refine t_eff rfl (e_mks (w_none rfl) rfl rfl rfl rfl (m := 256) rfl (by omega) tu34 tz5 tx5 H ?_)
            clear H; intro h4 W H
            refine ⟨_, fun _ h => h, H.sub (by repeat (first | exact .refl _ | refine .cons _ ?_)), ?_⟩
            refine t_run rfl (w_none rfl) rfl (fun W H => b_out rfl rfl) ?_
            refine t_eff rfl (e_mks (w_none rfl) rfl rfl rfl rfl (m := 256) rfl (by omega) tu34 tz5 tx5 H ?_)
            clear H; intro h3 W H
            refine ⟨_, fun _ h => h, H.sub (by repeat (first | exact .refl _ | refine .cons _ ?_)), ?_⟩
            refine t_run rfl (w_none rfl) rfl (fun W H => b_out rfl rfl) ?_
            refine t_eff rfl (e_bsl (xs := [.tmp 113, .tmp 115]) (vals := [.agg (outC 1 (some ⟨h3, 0, none⟩) 256 256).toArray, .agg (outC 1 (some ⟨h4, 0, none⟩) 256 256).toArray]) (vs := (outC 1 (some ⟨h3, 0, none⟩) 256 256 ++ outC 1 (some ⟨h4, 0, none⟩) 256 256)) (w_none rfl) rfl rfl rfl rfl rfl rfl tu29 ts58 ty58 rfl (by simp [agg_cells, outC]) (by simp [agg_cells]) H ?_)
            clear H; intro h6 W H
            refine ⟨_, fun _ h => h, H.sub (by repeat (first | exact .refl _ | refine .cons _ ?_)), ?_⟩
            refine t_run rfl (w_none rfl) rfl (fun W H => b_tx rfl rfl rfl) ?_
            refine t_run rfl (w_none rfl) rfl (fun W H => b_long rfl rfl) ?_
            refine t_eff rfl (e_stoK (recC Rc.long (txC (some ⟨h5, 0, none⟩) 1 1 (some ⟨h6, 0, none⟩) 2 2 0)) (w_none rfl) rfl rfl rfl rfl rfl ts33 (len_rec rfl rfl rfl) (rec_one rfl) H (by rw [len_rec rfl rfl rfl]; decide) (spl_all ((len_rec rfl rfl rfl).trans (len_rec rfl rfl rfl).symm)) ?_)
            clear H; intro W H
            refine ⟨_, fun _ h => h, H.sub (by repeat (first | exact .refl _ | refine .cons _ ?_)), ?_⟩
            refine t_nil ?_
            refine k_nil ?_
            refine n_then ?_
            refine ⟨_, _, rfl, ?_, ?_, ⟨g10, h3, h4, h5, h6, rfl, H.perm (by repeat (first | exact .refl _ | refine .cons _ ?_ | refine .trans (.cons _ ?_) (List.perm_middle (l₁ := [_])).symm | refine .trans (.cons _ ?_) (List.perm_middle (l₁ := [_, _])).symm | refine .trans (.cons _ ?_) (List.perm_middle (l₁ := [_, _, _])).symm | refine .trans (.cons _ ?_) (List.perm_middle (l₁ := [_, _, _, _])).symm | refine .trans (.cons _ ?_) (List.perm_middle (l₁ := [_, _, _, _, _])).symm | refine .trans (.cons _ ?_) (List.perm_middle (l₁ := [_, _, _, _, _, _])).symm | refine .trans (.cons _ ?_) (List.perm_middle (l₁ := [_, _, _, _, _, _, _])).symm))⟩⟩
            · repeat (first | (with_reducible exact Eqo.refl) | ((with_reducible refine Eqo.updl _ (Eqo.ovr2 ?_ ?_) ?_); rotate_left; exact rfl; exact rfl) | ((with_reducible refine Eqo.upd ?_ ?_); rotate_left; exact rfl))
            · refine ⟨?_, trivial⟩
              · exact rfl
          exact t_none
        exact t_none
      exact t_none
    clear H; obtain ⟨g10, h3, h4, h5, h6, rfl, H⟩ := hJ
    refine k_seq ?_
    refine k_region ?_
    refine s_run (w_none rfl) rfl (d_ldXM (g := g10) (off := 0) rfl H (sub_all (len_rec rfl rfl rfl)) (len_rec rfl rfl rfl) rfl rfl rfl ta33 ts33) ?_
    refine s_eff (e_call (w_none rfl) rfl rfl Tryd.func8 rfl rfl rfl (putRT (r := Rc.long) (ct := (txC (some ⟨h5, 0, none⟩) 1 1 (some ⟨h6, 0, none⟩) 2 2 0)) _ Rc.ok_long (rtx_long (H.blk (g := h5)) (H.blk (g := h6)) (H.blk (g := h3)) (H.blk (g := h4))) (H.gat hG)) ?_)
    rintro _ W ⟨_, rfl, A2, c2, rfl, hc2, hd2, hn⟩
    replace H := H.new hn
    clear hn
    refine s_run (w_none rfl) rfl (mv_t rfl rfl) ?_
    refine s_run (w_none rfl) rfl (d_ext rfl rfl rfl) ?_
    refine s_run (w_none rfl) rfl (d_ext rfl rfl rfl) ?_
    refine s_run (w_none rfl) rfl (as_s rfl rfl) ?_
    refine s_run (w_none rfl) rfl (as_i rfl rfl) ?_
    refine l_nil ?_
    refine k_seq ?_
    refine k_region ?_
    refine s_run (w_none rfl) rfl (d_build (vs := txC none 0 0 none 0 0 5) rfl (built_fields (places := [(0, 1), (1, 1), (2, 1)]) tz31 (by kernel_rfl) (by kernel_rfl) (fill_skip 2 (fill_next (vs := [.int .i64 5]) (.int .i64 5) rfl (by rfl) rfl rfl (Nat.le_of_ble_eq_true rfl) (fill_end (by rfl)))))) ?_
    refine s_run (w_none rfl) rfl (d_build (vs := recC Rc.bad (txC none 0 0 none 0 0 5)) rfl (built_fields (places := [(0, 1), (1, 1), (2, 41), (43, 32), (75, 1), (76, 1), (77, 3)]) tz33 (by kernel_rfl) (by kernel_rfl) (fill_next (vs := [.int .i64 3]) (.int .i64 3) rfl rfl rfl rfl (Nat.le_of_ble_eq_true rfl) (fill_next (vs := [.int .i64 1]) (.int .i64 1) rfl (by rfl) rfl rfl (Nat.le_of_ble_eq_true rfl) (fill_skip 73 (fill_next (vs := [.int .i64 1]) (.int .i64 1) rfl (by rfl) rfl rfl (Nat.le_of_ble_eq_true rfl) (fill_skip 1 (fill_next (vs := txC none 0 0 none 0 0 5) (.agg (txC none 0 0 none 0 0 5).toArray) rfl (by rfl) rfl rfl (Nat.le_of_ble_eq_true rfl) (fill_end (by rfl)))))))))) ?_
    refine s_eff (e_alloc (w_none rfl) rfl rfl (recC Rc.zero zt) tz33 H ?_)
    clear H; intro g11 W H
    refine s_eff (e_stoK (recC Rc.bad (txC none 0 0 none 0 0 5)) (w_none rfl) rfl rfl rfl rfl rfl ts33 (len_rec rfl rfl rfl) (rec_one rfl) H (by rw [len_rec rfl rfl rfl]; decide) (spl_all ((len_rec rfl rfl rfl).trans (len_rec rfl rfl rfl).symm)) ?_)
    clear H; intro W H
    refine l_nil ?_
    refine k_seq ?_
    refine k_region ?_
    refine s_eff (e_bsl (xs := [.const (.int .u8 5), .const (.int .u8 7), .const (.int .u8 2)]) (vals := [.int .u8 _, .int .u8 _, .int .u8 _]) (vs := [.int .u8 _, .int .u8 _, .int .u8 _]) (w_none rfl) rfl rfl rfl rfl rfl rfl tu34 ts5 ty5 rfl rfl rfl H ?_)
    clear H; intro g12 W H
    refine s_eff (e_call (w_none rfl) rfl rfl Tryd.func9 rfl rfl rfl (getRT _ (Bs.mk (S := (· = g12)) (l := [5, 7, 2]) (rd_blk (H.blk (g := g12)) rfl) (by decide) (by decide)) (by decide) (H.gat hG)) ?_)
    rintro _ W hs_
    obtain ⟨Sg3, Ag3, cg3, Bg3, dg3, rfl, H1_⟩ := GotRec.rep hs_ H
    clear H hs_
    have H := H1_
    clear H1_
    refine s_run (w_none rfl) rfl (mv_t rfl rfl) ?_
    refine s_run (w_none rfl) rfl (d_ext rfl rfl rfl) ?_
    refine s_run (w_none rfl) rfl (d_ext rfl rfl rfl) ?_
    refine s_eff (e_alloc (w_none rfl) rfl rfl (recC Rc.zero zt) tz33 H ?_)
    clear H; intro g13 W H
    refine s_eff (e_stoK (recC (Rc.get [5, 7, 2]).1 (txC Ag3 (Rc.get [5, 7, 2]).1.tx.ins.length cg3 Bg3 (Rc.get [5, 7, 2]).1.tx.outs.length dg3 (Rc.get [5, 7, 2]).1.tx.lock)) (w_none rfl) rfl rfl rfl rfl rfl ts33 (len_rec' Rc.ok_get rfl) (rec_one rfl) H (by rw [len_rec rfl rfl rfl]; decide) (spl_all ((len_rec' Rc.ok_get rfl).trans (len_rec rfl rfl rfl).symm)) ?_)
    clear H; intro W H
    refine s_run (w_none rfl) rfl (as_i rfl rfl) ?_
    refine l_nil ?_
    refine k_seq ?_
    refine k_region ?_
    refine s_eff (e_bsl (xs := [.const (.int .u8 4), .const (.int .u8 7), .const (.int .u8 7)]) (vals := [.int .u8 _, .int .u8 _, .int .u8 _]) (vs := [.int .u8 _, .int .u8 _, .int .u8 _]) (w_none rfl) rfl rfl rfl rfl rfl rfl tu34 ts5 ty5 rfl rfl rfl H ?_)
    clear H; intro g14 W H
    refine s_eff (e_call (w_none rfl) rfl rfl Tryd.func9 rfl rfl rfl (getRT _ (Bs.mk (S := (· = g14)) (l := [4, 7, 7]) (rd_blk (H.blk (g := g14)) rfl) (by decide) (by decide)) (by decide) (H.gat hG)) ?_)
    rintro _ W hs_
    obtain ⟨Sg4, Ag4, cg4, Bg4, dg4, rfl, H1_⟩ := GotRec.rep hs_ H
    clear H hs_
    have H := H1_
    clear H1_
    refine s_run (w_none rfl) rfl (mv_t rfl rfl) ?_
    refine s_run (w_none rfl) rfl (d_ext rfl rfl rfl) ?_
    refine s_run (w_none rfl) rfl (d_ext rfl rfl rfl) ?_
    refine s_eff (e_alloc (w_none rfl) rfl rfl (recC Rc.zero zt) tz33 H ?_)
    clear H; intro g15 W H
    refine s_eff (e_stoK (recC (Rc.get [4, 7, 7]).1 (txC Ag4 (Rc.get [4, 7, 7]).1.tx.ins.length cg4 Bg4 (Rc.get [4, 7, 7]).1.tx.outs.length dg4 (Rc.get [4, 7, 7]).1.tx.lock)) (w_none rfl) rfl rfl rfl rfl rfl ts33 (len_rec' Rc.ok_get rfl) (rec_one rfl) H (by rw [len_rec rfl rfl rfl]; decide) (spl_all ((len_rec' Rc.ok_get rfl).trans (len_rec rfl rfl rfl).symm)) ?_)
    clear H; intro W H
    refine s_run (w_none rfl) rfl (as_i rfl rfl) ?_
    refine l_nil ?_
    refine k_seq ?_
    refine k_region ?_
    refine s_eff (e_call (w_none rfl) rfl rfl Tryd.func9 rfl rfl rfl (getRT (b := []) _ (Bs.nil (S := nT)) (by decide) (H.gat hG)) ?_)
    rintro _ W hs_
    obtain ⟨Sg5, Ag5, cg5, Bg5, dg5, rfl, H1_⟩ := GotRec.rep hs_ H
    clear H hs_
    have H := H1_
    clear H1_
    refine s_run (w_none rfl) rfl (mv_t rfl rfl) ?_
    refine s_run (w_none rfl) rfl (d_ext rfl rfl rfl) ?_
    refine s_run (w_none rfl) rfl (d_ext rfl rfl rfl) ?_
    refine s_eff (e_alloc (w_none rfl) rfl rfl (recC Rc.zero zt) tz33 H ?_)
    clear H; intro g16 W H
    refine s_eff (e_stoK (recC (Rc.get []).1 (txC Ag5 (Rc.get []).1.tx.ins.length cg5 Bg5 (Rc.get []).1.tx.outs.length dg5 (Rc.get []).1.tx.lock)) (w_none rfl) rfl rfl rfl rfl rfl ts33 (len_rec' Rc.ok_get rfl) (rec_one rfl) H (by rw [len_rec rfl rfl rfl]; decide) (spl_all ((len_rec' Rc.ok_get rfl).trans (len_rec rfl rfl rfl).symm)) ?_)
    clear H; intro W H
    refine s_run (w_none rfl) rfl (as_i rfl rfl) ?_
    refine l_nil ?_
    refine k_seq ?_
    refine k_region ?_
    refine s_run (w_none rfl) rfl (mv_i rfl rfl) ?_
    refine s_run (w_none rfl) rfl (d_eq rfl rfl rfl) ?_
    refine s_run (w_none rfl) rfl (mv_bx (c := true) rfl rfl (by rw [Rc.law_put]; rfl)) ?_
    refine s_run (w_g rfl rfl rfl rfl) rfl (mv_s rfl rfl) ?_
    refine s_eff (e_bsl (xs := [.const (.int .u8 3), .const (.int .u8 7), .const (.int .u8 3), .const (.int .u8 0)]) (vals := [.int .u8 _, .int .u8 _, .int .u8 _, .int .u8 _]) (vs := [.int .u8 _, .int .u8 _, .int .u8 _, .int .u8 _]) (w_g rfl rfl rfl rfl) rfl rfl rfl rfl rfl rfl tu34 ts5 ty5 rfl rfl rfl H ?_)
    clear H; intro g17 W H
    refine s_eff (e_call (w_g rfl rfl rfl rfl) rfl rfl Tryd.func13 rfl rfl rfl (sameBytes _ _ (Rc.put (Rc.allR 2)).1 [3, 7, 3, 0] _ (H.rowbs (A := A1) rfl) (Bs.mk (S := (· = g17)) (l := [3, 7, 3, 0]) (rd_blk (H.blk (g := g17)) rfl) (by decide) (by decide))) ?_)
    rintro _ W ⟨rfl, hb⟩
    replace H := H.below hb
    clear hb
    refine s_run (w_none rfl) rfl (d_pickT rfl rfl rfl) ?_
    refine s_run (w_none rfl) rfl (mv_bx (c := true) rfl rfl (by rw [Rc.law_put]; rfl)) ?_
    refine s_run (w_g rfl rfl rfl rfl) rfl (d_ldXM (g := g9) (off := 0) rfl H (sub_all Rc.len_ids) Rc.len_ids rfl rfl rfl ta33 ts33) ?_
    refine s_eff (e_call (w_g rfl rfl rfl rfl) rfl rfl Tryd.func12 rfl rfl rfl (checkRT (r := Rc.setId (Rc.allR 0) 8) (ct := zt) (S := nT) _ (Rc.ok_id Rc.ok_alls (Rc.i64s _ (by decide))) (tx_zero Rc.alls_t)) ?_)
    rintro _ W ⟨rfl, hb⟩
    replace H := H.below hb
    clear hb
    refine s_run (w_g rfl rfl rfl rfl) rfl (d_eq rfl rfl rfl) ?_
    refine s_run (w_none rfl) rfl (d_pickT rfl rfl rfl) ?_
    refine s_run (w_none rfl) rfl (mv_bx (c := true) rfl rfl (by rw [Rc.law_other]; rfl)) ?_
    refine s_run (w_g rfl rfl rfl rfl) rfl (mv_i rfl rfl) ?_
    refine s_run (w_g rfl rfl rfl rfl) rfl (d_eq rfl rfl rfl) ?_
    refine s_run (w_none rfl) rfl (d_pickT rfl rfl rfl) ?_
    refine s_run (w_none rfl) rfl (mv_bx (c := true) rfl rfl (by rw [Rc.law_long]; rfl)) ?_
    refine s_run (w_g rfl rfl rfl rfl) rfl (d_ldXM (g := g11) (off := 0) rfl H (sub_all (len_rec rfl rfl rfl)) (len_rec rfl rfl rfl) rfl rfl rfl ta33 ts33) ?_
    refine s_eff (e_call (w_g rfl rfl rfl rfl) rfl rfl Tryd.func12 rfl rfl rfl (checkRT (r := Rc.bad) (S := nT) _ Rc.ok_bad (tx_rep (l := []) (r := []) rl_nil rl_nil ⟨by decide, by decide⟩)) ?_)
    rintro _ W ⟨rfl, hb⟩
    replace H := H.below hb
    clear hb
    refine s_run (w_g rfl rfl rfl rfl) rfl (d_eq rfl rfl rfl) ?_
    refine s_run (w_none rfl) rfl (d_pickT rfl rfl rfl) ?_
    refine s_run (w_none rfl) rfl (mv_bx (c := true) rfl rfl (by rw [Rc.law_bad]; rfl)) ?_
    refine s_run (w_g rfl rfl rfl rfl) rfl (d_build (vs := recC Rc.st7 zt) rfl (built_fields (places := [(0, 1), (1, 1), (2, 41), (43, 32), (75, 1), (76, 1), (77, 3)]) tz33 (by kernel_rfl) (by kernel_rfl) (fill_next (vs := [.int .i64 4]) (.int .i64 4) rfl rfl rfl rfl (Nat.le_of_ble_eq_true rfl) (fill_next (vs := [.int .i64 7]) (.int .i64 7) rfl (by rfl) rfl rfl (Nat.le_of_ble_eq_true rfl) (fill_skip 74 (fill_next (vs := [.int .i64 7]) (.int .i64 7) rfl (by rfl) rfl rfl (Nat.le_of_ble_eq_true rfl) (fill_end (by rfl)))))))) ?_
    refine s_eff (e_call (w_g rfl rfl rfl rfl) rfl rfl Tryd.func12 rfl rfl rfl (checkRT (r := Rc.st7) (ct := zt) (S := nT) _ Rc.ok_st7 (tx_zero rfl)) ?_)
    rintro _ W ⟨rfl, hb⟩
    replace H := H.below hb
    clear hb
    refine s_run (w_g rfl rfl rfl rfl) rfl (d_eq rfl rfl rfl) ?_
    refine s_run (w_none rfl) rfl (d_pickT rfl rfl rfl) ?_
    refine s_run (w_none rfl) rfl (mv_bx (c := true) rfl rfl (by rw [Rc.law_st7]; rfl)) ?_
    refine s_run (w_g rfl rfl rfl rfl) rfl (d_build (vs := recC Rc.mv4 zt) rfl (built_fields (places := [(0, 1), (1, 1), (2, 41), (43, 32), (75, 1), (76, 1), (77, 3)]) tz33 (by kernel_rfl) (by kernel_rfl) (fill_next (vs := [.int .i64 3]) (.int .i64 3) rfl rfl rfl rfl (Nat.le_of_ble_eq_true rfl) (fill_next (vs := [.int .i64 7]) (.int .i64 7) rfl (by rfl) rfl rfl (Nat.le_of_ble_eq_true rfl) (fill_skip 73 (fill_next (vs := [.int .i64 4]) (.int .i64 4) rfl (by rfl) rfl rfl (Nat.le_of_ble_eq_true rfl) (fill_end (by rfl)))))))) ?_
    refine s_eff (e_call (w_g rfl rfl rfl rfl) rfl rfl Tryd.func12 rfl rfl rfl (checkRT (r := Rc.mv4) (ct := zt) (S := nT) _ Rc.ok_mv4 (tx_zero rfl)) ?_)
    rintro _ W ⟨rfl, hb⟩
    replace H := H.below hb
    clear hb
    refine s_run (w_g rfl rfl rfl rfl) rfl (d_eq rfl rfl rfl) ?_
    refine s_run (w_none rfl) rfl (d_pickT rfl rfl rfl) ?_
    refine s_run (w_none rfl) rfl (mv_bx (c := true) rfl rfl (by rw [Rc.law_mv4]; rfl)) ?_
    refine s_run (w_g rfl rfl rfl rfl) rfl (mv_i rfl rfl) ?_
    refine s_run (w_g rfl rfl rfl rfl) rfl (d_eq rfl rfl rfl) ?_
    refine s_run (w_none rfl) rfl (d_pickT rfl rfl rfl) ?_
    refine s_run (w_none rfl) rfl (mv_bx (c := true) rfl rfl (by rw [Rc.law_g1]; rfl)) ?_
    refine s_run (w_g rfl rfl rfl rfl) rfl (mv_i rfl rfl) ?_
    refine s_run (w_g rfl rfl rfl rfl) rfl (d_eq rfl rfl rfl) ?_
    refine s_run (w_none rfl) rfl (d_pickT rfl rfl rfl) ?_
    refine s_run (w_none rfl) rfl (mv_bx (c := true) rfl rfl (by rw [Rc.law_g2]; rfl)) ?_
    refine s_run (w_g rfl rfl rfl rfl) rfl (mv_i rfl rfl) ?_
    refine s_run (w_g rfl rfl rfl rfl) rfl (d_eq rfl rfl rfl) ?_
    refine s_run (w_none rfl) rfl (d_pickT rfl rfl rfl) ?_
    refine s_run (w_none rfl) rfl (mv_bx (c := true) rfl rfl (by rw [Rc.law_g3]; rfl)) ?_
    refine s_eff (e_call (w_g rfl rfl rfl rfl) rfl rfl Tryd.func7 rfl rfl rfl (knownT _ (H.gat hG)) ?_)
    rintro _ W ⟨rfl, hb⟩
    replace H := H.below hb
    clear hb
    refine s_run (w_none rfl) rfl (d_pickT rfl rfl rfl) ?_
    refine s_run (w_none rfl) rfl (as_b rfl rfl) ?_
    refine l_nil ?_
    refine k_ret ?_
    repeat (first | refine r_then ?_ | refine r_blk ?_)
    exact q_ret (v := .bool _) rfl rfl ⟨_, rfl, rfl, H.under⟩
end Go.Proofs.YtfjhmecmhchbdaaDoor

namespace Go.Proofs.YtfjhmecmhchbdaaDoor
open Go Go.RowKit

theorem recordKnown_any (w : World) (hG : Gat w 0 formsC) :
    Calls Tryd.prog 5 #[] w (fun e w' => e = .returned (.bool true) ∧ Below w.heap.size w w') := Calls.mono (recordKnown w hG) (fun e w' h => by
    obtain ⟨v, rfl, rfl, hb⟩ := h
    exact ⟨rfl, hb⟩)
end Go.Proofs.YtfjhmecmhchbdaaDoor
