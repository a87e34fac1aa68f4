/- Texts of this claim, laid together: OpF, K88, K89. -/
import Derived.Test.YtobcihaameofhaaDoorMX
import Derived.Test.YtobcihaameofhaaDoorMV
import Derived.Test.YtobcihaameofhaaDoorMBK
import Derived.Test.YtobcihaameofhaaDoorMZ
set_option linter.unusedVariables false
set_option linter.unusedSimpArgs false

namespace Go.Proofs.YtobcihaameofhaaDoor
open Go Go.RowKit
attribute [local irreducible] wpList
def beqHeader (x y : DHeader) : Bool := ((x.prev == y.prev) && ((x.root == y.root) && ((x.nonce == y.nonce) && true)))
theorem beqHeader_iff {x y : DHeader} : beqHeader x y = true ↔ x = y := by
  cases x; cases y
  simp [beqHeader]
theorem eq_Header {d : Nat} {W W' : World} {S S' : Nat → Prop} {cx cy : List Value} {x y : DHeader} (hx : RHeader W S cx x) (hy : RHeader W' S' cy y) : EqT Tryd.prog (d + 3) 25 (.agg cx.toArray) (.agg cy.toArray) (beqHeader x y) := by
  obtain ⟨c0, c1, c2, rfl, e0, e1, e2⟩ := hx
  obtain ⟨b0, b1, b2, rfl, q0, q1, q2⟩ := hy
  have l0 := lens_A _ _ _ _ e0
  have k0 := lens_A _ _ _ _ q0
  have l1 := lens_A _ _ _ _ e1
  have k1 := lens_A _ _ _ _ q1
  have l2 := lens_I _ _ _ _ e2
  have k2 := lens_I _ _ _ _ q2
  refine eq_st (by kernel_rfl) (by unfold Program.fieldsOf; rw [Tryd.underlying25]) (by kernel_rfl) ?_
  have z0 := e0.2
  have y0 := q0.2
  obtain ⟨rfl, _⟩ := e0
  obtain ⟨rfl, _⟩ := q0
  refine eqf_cons rfl (part_Me ta23 ts23 (sub_Header_0 l0)) (part_Me ta23 ts23 (sub_Header_0 k0)) (eq_u8s tu23 tu5 ts5 z0 y0) ?_
  have z1 := e1.2
  have y1 := q1.2
  obtain ⟨rfl, _⟩ := e1
  obtain ⟨rfl, _⟩ := q1
  refine eqf_cons rfl (part_Me ta23 ts23 (sub_Header_1 l0 l1)) (part_Me ta23 ts23 (sub_Header_1 k0 k1)) (eq_u8s tu23 tu5 ts5 z1 y1) ?_
  obtain ⟨rfl, _⟩ := e2
  obtain ⟨rfl, _⟩ := q2
  refine eqf_cons rfl (part_1 ta3 (sub_Header_2 l0 l1 l2)) (part_1 ta3 (sub_Header_2 k0 k1 k2)) (eq_i tu3) ?_
  exact eqf_nil
end Go.Proofs.YtobcihaameofhaaDoor

namespace Go.Proofs.YtobcihaameofhaaDoor
open Go Go.RowKit
attribute [local irreducible] wpList

abbrev BgA (b : List UInt8) := Pk.rBytes 32 (b, 0)
abbrev BgB (b : List UInt8) := Pk.rBytes 32 (BgA b).2
abbrev BgC (b : List UInt8) := Pk.rInt (BgB b).2
/-- The header as read. -/
def BgH (b : List UInt8) : DHeader := ⟨(BgA b).1, (BgB b).1, ((BgC b).1 : Int)⟩
abbrev BgL (b : List UInt8) := rList 16 (Pk.rBlob 16384) (BgC b).2
theorem BgH_ok (b : List UInt8) : Bk.OkH (BgH b) := ⟨Pk.len_rBytes, Pk.len_rBytes, Tx.int_ok⟩
abbrev gots (l : List (List UInt8)) : List DTx := l.map (fun y => (Tx.get y).1)
def gotB (b : List UInt8) : DBlock := ⟨BgH b, gots (BgL b).1⟩
theorem bget_raw (b : List UInt8) : Bk.rRaw (b, 0) = ((BgH b, (BgL b).1), (BgL b).2) := rfl
theorem bget_1 {b : List UInt8} (h : Pk.rEnd (BgL b).2 ≠ 0) : Bk.get BTG b = (Bk.zero, Pk.rEnd (BgL b).2) := by unfold Bk.get Bk.fin; rw [bget_raw, if_pos h]
theorem bget_2 {b : List UInt8} (h : Pk.rEnd (BgL b).2 = 0) (h2 : Bk.getErr (BgL b).1 ≠ 0) : Bk.get BTG b = (Bk.zero, Bk.getErr (BgL b).1) := by unfold Bk.get Bk.fin; rw [bget_raw, if_neg (fun e => e h), if_pos h2]
theorem bget_3 {b : List UInt8} (h : Pk.rEnd (BgL b).2 = 0) (h2 : Bk.getErr (BgL b).1 = 0) (h3 : Bk.chk BTG (gotB b) ≠ 0) : Bk.get BTG b = (Bk.zero, Bk.chk BTG (gotB b)) := by
  unfold Bk.get Bk.fin
  rw [bget_raw, if_neg (fun e => e h), if_neg (fun e => e h2), if_pos (by exact h3)]
  rfl
theorem bget_4 {b : List UInt8} (h : Pk.rEnd (BgL b).2 = 0) (h2 : Bk.getErr (BgL b).1 = 0) (h3 : Bk.chk BTG (gotB b) = 0) : Bk.get BTG b = (gotB b, 0) := by
  unfold Bk.get Bk.fin
  rw [bget_raw, if_neg (fun e => e h), if_neg (fun e => e h2), if_neg (fun e => e (by exact h3))]
  rfl
theorem gerr_at : ∀ {l : List (List UInt8)} {i : Nat} {x : List UInt8}, Bk.getErr (l.take i) = 0 → l[i]? = some x → (Tx.get x).2 ≠ 0 → Bk.getErr l = (Tx.get x).2
  | [], i, x, _, h, _ => by simp at h
  | y :: l, 0, x, _, h, hx => by
    obtain rfl : y = x := by simpa using h
    rw [Bk.getErr, if_pos hx]
  | y :: l, i + 1, x, h0, h, hx => by
    rw [List.take_succ_cons, Bk.getErr] at h0
    rw [Bk.getErr]
    by_cases hy : (Tx.get y).2 ≠ 0
    · rw [if_pos hy] at h0; exact absurd h0 hy
    · rw [if_neg hy] at h0 ⊢
      exact gerr_at h0 (by simpa using h) hx
theorem gerr_snoc : ∀ {l : List (List UInt8)} {x : List UInt8}, Bk.getErr l = 0 → (Tx.get x).2 = 0 → Bk.getErr (l ++ [x]) = 0
  | [], x, _, hx => by simp [Bk.getErr, hx]
  | y :: l, x, h, hx => by
    rw [Bk.getErr] at h
    rw [List.cons_append, Bk.getErr]
    by_cases hy : (Tx.get y).2 ≠ 0
    · rw [if_pos hy] at h; exact absurd h hy
    · rw [if_neg hy] at h ⊢
      exact gerr_snoc h hx
theorem rbh_bs {u t r c0 : Nat} {A0 : Option Addr} {b x : List UInt8} {s : RS} {v : Value} {d : List UInt8} {W : World} {S : Nat → Prop} {cs : List Value} (hP : (RdYB u t r A0 b.length c0 (· = b) v d s).p W) (h : RBH A0 b W S cs x) : ∃ A c, cs = [.slice A x.length c] ∧ Bs W (0 ≤ ·) (.slice A x.length c) x ∧ x.length ≤ b.length := by
  obtain ⟨v, rfl, hH⟩ := h
  have hb := held_own hP hH
  obtain ⟨A, c, q, rfl, _, _, _, h9, _⟩ := hH
  exact ⟨A, c, rfl, hb.mono (fun _ _ _ => Nat.zero_le _), by omega⟩
theorem spl_b_txs {x : DHeader} {A A' : Option Addr} {m c m' c' : Nat} (h : Bk.OkH x) : spl (blkC x A m c) 65 [.slice A' m' c'] = blkC x A' m' c' := by
  have hl := len_hdr h
  unfold blkC
  rw [spl_len _ _ _ (by rw [List.length_append, hl]; exact Nat.le_refl _), List.take_left' hl, List.drop_of_length_le (by rw [List.length_append, hl]; exact Nat.le_refl _), List.append_nil]
/-- What a call of block.Get leaves. -/
def GotB (w : World) (b : List UInt8) (v : Value) (w' : World) : Prop := ∃ S A c, v = .tuple #[.agg (blkC (Bk.get BTG b).1.header A (Bk.get BTG b).1.txs.length c).toArray, .int .i64 (Bk.get BTG b).2] ∧ St nT w w' [Fact.rep (RL 3 RTx) S [.slice A (Bk.get BTG b).1.txs.length c] (Bk.get BTG b).1.txs]
theorem tz25 : ((Tryd.prog.info? 25).bind (·.zero)).map (·.cells) = some (hdrC zHd).toArray := by kernel_rfl
theorem tz28 : ((Tryd.prog.info? 28).bind (·.zero)).map (·.cells) = some (blkC zHd none 0 0).toArray := by kernel_rfl

theorem checkGB {S : Nat → Prop} {A : Option Addr} {c n : Nat} {b : List UInt8} (w : World) (hn : (gots (BgL b).1).length = n) (hl : RL 3 RTx w S [.slice A (gots (BgL b).1).length c] (gots (BgL b).1)) (hG : Gat w 0 formsC) (hB : Old.Gl w) : Calls Tryd.prog 21 [.agg (blkC (BgH b) A n c).toArray].toArray w (Ret (Is w (.int .i64 (Bk.chk BTG (gotB b))))) := by
  subst hn
  exact checkBP (b := gotB b) w hl (BgH_ok b) hG hB
set_option maxHeartbeats 4000000 in
theorem getBP {S : Nat → Prop} {v : Value} {b : List UInt8} (w : World) (hb : Bs w S v b) (hbl : b.length ≤ 1000000000000) (hG : Gat w 0 formsC) (hB : Old.Gl w) : Calls Tryd.prog 10 [v].toArray w (Ret (GotB w b)) := by
  have hb0 := hb
  obtain ⟨Ab, cb, rfl, _, _, _⟩ := hb.op
  have hh := BgH_ok b
  have hok0 : Pk.Ok (b, 0) := ⟨fun h => absurd rfl h, (show (0 : Int) ≤ 0 by decide), (show (0 : Int) ≤ 24 by decide)⟩
  have hok1 : Pk.Ok (BgA b).2 := Pk.ok_next hok0
  have hok2 : Pk.Ok (BgB b).2 := Pk.ok_next hok1
  have hok3 : Pk.Ok (BgC b).2 := Pk.ok_rInt hok2
  have hcb := count_bound (m := 16) (s := (BgC b).2) (by decide)
  have hlr : (BgL b).1.length = (Pk.rCount 16 (BgC b).2).1 := len_rMany _ _
  have hl1 : ((BgA b).1.map u8v).length = 32 := by rw [List.length_map]; exact hh.1
  have hl2 : ((BgB b).1.map u8v).length = 32 := by rw [List.length_map]; exact hh.2.1
  refine k_enter (l := [_]) Tryd.func10 rfl rfl ?_
  have H := St.start nT w
  refine k_seq ?_
  refine k_region ?_
  refine s_eff (e_alloc (w_none rfl) rfl rfl (blkC zHd none 0 0) tz28 H ?_)
  clear H; intro go W H
  refine s_run (w_none rfl) rfl (as_i rfl rfl) ?_
  refine l_nil ?_
  refine k_seq ?_
  refine k_region ?_
  refine s_run (w_none rfl) rfl (mv_s rfl rfl) ?_
  refine s_eff (e_call (w_none rfl) rfl rfl Tryd.func29 rfl rfl rfl (prgReadY _ (H.bs hb0) hbl) ?_)
  rintro _ W ⟨r, A0, c0, rfl, hn⟩
  replace H := H.add1 hn
  clear hn
  have h0 : ¬ RdT r A0 b.length c0 0 := H.away (f := RdYP 5 101 r A0 b.length c0 (· = b) (b, 0)) hG.1
  refine s_run (w_none rfl) rfl (as_p rfl rfl) ?_
  refine l_nil ?_
  refine k_seq ?_
  refine k_region ?_
  refine s_run (w_none rfl) rfl (mv_p rfl rfl) ?_
  refine s_eff (e_call (w_none rfl) rfl rfl Tryd.func30 rfl rfl rfl (prgHash _ (H.get (f := RdYP 5 101 r A0 b.length c0 (· = b) (b, 0))) hok0) ?_)
  rintro _ W ⟨rfl, hp_, hf_⟩
  replace H := H.mut (f := RdYP 5 101 r A0 b.length c0 (· = b) (b, 0)) (f' := RdYP 5 101 r A0 b.length c0 (· = b) (BgA b).2) hf_ hp_ (fun _ h => h)
  clear hp_ hf_
  refine s_run (w_none rfl) rfl (mv_p rfl rfl) ?_
  refine s_eff (e_call (w_none rfl) rfl rfl Tryd.func30 rfl rfl rfl (prgHash _ (H.get (f := RdYP 5 101 r A0 b.length c0 (· = b) (BgA b).2)) hok1) ?_)
  rintro _ W ⟨rfl, hp_, hf_⟩
  replace H := H.mut (f := RdYP 5 101 r A0 b.length c0 (· = b) (BgA b).2) (f' := RdYP 5 101 r A0 b.length c0 (· = b) (BgB b).2) hf_ hp_ (fun _ h => h)
  clear hp_ hf_
  refine s_run (w_none rfl) rfl (mv_p rfl rfl) ?_
  refine s_eff (e_call (w_none rfl) rfl rfl Tryd.func31 rfl rfl rfl (prgInt _ (H.get (f := RdYP 5 101 r A0 b.length c0 (· = b) (BgB b).2)) hok2 (H.gat hG) h0) ?_)
  rintro _ W ⟨rfl, hp_, hf_⟩
  replace H := H.mut (f := RdYP 5 101 r A0 b.length c0 (· = b) (BgB b).2) (f' := RdYP 5 101 r A0 b.length c0 (· = b) (BgC b).2) hf_ hp_ (fun _ h => h)
  clear hp_ hf_
  refine s_run (w_none rfl) rfl (d_build (vs := hdrC (BgH b)) rfl (built_fields (places := [(0, 32), (32, 32), (64, 1)]) tz25 (by kernel_rfl) (by kernel_rfl) (fill_next (vs := (BgA b).1.map u8v) (.agg ((BgA b).1.map u8v).toArray) rfl rfl rfl hl1 (Nat.le_of_ble_eq_true rfl) (fill_next (vs := (BgB b).1.map u8v) (.agg ((BgB b).1.map u8v).toArray) rfl (by first | (simp [hl1]; done) | (simp [hl1]; omega)) rfl hl2 (Nat.le_of_ble_eq_true rfl) (fill_next (vs := [.int .i64 ((BgC b).1 : Int)]) (.int .i64 ((BgC b).1 : Int)) rfl (by first | (simp [hl1, hl2]; done) | (simp [hl1, hl2]; omega)) rfl rfl (Nat.le_of_ble_eq_true rfl) (fill_end (by rw [List.drop_drop, List.drop_drop, List.drop_of_length_le (by rw [len_hdr zHd_ok]; exact Nat.le_refl _)]; simp [hdrC, BgH]))))))) ?_
  refine s_run (w_none rfl) rfl (d_build (vs := blkC (BgH b) none 0 0) rfl (built_fields (places := [(0, 65), (65, 1)]) tz28 (by kernel_rfl) (by kernel_rfl) (fill_next (vs := hdrC (BgH b)) (.agg (hdrC (BgH b)).toArray) rfl rfl rfl (len_hdr hh) (Nat.le_of_ble_eq_true rfl) (fill_end (by rfl))))) ?_
  refine s_eff (e_alloc (w_none rfl) rfl rfl (blkC zHd none 0 0) tz28 H ?_)
  clear H; intro gb W H
  refine s_eff (e_stoK (blkC (BgH b) none 0 0) (w_none rfl) rfl rfl rfl rfl rfl ts28 (len_blk hh) blk_one H (by rw [len_blk zHd_ok]; decide) (spl_all ((len_blk hh).trans (len_blk zHd_ok).symm)) ?_)
  clear H; intro W H
  refine l_nil ?_
  refine k_seq ?_
  refine k_region ?_
  refine s_run (w_none rfl) rfl (as_s rfl rfl) ?_
  refine l_nil ?_
  refine k_seq ?_
  refine k_seq ?_
  refine k_region ?_
  refine s_run (w_none rfl) rfl (mv_p rfl rfl) ?_
  refine s_eff (e_call (w_none rfl) rfl rfl Tryd.func32 rfl rfl rfl (prgCount (m := 16) _ (H.get (f := RdYP 5 101 r A0 b.length c0 (· = b) (BgC b).2)) hok3 (H.gat hG) h0) ?_)
  rintro _ W ⟨rfl, hp_, hf_⟩
  replace H := H.mut (f := RdYP 5 101 r A0 b.length c0 (· = b) (BgC b).2) (f' := RdYP 5 101 r A0 b.length c0 (· = b) (Pk.rCount 16 (BgC b).2).2) hf_ hp_ (fun _ h => h)
  clear hp_ hf_
  refine s_run (w_none rfl) rfl (mv_i rfl rfl) ?_
  refine l_nil ?_
  refine k_block ?_
  refine k_loop 25 [6] (fun mm sl W => ∃ i : Nat, ∃ A2 : Option Addr, ∃ c2 : Nat, ∃ ys : List Value, ∃ S2 : Nat → Prop, (Pk.rCount 16 (BgC b).2).1 - i = mm ∧ sl = [(25, .int .i64 (i : Int)), (6, .slice A2 i c2)] ∧ (i ≤ (Pk.rCount 16 (BgC b).2).1) ∧ (i ≤ c2 ∧ c2 ≤ 9223372036854775807) ∧ St nT w W [Fact.row 29 1 (.slice A2 i c2) i ys, Fact.els (RBH A0 b) 1 S2 ys (rMany (Pk.rBlob 16384) i (Pk.rCount 16 (BgC b).2).2).1, Fact.blk gb (blkC (BgH b) none 0 0) 28, RdYP 5 101 r A0 b.length c0 (· = b) (rMany (Pk.rBlob 16384) i (Pk.rCount 16 (BgC b).2).2).2, Fact.blk go (blkC zHd none 0 0) 28]) _ _ ⟨0, none, 0, [], (fun _ => False), rfl, rfl, Nat.zero_le _, ⟨Nat.le_refl _, by omega⟩, ((H.els0 (RBH A0 b) 1).nilrow 29 1)⟩ ⟨rfl, rfl, trivial⟩ (fun mm sl ρv W hJ => ?_)
  clear H; obtain ⟨i, A2, c2, ys, S2, rfl, rfl, hi, hd, H⟩ := hJ
  refine k_one ?_
  refine k_seq ?_
  refine k_region ?_
  refine s_run (w_none rfl) rfl (d_lt rfl rfl rfl) ?_
  refine l_nil ?_
  refine k_seq ?_
  refine k_cond rfl (fun hc26 => ?_) (fun hc26 => ?_)
  · replace hc26 := of_decide_eq_true hc26
    have hlt : i < (Pk.rCount 16 (BgC b).2).1 := by omega
    have hoki := (sane_many (sane_blob (m := 16384)) i).2 _ (Pk.ok_rCount (m := 16) hok3)
    refine k_skip ?_
    refine k_seq ?_
    refine k_block ?_
    refine k_region ?_
    refine s_run (w_none rfl) rfl (mv_s rfl rfl) ?_
    refine s_run (w_none rfl) rfl (mv_p rfl rfl) ?_
    refine s_eff (e_call (w_none rfl) rfl rfl Tryd.func33 rfl rfl rfl (prgBlob (m := 16384) _ (H.get (f := RdYP 5 101 r A0 b.length c0 (· = b) (rMany (Pk.rBlob 16384) i (Pk.rCount 16 (BgC b).2).2).2)) hoki (H.gat hG) h0) ?_)
    rintro _ W ⟨hp_, hf_⟩
    obtain ⟨B1, d1, rfl⟩ := RdB.form hp_
    have hH := held_of hp_
    replace H := H.mut (f := RdYP 5 101 r A0 b.length c0 (· = b) (rMany (Pk.rBlob 16384) i (Pk.rCount 16 (BgC b).2).2).2) (f' := RdYP 5 101 r A0 b.length c0 (· = b) (Pk.rBlob 16384 (rMany (Pk.rBlob 16384) i (Pk.rCount 16 (BgC b).2).2).2).2) hf_ (RdB.toP hp_) (fun _ h => h)
    clear hp_ hf_
    replace H := H.flat (R := RBH A0 b) (cs := [.slice B1 (Pk.rBlob 16384 (rMany (Pk.rBlob 16384) i (Pk.rCount 16 (BgC b).2).2).2).1.length d1]) (a := (Pk.rBlob 16384 (rMany (Pk.rBlob 16384) i (Pk.rCount 16 (BgC b).2).2).2).1) ⟨_, rfl, hH⟩
    refine s_eff (e_bsl (xs := [.tmp 29]) (vals := [.slice _ _ _]) (vs := [.slice _ _ _]) (w_none rfl) rfl rfl rfl rfl rfl rfl tu68 ts29 ty29 rfl rfl rfl H ?_)
    clear H; intro g6_3 W H
    refine s_eff (e_app (w_none rfl) rfl rfl tu68 tx29 rfl rfl rfl H (rd_blk (m := 1) H.blk rfl) (rfl) (by omega) rfl ?_)
    clear H; intro A1 c1 W hc1 hd1 H
    replace H := H.drop
    refine s_run (w_none rfl) rfl (as_s rfl rfl) ?_
    refine l_nil ?_
    replace H := (St.elsnoc (H.perm (.cons _ (.swap _ _ _))) rfl).perm (.swap _ _ _)
    refine k_nil ?_
    refine b_end ?_
    refine k_region ?_
    refine s_run (w_none rfl) rfl (d_add rfl rfl rfl (by omega)) ?_
    refine s_run (w_none rfl) rfl (mv_i rfl rfl) ?_
    refine l_nil ?_
    refine k_nil ?_
    refine k_next ?_
    refine ⟨_, _, _, ?_, rfl, ?_, ?_, ⟨i + 1, A1, c1, _, _, rfl, rfl, by omega, ⟨hc1, hd1⟩, H⟩⟩
    · omega
    · repeat (first | ((with_reducible refine Eqo.updl _ Eqo.ovr ?_); exact rfl) | ((with_reducible refine Eqo.updl _ (Eqo.ovr2 ?_ ?_) ?_); rotate_left; exact rfl; exact rfl) | ((with_reducible refine Eqo.upd ?_ ?_); rotate_left; exact rfl))
    · refine ⟨?_, ?_, trivial⟩
      · exact vi (by omega)
      · exact rfl
  · replace hc26 := of_decide_eq_false hc26
    obtain rfl : i = (Pk.rCount 16 (BgC b).2).1 := by omega
    replace H : St nT w W [Fact.row 29 1 (.slice A2 (Pk.rCount 16 (BgC b).2).1 c2) (Pk.rCount 16 (BgC b).2).1 ys, Fact.els (RBH A0 b) 1 S2 ys (BgL b).1, Fact.blk gb (blkC (BgH b) none 0 0) 28, RdYP 5 101 r A0 b.length c0 (· = b) (BgL b).2, Fact.blk go (blkC zHd none 0 0) 28] := H
    have H2 := H.perm (L' := [Fact.blk gb (blkC (BgH b) none 0 0) 28, Fact.row 29 1 (.slice A2 (Pk.rCount 16 (BgC b).2).1 c2) (Pk.rCount 16 (BgC b).2).1 ys, Fact.els (RBH A0 b) 1 S2 ys (BgL b).1, RdYP 5 101 r A0 b.length c0 (· = b) (BgL b).2, Fact.blk go (blkC zHd none 0 0) 28]) (List.perm_middle (l₁ := [_, _]))
    clear H
    refine k_exit ?_
    refine x_then (x_then ?_)
    refine x_hit ?_
    refine k_seq ?_
    refine k_seq ?_
    have H := H2
    clear H2
    refine k_region ?_
    refine s_run (w_none rfl) rfl (mv_p rfl rfl) ?_
    refine s_eff (e_call (w_none rfl) rfl rfl Tryd.func34 rfl rfl rfl (prgEnd _ (H.get (f := RdYP 5 101 r A0 b.length c0 (· = b) (BgL b).2))) ?_)
    rintro _ W ⟨rfl, hb⟩
    replace H := H.below hb
    clear hb
    refine s_run (w_none rfl) rfl (as_i rfl rfl) ?_
    refine l_nil ?_
    refine k_seq ?_
    refine k_region ?_
    refine s_run (w_none rfl) rfl (mv_i rfl rfl) ?_
    refine s_run (w_none rfl) rfl (d_ne rfl rfl rfl) ?_
    refine l_nil ?_
    refine k_cond rfl (fun hc36 => ?_) (fun hc36 => ?_)
    · have he : Pk.rEnd (BgL b).2 ≠ 0 := by simpa using hc36
      refine k_seq ?_
      refine k_region ?_
      refine s_run (w_none rfl) rfl (d_build (vs := blkC zHd none 0 0) rfl (by kernel_rfl)) ?_
      refine s_run (w_none rfl) rfl (mv_i rfl rfl) ?_
      refine s_eff (e_stoK (blkC zHd none 0 0) (w_none rfl) rfl rfl rfl rfl rfl ts28 (len_blk zHd_ok) blk_one H (by rw [len_blk zHd_ok]; decide) (spl_all ((len_blk zHd_ok).trans (len_blk zHd_ok).symm)) ?_)
      clear H; intro W H
      refine s_run (w_none rfl) rfl (as_i rfl rfl) ?_
      refine l_nil ?_
      refine k_ret ?_
      repeat (first | refine r_then ?_ | refine r_blk ?_)
      have hge : Bk.get BTG b = (Bk.zero, Pk.rEnd (BgL b).2) := bget_1 he
      refine q_cell2 rfl (c := blkC zHd none 0 0) (g := go) (v := .int .i64 (Pk.rEnd (BgL b).2)) H rfl ta28 (by rw [len_blk zHd_ok]; exact ts28) rfl ⟨_, rfl, (fun _ => False), none, 0, by rw [hge]; rfl, ?_⟩
      rw [hge]
      exact (H.sub (L' := []) (List.nil_sublist _)).flat (R := RL 3 RTx) (a := ([] : List DTx)) rl_nil
    · have he : Pk.rEnd (BgL b).2 = 0 := by simpa using hc36
      have H2 := H
      refine k_skip ?_
      refine k_seq ?_
      refine k_seq ?_
      refine k_region ?_
      refine s_run (w_none rfl) rfl (mv_s rfl rfl) ?_
      refine s_run (w_none rfl) rfl (d_len rfl rfl tu68) ?_
      refine s_run (w_none rfl) rfl (mv_i rfl rfl) ?_
      refine l_nil ?_
      refine k_block ?_
      refine k_loop 41 [3, 9, 10, 11] (fun mm sl W => ∃ i : Nat, ∃ A3 : Option Addr, ∃ c3 : Nat, ∃ zs : List Value, ∃ S3 : Nat → Prop, (Pk.rCount 16 (BgC b).2).1 - i = mm ∧ sl = [(41, .int .i64 (i : Int))] ∧ (i ≤ (Pk.rCount 16 (BgC b).2).1) ∧ (i ≤ c3 ∧ c3 ≤ 9223372036854775807) ∧ (Bk.getErr ((BgL b).1.take i) = 0) ∧ St nT w W [Fact.row 44 3 (.slice A3 i c3) i zs, Fact.els RTx 3 S3 zs (gots ((BgL b).1.take i)), Fact.blk gb (blkC (BgH b) A3 i c3) 28, Fact.row 29 1 (.slice A2 (Pk.rCount 16 (BgC b).2).1 c2) (Pk.rCount 16 (BgC b).2).1 ys, Fact.els (RBH A0 b) 1 S2 ys (BgL b).1, RdYP 5 101 r A0 b.length c0 (· = b) (BgL b).2, Fact.blk go (blkC zHd none 0 0) 28]) _ _ ⟨0, none, 0, [], (fun _ => False), rfl, rfl, Nat.zero_le _, ⟨Nat.le_refl _, by omega⟩, rfl, ((H2.els0 RTx 3).nilrow 44 3)⟩ ⟨rfl, trivial⟩ (fun mm sl ρv W hJ => ?_)
      clear H; obtain ⟨i, A3, c3, zs, S3, rfl, rfl, hi, hd3, he3, H⟩ := hJ
      refine k_one ?_
      refine k_seq ?_
      refine k_region ?_
      refine s_run (w_none rfl) rfl (d_lt rfl rfl rfl) ?_
      refine l_nil ?_
      refine k_seq ?_
      refine k_cond rfl (fun hc42 => ?_) (fun hc42 => ?_)
      · have hlt : i < (Pk.rCount 16 (BgC b).2).1 := by simp at hc42; omega
        obtain ⟨x, hx⟩ := get_lt (l := (BgL b).1) (by omega : i < (BgL b).1.length)
        obtain ⟨g2, rfl⟩ := row_own (H.get (f := Fact.row 29 1 (.slice A2 (Pk.rCount 16 (BgC b).2).1 c2) (Pk.rCount 16 (BgC b).2).1 ys)) (by omega)
        have hels := H.get (f := Fact.els (RBH A0 b) 1 S2 ys (BgL b).1)
        obtain ⟨Ax, cx, hLx, hbx, hxl⟩ := rbh_bs (H.get (f := RdYP 5 101 r A0 b.length c0 (· = b) (BgL b).2)) (hels.2 i x hx)
        refine k_skip ?_
        refine k_seq ?_
        refine k_block ?_
        refine k_seq ?_
        refine k_region ?_
        refine s_run (w_none rfl) rfl (d_iaG (q := i) rfl (H.rowrd (A := some ⟨g2, 0, none⟩)) rfl rfl rfl hlt tu68 ts29) ?_
        refine s_run (w_none rfl) rfl (d_ldE (q := i) (off := 0) rfl (H.rowrd (A := some ⟨g2, 0, none⟩)) hlt hLx rfl rfl rfl (by omega) ta29) ?_
        refine s_run (w_none rfl) rfl (as_s rfl rfl) ?_
        refine l_nil ?_
        refine k_seq ?_
        refine k_region ?_
        refine s_run (w_none rfl) rfl (mv_s rfl rfl) ?_
        refine s_eff (e_call (w_none rfl) rfl rfl Tryd.func35 rfl rfl rfl (getTP _ hbx (by omega) (H.gat hG)) ?_)
        rintro _ W hs_
        obtain ⟨Sg4, Ag4, cg4, Bg4, dg4, rfl, H1_⟩ := GotTx.rep hs_ H
        clear H hs_
        have H := H1_
        clear H1_
        refine s_run (w_none rfl) rfl (mv_t rfl rfl) ?_
        refine s_run (w_none rfl) rfl (d_ext rfl rfl rfl) ?_
        refine s_run (w_none rfl) rfl (d_ext rfl rfl rfl) ?_
        refine s_eff (e_alloc (w_none rfl) rfl rfl [.slice none 0 0, .slice none 0 0, .int .i64 0] tz44 H ?_)
        clear H; intro gt W H
        refine s_eff (e_stoK (txC Ag4 (Tx.get x).1.ins.length cg4 Bg4 (Tx.get x).1.outs.length dg4 (Tx.get x).1.lock) (w_none rfl) rfl rfl rfl rfl rfl ts44 rfl rfl H (by decide) rfl ?_)
        clear H; intro W H
        refine s_run (w_none rfl) rfl (as_i rfl rfl) ?_
        refine l_nil ?_
        refine k_seq ?_
        refine k_seq ?_
        refine k_region ?_
        refine s_run (w_none rfl) rfl (mv_i rfl rfl) ?_
        refine s_run (w_none rfl) rfl (d_ne rfl rfl rfl) ?_
        refine l_nil ?_
        refine k_cond rfl (fun hc51 => ?_) (fun hc51 => ?_)
        · have hxe : (Tx.get x).2 ≠ 0 := by simpa using hc51
          refine k_seq ?_
          refine k_region ?_
          refine s_run (w_none rfl) rfl (d_build (vs := blkC zHd none 0 0) rfl (by kernel_rfl)) ?_
          refine s_run (w_none rfl) rfl (mv_i rfl rfl) ?_
          refine s_eff (e_stoK (blkC zHd none 0 0) (w_none rfl) rfl rfl rfl rfl rfl ts28 (len_blk zHd_ok) blk_one H (by rw [len_blk zHd_ok]; decide) (spl_all ((len_blk zHd_ok).trans (len_blk zHd_ok).symm)) ?_)
          clear H; intro W H
          refine s_run (w_none rfl) rfl (as_i rfl rfl) ?_
          refine l_nil ?_
          refine k_ret ?_
          repeat (first | refine r_then ?_ | refine r_blk ?_)
          have hxg := (gerr_at he3 hx hxe).symm
          rw [hxg] at hxe ⊢
          have hge : Bk.get BTG b = (Bk.zero, Bk.getErr (BgL b).1) := bget_2 he hxe
          refine q_cell2 rfl (c := blkC zHd none 0 0) (g := go) (v := .int .i64 (Bk.getErr (BgL b).1)) H rfl ta28 (by rw [len_blk zHd_ok]; exact ts28) rfl ⟨_, rfl, (fun _ => False), none, 0, by rw [hge]; rfl, ?_⟩
          rw [hge]
          exact (H.sub (L' := []) (List.nil_sublist _)).flat (R := RL 3 RTx) (a := ([] : List DTx)) rl_nil
        · have hxe : (Tx.get x).2 = 0 := by simpa using hc51
          refine k_skip ?_
          refine k_region ?_
          refine s_run (w_none rfl) rfl (d_fa rfl rfl tf28_1) ?_
          refine s_run (w_none rfl) rfl (d_ldX (g := gb) (off := 65) rfl H (sub_b_txs hh) rfl rfl ta26) ?_
          refine s_run (w_none rfl) rfl (d_ldXM (g := gt) (off := 0) rfl H (sub_all (a := txC Ag4 (Tx.get x).1.ins.length cg4 Bg4 (Tx.get x).1.outs.length dg4 (Tx.get x).1.lock) (m := 3) rfl) rfl rfl rfl rfl ta44 ts44) ?_
          refine s_eff (e_bsl (xs := [.tmp 56]) (vals := [.agg (txC Ag4 (Tx.get x).1.ins.length cg4 Bg4 (Tx.get x).1.outs.length dg4 (Tx.get x).1.lock).toArray]) (vs := (txC Ag4 (Tx.get x).1.ins.length cg4 Bg4 (Tx.get x).1.outs.length dg4 (Tx.get x).1.lock)) (w_none rfl) rfl rfl rfl rfl rfl rfl tu26 ts44 ty44 rfl (by simp [agg_cells, txC]) (by simp [agg_cells]) H ?_)
          clear H; intro g17_3 W H
          refine s_eff (e_app (w_none rfl) rfl rfl tu26 tx44 rfl rfl rfl H (rd_blk (m := 1) H.blk rfl) (rfl) (by omega) rfl ?_)
          clear H; intro A5 c5 W hc5 hd5 H
          replace H := H.drop
          refine s_run (w_none rfl) rfl (d_fa rfl rfl tf28_1) ?_
          refine s_eff (e_stoK (v := .slice A5 (i + 1) c5) (vs := [.slice A5 (i + 1) c5]) (blkC (BgH b) A5 (i + 1) c5) (w_none rfl) rfl rfl rfl rfl rfl ts26 rfl rfl H (by rw [len_blk hh]; decide) (spl_b_txs hh) ?_)
          clear H; intro W H
          refine l_nil ?_
          replace H := H.drop
          replace H := (St.elsnoc (H.perm (.cons _ (.swap _ _ _))) rfl).perm (.swap _ _ _)
          refine k_nil ?_
          refine b_end ?_
          refine k_region ?_
          refine s_run (w_none rfl) rfl (d_add rfl rfl rfl (by omega)) ?_
          refine s_run (w_none rfl) rfl (mv_i rfl rfl) ?_
          refine l_nil ?_
          refine k_nil ?_
          refine k_next ?_
          have e9 : gots ((BgL b).1.take (i + 1)) = gots ((BgL b).1.take i) ++ [(Tx.get x).1] := by rw [take_get hx]; simp [gots]
          refine ⟨_, _, _, ?_, rfl, ?_, ?_, ⟨i + 1, A5, c5, _, _, rfl, rfl, by omega, ⟨hc5, hd5⟩, (by rw [take_get hx]; exact gerr_snoc he3 hxe), by rw [e9]; exact H⟩⟩
          · omega
          · repeat (first | ((with_reducible refine Eqo.updl _ Eqo.ovr ?_); exact rfl) | ((with_reducible refine Eqo.updl _ (Eqo.ovr2 ?_ ?_) ?_); rotate_left; exact rfl; exact rfl) | ((with_reducible refine Eqo.upd ?_ ?_); rotate_left; exact rfl))
          · refine ⟨?_, trivial⟩
            · exact vi (by omega)
      · obtain rfl : i = (Pk.rCount 16 (BgC b).2).1 := by simp at hc42; omega
        refine k_exit ?_
        refine x_then (x_then ?_)
        refine x_hit ?_
        refine k_seq ?_
        refine k_seq ?_
        skip
        refine k_region ?_
        refine s_run (w_none rfl) rfl (d_ldXM (g := gb) (off := 0) rfl H (sub_all (len_blk hh)) (len_blk hh) rfl rfl rfl ta28 ts28) ?_
        have htl : (BgL b).1.take (Pk.rCount 16 (BgC b).2).1 = (BgL b).1 := by rw [← hlr]; exact List.take_length
        rw [htl] at he3 H
        have hgl : (gots (BgL b).1).length = (Pk.rCount 16 (BgC b).2).1 := by rw [List.length_map]; exact hlr
        obtain ⟨SL, H9⟩ : ∃ SL, St nT w _ (Fact.rep (RL 3 RTx) SL [.slice A3 (gots (BgL b).1).length c3] (gots (BgL b).1) :: [Fact.blk gb (blkC (BgH b) A3 (Pk.rCount 16 (BgC b).2).1 c3) 28, Fact.blk go (blkC zHd none 0 0) 28]) := ⟨_, (St.tolist (s := 3) (e := 44) (by rw [hgl]; exact H)).sub (by repeat (first | exact List.Sublist.refl _ | exact List.nil_sublist _ | refine List.Sublist.cons_cons _ ?_ | refine List.Sublist.cons _ ?_))⟩
        clear H
        have H := H9
        clear H9
        refine s_eff (e_call (w_none rfl) rfl rfl Tryd.func21 rfl rfl rfl (checkGB _ hgl (H.rep1 (R := RL 3 RTx) (S := SL) (cs := [.slice A3 (gots (BgL b).1).length c3]) (a := gots (BgL b).1)) (H.gat hG) (H.gl hB)) ?_)
        rintro _ W ⟨rfl, hb⟩
        replace H := H.below hb
        clear hb
        refine s_run (w_none rfl) rfl (as_i rfl rfl) ?_
        refine l_nil ?_
        refine k_seq ?_
        refine k_region ?_
        refine s_run (w_none rfl) rfl (mv_i rfl rfl) ?_
        refine s_run (w_none rfl) rfl (d_ne rfl rfl rfl) ?_
        refine l_nil ?_
        refine k_cond rfl (fun hc64 => ?_) (fun hc64 => ?_)
        · have hne : Bk.chk BTG (gotB b) ≠ 0 := by simpa using hc64
          refine k_seq ?_
          refine k_region ?_
          refine s_run (w_none rfl) rfl (d_build (vs := blkC zHd none 0 0) rfl (by kernel_rfl)) ?_
          refine s_run (w_none rfl) rfl (mv_i rfl rfl) ?_
          refine s_eff (e_stoK (blkC zHd none 0 0) (w_none rfl) rfl rfl rfl rfl rfl ts28 (len_blk zHd_ok) blk_one H (by rw [len_blk zHd_ok]; decide) (spl_all ((len_blk zHd_ok).trans (len_blk zHd_ok).symm)) ?_)
          clear H; intro W H
          refine s_run (w_none rfl) rfl (as_i rfl rfl) ?_
          refine l_nil ?_
          refine k_ret ?_
          repeat (first | refine r_then ?_ | refine r_blk ?_)
          have hge : Bk.get BTG b = (Bk.zero, Bk.chk BTG (gotB b)) := bget_3 he he3 hne
          refine q_cell2 rfl (c := blkC zHd none 0 0) (g := go) (v := .int .i64 (Bk.chk BTG (gotB b))) H rfl ta28 (by rw [len_blk zHd_ok]; exact ts28) rfl ⟨_, rfl, (fun _ => False), none, 0, by rw [hge]; rfl, ?_⟩
          rw [hge]
          exact (H.sub (L' := []) (List.nil_sublist _)).flat (R := RL 3 RTx) (a := ([] : List DTx)) rl_nil
        · have hne : Bk.chk BTG (gotB b) = 0 := by simpa using hc64
          refine k_skip ?_
          refine k_seq ?_
          refine k_region ?_
          refine s_run (w_none rfl) rfl (d_ldXM (g := gb) (off := 0) rfl H (sub_all (len_blk hh)) (len_blk hh) rfl rfl rfl ta28 ts28) ?_
          refine s_eff (e_stoK (blkC (BgH b) A3 (Pk.rCount 16 (BgC b).2).1 c3) (w_none rfl) rfl rfl rfl rfl rfl ts28 (len_blk hh) blk_one H (by rw [len_blk zHd_ok]; decide) (spl_all ((len_blk hh).trans (len_blk zHd_ok).symm)) ?_)
          clear H; intro W H
          refine s_run (w_none rfl) rfl (as_i rfl rfl) ?_
          refine l_nil ?_
          refine k_ret ?_
          repeat (first | refine r_then ?_ | refine r_blk ?_)
          have hge := bget_4 he he3 hne
          refine q_cell2 rfl (c := blkC (BgH b) A3 (Pk.rCount 16 (BgC b).2).1 c3) (g := go) (v := .int .i64 0) H rfl ta28 (by rw [len_blk hh]; exact ts28) rfl ⟨_, rfl, SL, A3, c3, by rw [hge]; show _ = Value.tuple #[.agg (blkC (BgH b) A3 (gots (BgL b).1).length c3).toArray, _]; rw [hgl], ?_⟩
          rw [hge]
          exact H.sub (L' := [_]) (by repeat (first | exact List.Sublist.refl _ | exact List.nil_sublist _ | refine List.Sublist.cons_cons _ ?_ | refine List.Sublist.cons _ ?_))
end Go.Proofs.YtobcihaameofhaaDoor

namespace Go.Proofs.YtobcihaameofhaaDoor
open Go Go.RowKit
attribute [local irreducible] wpList

def bigL (l : List DTx) : Bool := decide (20 < l.length) || l.any (Tx.big 20 2048)
theorem bigL_1 {l : List DTx} (h : 20 < l.length) : bigL l = true := by unfold bigL; rw [decide_eq_true h]; rfl
theorem bigL_2 {l : List DTx} {t : DTx} (h : t ∈ l) (hb : Tx.big 20 2048 t = true) : bigL l = true := by
  unfold bigL
  rw [List.any_eq_true.2 ⟨t, h, hb⟩, Bool.or_true]
theorem bigL_0 {l : List DTx} (h : ¬ 20 < l.length) (hb : ∀ t ∈ l, Tx.big 20 2048 t = false) : bigL l = false := by
  unfold bigL
  rw [decide_eq_false h, Bool.false_or]
  exact Bool.eq_false_iff.2 (fun e => by
    obtain ⟨t, h1, h2⟩ := List.any_eq_true.1 e
    rw [hb t h1] at h2
    cases h2)

set_option maxHeartbeats 4000000 in
theorem bigLP {S : Nat → Prop} {v : Value} {l : List DTx} (w : World) (hl : RL 3 RTx w S [v] l) (hz : ∀ t ∈ l, Tx.Szd t) : Calls Tryd.prog 7 [v].toArray w (Ret (Is w (.bool (bigL l)))) := by
  have hll := rl_len hl
  obtain ⟨A, c, xs, hv_, hcA_, hcmA_, hr, hel⟩ := hl
  obtain rfl : v = .slice A l.length c := by cases hv_; rfl
  refine k_enter (l := [_]) Tryd.func7 rfl rfl ?_
  have H := St.start nT w
  refine k_seq ?_
  refine k_region ?_
  refine s_run (w_none rfl) rfl (as_b rfl rfl) ?_
  refine l_nil ?_
  refine k_seq ?_
  refine k_seq ?_
  refine k_region ?_
  refine s_run (w_none rfl) rfl (mv_s rfl rfl) ?_
  refine s_run (w_none rfl) rfl (d_len rfl rfl tu26) ?_
  refine s_run (w_none rfl) rfl (d_gt rfl rfl rfl) ?_
  refine l_nil ?_
  refine k_cond rfl (fun hc6 => ?_) (fun hc6 => ?_)
  · have hbg : 20 < l.length := by simp at hc6; omega
    refine k_seq ?_
    refine k_region ?_
    refine s_run (w_none rfl) rfl (as_b rfl rfl) ?_
    refine l_nil ?_
    refine k_ret ?_
    repeat (first | refine r_then ?_ | refine r_blk ?_)
    exact q_ret (v := .bool _) rfl rfl ⟨_, rfl, vb ((bigL_1 hbg).symm), H.under⟩
  · have hbg : ¬ 20 < l.length := by simp at hc6; omega
    refine k_skip ?_
    refine k_seq ?_
    refine k_seq ?_
    refine k_region ?_
    refine s_run (w_none rfl) rfl (as_i rfl rfl) ?_
    refine l_nil ?_
    refine k_block ?_
    refine k_loop 7 [2, 3] (fun mm sl W => ∃ i : Nat, l.length - i = mm ∧ sl = [(3, .int .i64 (i : Int))] ∧ (i ≤ l.length) ∧ (∀ t ∈ l.take i, Tx.big 20 2048 t = false) ∧ St nT w W []) _ _ ⟨0, rfl, rfl, Nat.zero_le _, fun t h => by simp at h, H⟩ ⟨rfl, trivial⟩ (fun mm sl ρv W hJ => ?_)
    clear H; obtain ⟨i, rfl, rfl, hi, hs, H⟩ := hJ
    refine k_one ?_
    refine k_seq ?_
    refine k_seq ?_
    refine k_region ?_
    refine s_run (w_none rfl) rfl (mv_i rfl rfl) ?_
    refine s_run (w_none rfl) rfl (mv_s rfl rfl) ?_
    refine s_run (w_none rfl) rfl (d_len rfl rfl tu26) ?_
    refine s_run (w_none rfl) rfl (d_lt rfl rfl rfl) ?_
    refine l_nil ?_
    refine k_cond rfl (fun hc10 => ?_) (fun hc10 => ?_)
    · have hlt : i < l.length := by simp at hc10; omega
      obtain ⟨g0, o0, rfl, -⟩ := hr.2 (by omega)
      obtain ⟨x, hx⟩ := get_lt hlt
      have hX := hel i x hx
      obtain ⟨Ai, ci, Bi, di, hL, -, -, -⟩ := tx_of hX
      rw [hL] at hX
      refine k_skip ?_
      refine k_seq ?_
      refine k_block ?_
      refine k_seq ?_
      refine k_region ?_
      refine s_run (w_none rfl) rfl (mv_s rfl rfl) ?_
      refine s_run (w_none rfl) rfl (mv_i rfl rfl) ?_
      refine s_run (w_none rfl) rfl (d_iaG rfl (H.rd hr) rfl rfl (q := i) rfl hlt tu26 ts44) ?_
      refine s_run (w_none rfl) rfl (d_ldEM (off := 0) rfl (H.rd hr) hlt hL (sub_all (a := txC Ai x.ins.length ci Bi x.outs.length di x.lock) (m := 3) rfl) rfl rfl (by omega) ta44 ts44) ?_
      refine s_eff (e_call (w_none rfl) rfl rfl Tryd.func25 rfl rfl rfl (bigTx (rows := 20) (bytes := 2048) _ (keeps_Tx _ _ _ _ _ hX (fun g hg _ => H.fr.block g hg (fun h => h))) (hz x (List.mem_of_getElem? hx))) ?_)
      rintro _ W ⟨rfl, hb⟩
      replace H := H.below hb
      clear hb
      refine l_nil ?_
      refine k_cond rfl (fun hc17 => ?_) (fun hc17 => ?_)
      · have hbx : Tx.big 20 2048 x = true := hc17
        refine k_seq ?_
        refine k_region ?_
        refine s_run (w_none rfl) rfl (as_b rfl rfl) ?_
        refine l_nil ?_
        refine k_ret ?_
        repeat (first | refine r_then ?_ | refine r_blk ?_)
        exact q_ret (v := .bool _) rfl rfl ⟨_, rfl, vb ((bigL_2 (List.mem_of_getElem? hx) hbx).symm), H.under⟩
      · have hbx : Tx.big 20 2048 x = false := hc17
        refine k_skip ?_
        refine k_nil ?_
        refine b_end ?_
        refine k_region ?_
        refine s_run (w_none rfl) rfl (mv_i rfl rfl) ?_
        refine s_run (w_none rfl) rfl (d_add rfl rfl rfl (by omega)) ?_
        refine s_run (w_none rfl) rfl (as_i rfl rfl) ?_
        refine l_nil ?_
        refine k_nil ?_
        refine k_next ?_
        refine ⟨_, _, _, ?_, rfl, ?_, ?_, ⟨i + 1, rfl, rfl, by omega, fun t h => by
            rw [take_get hx] at h
            rcases List.mem_append.1 h with h | h
            · exact hs t h
            · rw [List.mem_singleton.1 h]; exact hbx, H⟩⟩
        · omega
        · repeat (first | ((with_reducible refine Eqo.updl _ Eqo.ovr ?_); exact rfl) | ((with_reducible refine Eqo.updl _ (Eqo.ovr2 ?_ ?_) ?_); rotate_left; exact rfl; exact rfl) | ((with_reducible refine Eqo.upd ?_ ?_); rotate_left; exact rfl))
        · refine ⟨?_, trivial⟩
          · exact vi (by omega)
    · obtain rfl : i = l.length := by simp at hc10; omega
      rw [List.take_length] at hs
      refine k_exit ?_
      refine x_then (x_then ?_)
      refine x_hit ?_
      refine k_seq ?_
      refine k_region ?_
      refine s_run (w_none rfl) rfl (as_b rfl rfl) ?_
      refine l_nil ?_
      refine k_ret ?_
      repeat (first | refine r_then ?_ | refine r_blk ?_)
      exact q_ret (v := .bool _) rfl rfl ⟨_, rfl, vb ((bigL_0 hbg hs).symm), H.under⟩

set_option maxHeartbeats 4000000 in
theorem sameTxs {S S1 : Nat → Prop} {v u : Value} {l r : List DTx} (w : World) (hl : RL 3 RTx w S [v] l) (hr : RL 3 RTx w S1 [u] r) : Calls Tryd.prog 22 [v, u].toArray w (Ret (Is w (.bool (decide (l = r))))) := by
  have hll := rl_len hl
  obtain ⟨A, c, xs, hv_, hcA_, hcmA_, hr1, hel⟩ := hl
  obtain rfl : v = .slice A l.length c := by cases hv_; rfl
  obtain ⟨B, d, ys, hv_, hcB_, hcmB_, hr, hes⟩ := hr
  obtain rfl : u = .slice B r.length d := by cases hv_; rfl
  refine k_enter (l := [_, _]) Tryd.func22 rfl rfl ?_
  have H := St.start nT w
  refine k_seq ?_
  refine k_region ?_
  refine s_run (w_none rfl) rfl (as_b rfl rfl) ?_
  refine l_nil ?_
  refine k_seq ?_
  refine k_seq ?_
  refine k_region ?_
  refine s_run (w_none rfl) rfl (mv_s rfl rfl) ?_
  refine s_run (w_none rfl) rfl (d_len rfl rfl tu26) ?_
  refine s_run (w_none rfl) rfl (mv_s rfl rfl) ?_
  refine s_run (w_none rfl) rfl (d_len rfl rfl tu26) ?_
  refine s_run (w_none rfl) rfl (d_ne rfl rfl rfl) ?_
  refine l_nil ?_
  refine k_cond rfl (fun hc10 => ?_) (fun hc10 => ?_)
  · have hc10 : ¬ l.length = r.length := by simp at hc10; omega
    refine k_seq ?_
    refine k_region ?_
    refine s_run (w_none rfl) rfl (as_b rfl rfl) ?_
    refine l_nil ?_
    refine k_ret ?_
    repeat (first | refine r_then ?_ | refine r_blk ?_)
    exact q_ret (v := .bool _) rfl rfl ⟨_, rfl, vb (decide_eq_false (fun e => by rw [e] at hc10; exact hc10 rfl)).symm, H.under⟩
  · have hc10 : l.length = r.length := by simp at hc10; omega
    refine k_skip ?_
    refine k_seq ?_
    refine k_seq ?_
    refine k_region ?_
    refine s_run (w_none rfl) rfl (as_i rfl rfl) ?_
    refine l_nil ?_
    refine k_block ?_
    refine k_loop 11 [4, 5] (fun mm sl W => ∃ i : Nat, l.length - i = mm ∧ sl = [(5, .int .i64 (i : Int))] ∧ (i ≤ l.length) ∧ (l.take i = r.take i) ∧ St nT w W []) _ _ ⟨0, rfl, rfl, Nat.zero_le _, rfl, H⟩ ⟨rfl, trivial⟩ (fun mm sl ρv W hJ => ?_)
    clear H; obtain ⟨i, rfl, rfl, hi, ht, H⟩ := hJ
    refine k_one ?_
    refine k_seq ?_
    refine k_seq ?_
    refine k_region ?_
    refine s_run (w_none rfl) rfl (mv_i rfl rfl) ?_
    refine s_run (w_none rfl) rfl (mv_s rfl rfl) ?_
    refine s_run (w_none rfl) rfl (d_len rfl rfl tu26) ?_
    refine s_run (w_none rfl) rfl (d_lt rfl rfl rfl) ?_
    refine l_nil ?_
    refine k_cond rfl (fun hc14 => ?_) (fun hc14 => ?_)
    · replace hc14 := of_decide_eq_true hc14
      have hlt : i < l.length := by omega
      have hlt2 : i < r.length := by omega
      obtain ⟨g0, o0, rfl, -⟩ := hr1.2 (by omega)
      obtain ⟨x, hx⟩ := get_lt hlt
      have hX := hel i x hx
      obtain ⟨Ai, ci, Bi, di, hL, -, -, -⟩ := tx_of hX
      rw [hL] at hX
      obtain ⟨g1, o1, rfl, -⟩ := hr.2 (by omega)
      obtain ⟨y, hy⟩ := get_lt hlt2
      have hY := hes i y hy
      obtain ⟨Aj, cj, Bj, dj, hL2, -, -, -⟩ := tx_of hY
      rw [hL2] at hY
      refine k_skip ?_
      refine k_seq ?_
      refine k_block ?_
      refine k_seq ?_
      refine k_draw [(0, true), (1, true), (2, true), (3, true), (4, true), (5, true), (6, true), (7, true), (8, false), (9, true)] _ (by kernel_rfl) (by kernel_rfl) H (.refl _) ?_
      clear H; intro W H
      refine c_run rfl (w_none rfl) rfl (fun W H => mv_s rfl rfl) ?_
      refine c_run rfl (w_none rfl) rfl (fun W H => mv_i rfl rfl) ?_
      refine c_run rfl (w_none rfl) rfl (fun W H => d_iaG rfl (H.rd hr1) rfl rfl (q := i) rfl hlt tu26 ts44) ?_
      refine c_run rfl (w_none rfl) rfl (fun W H => d_ldEM (off := 0) rfl (H.rd hr1) hlt hL (sub_all (a := txC Ai x.ins.length ci Bi x.outs.length di x.lock) (m := 3) rfl) rfl rfl (by omega) ta44 ts44) ?_
      refine c_run rfl (w_none rfl) rfl (fun W H => mv_s rfl rfl) ?_
      refine c_run rfl (w_none rfl) rfl (fun W H => mv_i rfl rfl) ?_
      refine c_run rfl (w_none rfl) rfl (fun W H => d_iaG rfl (H.rd hr) rfl rfl (q := i) rfl hlt2 tu26 ts44) ?_
      refine c_run rfl (w_none rfl) rfl (fun W H => d_ldEM (off := 0) rfl (H.rd hr) hlt2 hL2 (sub_all (a := txC Aj y.ins.length cj Bj y.outs.length dj y.lock) (m := 3) rfl) rfl rfl (by omega) ta44 ts44) ?_
      refine c_eff rfl (e_call (w_none rfl) rfl rfl Tryd.func44 rfl rfl rfl (sameTx _ (keeps_Tx _ _ _ _ _ hX (fun g hg _ => H.fr.block g hg (fun h => h))) (keeps_Tx _ _ _ _ _ hY (fun g hg _ => H.fr.block g hg (fun h => h)))) ?_)
      rintro _ W ⟨rfl, hb⟩
      replace H := H.below hb
      clear hb
      refine ⟨H.sub (by repeat (first | exact List.Sublist.refl _ | exact List.nil_sublist _ | refine List.Sublist.cons_cons _ ?_ | refine List.Sublist.cons _ ?_)), ?_⟩
      refine c_run rfl (w_none rfl) rfl (fun W H => d_not rfl rfl) ?_
      refine c_nil ?_
      refine k_cond rfl (fun hc26 => ?_) (fun hc26 => ?_)
      · replace hc26 : ¬ x = y := by simpa using hc26
        refine k_seq ?_
        refine k_region ?_
        refine s_run (w_none rfl) rfl (as_b rfl rfl) ?_
        refine l_nil ?_
        refine k_ret ?_
        repeat (first | refine r_then ?_ | refine r_blk ?_)
        exact q_ret (v := .bool _) rfl rfl ⟨_, rfl, vb (decide_eq_false (ne_at hx hy hc26)).symm, H.under⟩
      · replace hc26 : x = y := by simpa using hc26
        refine k_skip ?_
        refine k_nil ?_
        refine b_end ?_
        refine k_region ?_
        refine s_run (w_none rfl) rfl (mv_i rfl rfl) ?_
        refine s_run (w_none rfl) rfl (d_add rfl rfl rfl (by omega)) ?_
        refine s_run (w_none rfl) rfl (as_i rfl rfl) ?_
        refine l_nil ?_
        refine k_nil ?_
        refine k_next ?_
        refine ⟨_, _, _, ?_, rfl, ?_, ?_, ⟨i + 1, rfl, rfl, by omega, take_eq_step ht hx (hc26 ▸ hy), H⟩⟩
        · omega
        · repeat (first | ((with_reducible refine Eqo.updl _ Eqo.ovr ?_); exact rfl) | ((with_reducible refine Eqo.updl _ (Eqo.ovr2 ?_ ?_) ?_); rotate_left; exact rfl; exact rfl) | ((with_reducible refine Eqo.upd ?_ ?_); rotate_left; exact rfl))
        · refine ⟨?_, trivial⟩
          · exact vi (by omega)
    · replace hc14 := of_decide_eq_false hc14
      refine k_exit ?_
      refine x_then (x_then ?_)
      refine x_hit ?_
      refine k_seq ?_
      refine k_region ?_
      refine s_run (w_none rfl) rfl (as_b rfl rfl) ?_
      refine l_nil ?_
      refine k_ret ?_
      repeat (first | refine r_then ?_ | refine r_blk ?_)
      obtain rfl : i = l.length := by omega
      exact q_ret (v := .bool _) rfl rfl ⟨_, rfl, vb (decide_eq_true (all_take (by omega) ht)).symm, H.under⟩

set_option maxHeartbeats 4000000 in
theorem sameBlock {S S1 : Nat → Prop} {A B : Option Addr} {c d : Nat} {a b : DBlock} (w : World) (hl : RL 3 RTx w S [.slice A a.txs.length c] a.txs) (hr : RL 3 RTx w S1 [.slice B b.txs.length d] b.txs) (hh : Bk.OkH a.header) (hk : Bk.OkH b.header) : Calls Tryd.prog 23 [.agg (blkC a.header A a.txs.length c).toArray, .agg (blkC b.header B b.txs.length d).toArray].toArray w (Ret (Is w (.bool (decide (a = b))))) := by
  refine k_enter (l := [_, _]) Tryd.func23 rfl rfl ?_
  have H := St.start nT w
  refine k_seq ?_
  refine k_region ?_
  refine s_eff (e_box (vs := (blkC a.header A a.txs.length c)) (w_none rfl) rfl rfl rfl rfl H ?_)
  clear H; intro ga W H
  refine s_eff (e_box (vs := (blkC b.header B b.txs.length d)) (w_none rfl) rfl rfl rfl rfl H ?_)
  clear H; intro gb W H
  refine s_run (w_none rfl) rfl (as_b rfl rfl) ?_
  refine l_nil ?_
  refine k_seq ?_
  rcases hb1 : beqHeader a.header b.header with _ | _
  · skip
    refine k_region ?_
    refine s_run (w_none rfl) rfl (d_fa rfl rfl tf28_0) ?_
    refine s_run (w_none rfl) rfl (d_ldXM (g := ga) (off := 0) rfl H (sub_b_hdr hh) (len_hdr hh) rfl rfl rfl ta25 ts25) ?_
    refine s_run (w_none rfl) rfl (d_fa rfl rfl tf28_0) ?_
    refine s_run (w_none rfl) rfl (d_ldXM (g := gb) (off := 0) rfl H (sub_b_hdr hk) (len_hdr hk) rfl rfl rfl ta25 ts25) ?_
    refine s_run (w_none rfl) rfl (d_eqst (r := beqHeader a.header b.header) rfl rfl rfl (eq_Header (d := 9997) (hdr_rep (W := w) (S := nT) hh) (hdr_rep (W := w) (S := nT) hk)) (by kernel_rfl)) ?_
    refine s_run (w_none rfl) rfl (mv_bx (c := false) rfl rfl (by rw [hb1])) ?_
    refine s_skip (w_gno rfl rfl rfl rfl rfl) rfl ?_
    refine s_skip (w_gno rfl rfl rfl rfl rfl) rfl ?_
    refine s_skip (w_gno rfl rfl rfl rfl rfl) rfl ?_
    refine s_skip (w_gno rfl rfl rfl rfl rfl) rfl ?_
    refine s_skip (w_gno rfl rfl rfl rfl rfl) rfl ?_
    refine s_run (w_none rfl) rfl (d_pickF rfl rfl rfl) ?_
    refine s_run (w_none rfl) rfl (as_b rfl rfl) ?_
    refine l_nil ?_
    refine k_ret ?_
    repeat (first | refine r_then ?_ | refine r_blk ?_)
    exact q_ret (v := .bool _) rfl rfl ⟨_, rfl, vb ((decide_eq_false (fun e => by rw [e, beqHeader_iff.2 rfl] at hb1; cases hb1)).symm), H.under⟩
  · skip
    refine k_region ?_
    refine s_run (w_none rfl) rfl (d_fa rfl rfl tf28_0) ?_
    refine s_run (w_none rfl) rfl (d_ldXM (g := ga) (off := 0) rfl H (sub_b_hdr hh) (len_hdr hh) rfl rfl rfl ta25 ts25) ?_
    refine s_run (w_none rfl) rfl (d_fa rfl rfl tf28_0) ?_
    refine s_run (w_none rfl) rfl (d_ldXM (g := gb) (off := 0) rfl H (sub_b_hdr hk) (len_hdr hk) rfl rfl rfl ta25 ts25) ?_
    refine s_run (w_none rfl) rfl (d_eqst (r := beqHeader a.header b.header) rfl rfl rfl (eq_Header (d := 9997) (hdr_rep (W := w) (S := nT) hh) (hdr_rep (W := w) (S := nT) hk)) (by kernel_rfl)) ?_
    refine s_run (w_none rfl) rfl (mv_bx (c := true) rfl rfl (by rw [hb1])) ?_
    refine s_run (w_g rfl rfl rfl rfl) rfl (d_fa rfl rfl tf28_1) ?_
    refine s_run (w_g rfl rfl rfl rfl) rfl (d_ldX (g := ga) (off := 65) rfl H (sub_b_txs hh) rfl rfl ta26) ?_
    refine s_run (w_g rfl rfl rfl rfl) rfl (d_fa rfl rfl tf28_1) ?_
    refine s_run (w_g rfl rfl rfl rfl) rfl (d_ldX (g := gb) (off := 65) rfl H (sub_b_txs hk) rfl rfl ta26) ?_
    refine s_eff (e_call (w_g rfl rfl rfl rfl) rfl rfl Tryd.func22 rfl rfl rfl (sameTxs _ (keeps_L keeps_Tx _ _ _ _ _ hl (fun g hg _ => H.fr.block g hg (fun h => h))) (keeps_L keeps_Tx _ _ _ _ _ hr (fun g hg _ => H.fr.block g hg (fun h => h)))) ?_)
    rintro _ W ⟨rfl, hb⟩
    replace H := H.below hb
    clear hb
    refine s_run (w_none rfl) rfl (d_pickT rfl rfl rfl) ?_
    refine s_run (w_none rfl) rfl (as_b rfl rfl) ?_
    refine l_nil ?_
    refine k_ret ?_
    repeat (first | refine r_then ?_ | refine r_blk ?_)
    exact q_ret (v := .bool _) rfl rfl ⟨_, rfl, vb (by
      have h1 := beqHeader_iff.1 hb1
      cases a; cases b
      simp_all), H.under⟩
end Go.Proofs.YtobcihaameofhaaDoor
