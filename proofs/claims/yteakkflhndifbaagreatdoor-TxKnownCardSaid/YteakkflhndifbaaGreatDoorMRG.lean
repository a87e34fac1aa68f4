/- Texts of this claim, laid together: K55, K56. -/
import Derived.Test.YteakkflhndifbaaGreatDoorMSP
import Derived.Test.YteakkflhndifbaaGreatDoorMR
set_option linter.unusedVariables false
set_option linter.unusedSimpArgs false

namespace Go.Proofs.YteakkflhndifbaaGreatDoor
open Go Go.RowKit
attribute [local irreducible] wpList

theorem spl_in {p : DPoint} {h : List UInt8} {n m c : Nat} {A : Option Addr} (hp : p.tx.length = 32) (hh : h.length = 32) : spl (inC p A m c) 0 (h.map u8v) = inC ⟨h, p.n⟩ A m c := by
 unfold inC pointC
 rw [spl_len _ _ _ (by simp; omega), List.take_zero, List.nil_append, Nat.zero_add]
 have hq : (p.tx.map u8v).length = 32 := by rw [List.length_map]; exact hp
 have e : ((p.tx.map u8v ++ [Value.int .i64 p.n]) ++ [Value.slice A m c]).drop (h.map u8v).length = [Value.int .i64 p.n, Value.slice A m c] := by
  rw [List.length_map, hh, List.append_assoc, ← hq, List.drop_left]; rfl
 rw [e]
 simp
theorem spl_n {p : DPoint} {v : Int} {m c : Nat} {A : Option Addr} (hp : p.tx.length = 32) : spl (inC p A m c) 32 [.int .i64 v] = inC ⟨p.tx, v⟩ A m c := by
 have hl : (p.tx.map u8v).length = 32 := by rw [List.length_map]; exact hp
 unfold inC pointC
 rw [spl_cons, spl_nil, List.append_assoc, List.set_append_right _ _ (by omega), hl]
 simp
theorem zs_snoc {ys : List Value} {i : Nat} {p : DPoint} (hl : ys.length = i * 34) (hp : p.tx.length = 32) (hz : ∀ k, k < i → sub ys (k * 34 + 33) 1 = [.slice none 0 0]) : ∀ k, k < i + 1 → sub (ys ++ inC p none 0 0) (k * 34 + 33) 1 = [.slice none 0 0] := fun k hk => by
 rcases Nat.lt_or_ge k i with h | h
 ·have := Nat.mul_le_mul_right 34 (show k + 1 ≤ i by omega)
  rw [Nat.add_mul] at this
  have e := hz k h
  unfold sub at e ⊢
  rw [List.drop_append_of_le_length (by omega), List.take_append_of_le_length (by rw [List.length_drop]; omega)]
  exact e
 ·obtain rfl : k = i := by omega
  exact (sub_skip (k := 33) (m := 1) hl).trans (sub_in_w hp)
theorem wz_step {xs : List Value} {i n : Nat} {v : Value} (hz : ∀ k, i ≤ k → k < n → sub xs (k * 34 + 33) 1 = [.slice none 0 0]) : ∀ k, i + 1 ≤ k → k < n → sub (xs.set (i * 34 + 33) v) (k * 34 + 33) 1 = [.slice none 0 0] := fun k h1 h2 => by
 rw [← sub_sub (a := k * 34) (m := 34) (b := 33) (k := 1) (by omega), sub_set_other (by decide) (by omega), sub_sub (by omega)]
 exact hz k (by omega) h2
/-- Rows and elements as one transaction. -/
theorem St.tojoin {T : Nat → Prop} {w W : World} {L : List Fact} {eI eO : Nat} {A B : Option Addr} {c d : Nat} {xs ys : List Value} {S0 S1 : Nat → Prop} {t : DTx} (H : St T w W (Fact.row eI 34 (.slice A t.ins.length c) t.ins.length xs :: Fact.els RIn 34 S0 xs t.ins :: Fact.row eO 2 (.slice B t.outs.length d) t.outs.length ys :: Fact.els ROut 2 S1 ys t.outs :: L)) (hk : I64 t.lock) : ∃ S, St T w W (Fact.rep RTx S (txC A t.ins.length c B t.outs.length d t.lock) t :: L) := by
 have H3 := (H.tolist.perm (.trans (.swap _ _ _) (.cons _ (.swap _ _ _)))).tolist.perm (.swap _ _ _)
 exact ⟨_, St.join H3 (fun S2 h1 h2 => tx_rep h1 h2 hk)⟩

set_option maxHeartbeats 4000000 in
theorem refRead07 {S : Nat → Prop} {r c : Nat} {A : Option Addr} {b : List UInt8} (w : World) (hR : (RefR 124 r A c b (b, 0)).p w) (hB : Bs w S (.slice A b.length c) b) (hS : ∀ g, S g → ¬ g = r) (hl : b.length ≤ 1000000000000) : Calls Tryz.prog 79 [.pointer (some ⟨r, 0, none⟩)].toArray w (Ret (fun v' w' => ∃ SR A1 c1 B1 d1, v' = .agg (txC A1 (Tx.G1 b).1.length c1 B1 (Tx.G2 b).1.length d1 ((Tx.G3 b).1 : Int)).toArray ∧ St (· = r) w w' [Fact.rep RTx SR (txC A1 (Tx.G1 b).1.length c1 B1 (Tx.G2 b).1.length d1 ((Tx.G3 b).1 : Int)) (Tx.gotTx b), RefR 124 r A c b (Tx.GW b (Tx.G1 b).1.length).2])) := by
 have H0 := St.begin (f := RefR 124 r A c b (b, 0)) hR (fun g hg => by cases hg; exact refR_lt hR)
 have hok0 : Pk.Ok (b, 0) := ⟨fun h => absurd rfl h, (show (0 : Int) ≤ 0 by decide), (show (0 : Int) ≤ 24 by decide)⟩
 have hok1 : Pk.Ok (Tx.G1 b).2 := (sane_list Tx.sane_in).2 _ hok0
 have hok2 : Pk.Ok (Tx.G2 b).2 := (sane_list Tx.sane_out).2 _ hok1
 have hok3 : Pk.Ok (Tx.G3 b).2 := Pk.ok_rInt hok2
 have hcb := count_bound (m := 8) (s := (b, 0)) (by decide)
 have hlr : (Tx.G1 b).1.length = (Pk.rCount 8 (b, 0)).1 := len_rMany _ _
 have hcb2 := count_bound (m := 8) (s := (Tx.G1 b).2) (by decide)
 have hlr2 : (Tx.G2 b).1.length = (Pk.rCount 8 (Tx.G1 b).2).1 := len_rMany _ _
 refine k_enter (l := [_]) Tryz.func79 rfl rfl ?_
 have H := H0
 refine k_seq (k_region (s_eff (e_alloc (w_none rfl) rfl rfl [.slice none 0 0, .slice none 0 0, .int .i64 0] tz26 H ?_)))
 clear H; intro go W H
 refine l_nil (k_seq (k_region (s_eff (e_alloc (w_none rfl) rfl rfl [.slice none 0 0, .slice none 0 0, .int .i64 0] tz26 H ?_))))
 clear H; intro gt W H
 refine l_nil (k_seq (k_region (sMp rfl rfl rfl rfl (sC rfl rfl rfl Tryz.func106 rfl rfl rfl (refRdCount (m := 8) _ (H.get (f := RefR 124 r A c b (b, 0))) hok0 (H.bsT hB hS) hS hl) ?_))))
 rintro _ W ⟨rfl, hp_, hf_⟩
 replace H := H.mut (f := RefR 124 r A c b (b, 0)) (f' := RefR 124 r A c b (Pk.rCount 8 (b, 0)).2) hf_ hp_ (fun _ h => h)
 clear hp_ hf_
 refine sAi rfl rfl rfl rfl (l_nil (k_seq (k_seq (k_region (sAi rfl rfl rfl rfl (l_nil (k_block (k_loop 15 [5, 6] (fun mm sl W => ∃ i : Nat, ∃ A2 : Option Addr, ∃ c2 : Nat, ∃ ys : List Value, ∃ S2 : Nat → Prop, (Pk.rCount 8 (b, 0)).1 - i = mm ∧ sl = [(5, .int .i64 (i : Int))] ∧ (i ≤ (Pk.rCount 8 (b, 0)).1) ∧ (i ≤ c2 ∧ c2 ≤ 9223372036854775807) ∧ (∀ k, k < i → sub ys (k * 34 + 33) 1 = [.slice none 0 0]) ∧ St (· = r) w W [Fact.row 34 34 (.slice A2 i c2) i (ys), Fact.els RIn 34 S2 ys (rMany Tx.rIn i (Pk.rCount 8 (b, 0)).2).1, Fact.blk gt (txC A2 i c2 none 0 0 0) 26, Fact.blk go (txC none 0 0 none 0 0 0) 26, RefR 124 r A c b (rMany Tx.rIn i (Pk.rCount 8 (b, 0)).2).2]) _ _ ⟨0, none, 0, [], (fun _ => False), rfl, rfl, Nat.zero_le _, ⟨Nat.le_refl _, by omega⟩, fun k hk => absurd hk (by omega), ((H.els0 RIn 34).nilrow 34 34)⟩ ⟨rfl, trivial⟩ (fun mm sl ρv W hJ => ?_)))))))))
 clear H; obtain ⟨i, A2, c2, ys, S2, rfl, rfl, hi, hd, hz, H⟩ := hJ
 refine k_one (k_seq (k_seq (k_region (sMi rfl rfl rfl rfl (sMi rfl rfl rfl rfl (sR rfl rfl (d_lt rfl rfl rfl) (l_nil (k_cond rfl (fun hc17 => ?_) (fun hc17 => ?_)))))))))
 ·replace hc17 := of_decide_eq_true hc17
  have hlt : i < (Pk.rCount 8 (b, 0)).1 := by omega
  have hoki := (sane_many Tx.sane_in i).2 _ (Pk.ok_rCount (m := 8) hok0)
  have hp : (Tx.rIn (rMany Tx.rIn i (Pk.rCount 8 (b, 0)).2).2).1.point.tx.length = 32 := Pk.len_rBytes
  have hyl : ys.length = i * 34 := by have := (H.get (f := Fact.els RIn 34 S2 ys (rMany Tx.rIn i (Pk.rCount 8 (b, 0)).2).1)).1; rwa [len_rMany] at this
  refine k_skip (k_seq (k_block (k_seq (k_region (s_eff (e_alloc (w_none rfl) rfl rfl (inC zPt none 0 0) tzIn H ?_))))))
  clear H; intro gx W H
  refine l_nil (k_seq (k_region (sMp rfl rfl rfl rfl (sC rfl rfl rfl Tryz.func107 rfl rfl rfl (refRdHash _ (H.get (f := RefR 124 r A c b (rMany Tx.rIn i (Pk.rCount 8 (b, 0)).2).2)) hoki (H.bsT hB hS) hS hl) ?_))))
  rintro _ W ⟨rfl, hp_, hf_⟩
  replace H := H.mut (f := RefR 124 r A c b (rMany Tx.rIn i (Pk.rCount 8 (b, 0)).2).2) (f' := RefR 124 r A c b (Pk.rBytes 32 (rMany Tx.rIn i (Pk.rCount 8 (b, 0)).2).2).2) hf_ hp_ (fun _ h => h)
  clear hp_ hf_
  refine sR rfl rfl (d_fa rfl rfl tf34_0) (sR rfl rfl (d_fa rfl rfl tf31_0) (s_eff (e_stoK (inC ⟨(Pk.rBytes 32 (rMany Tx.rIn i (Pk.rCount 8 (b, 0)).2).2).1, 0⟩ none 0 0) (w_none rfl) rfl rfl rfl rfl rfl ts29 (by rw [List.length_map]; exact hp) (all_u8L _) H (by rw [len_in (p := zPt) rfl]; decide) (spl_in (p := zPt) (n := 0) rfl hp) ?_)))
  clear H; intro W H
  refine l_nil (k_seq (k_region (sMp rfl rfl rfl rfl (sC rfl rfl rfl Tryz.func108 rfl rfl rfl (refRdInt _ (H.get (f := RefR 124 r A c b (Pk.rBytes 32 (rMany Tx.rIn i (Pk.rCount 8 (b, 0)).2).2).2)) (Pk.ok_next hoki) (H.bsT hB hS) hS hl) ?_))))
  rintro _ W ⟨rfl, hp_, hf_⟩
  replace H := H.mut (f := RefR 124 r A c b (Pk.rBytes 32 (rMany Tx.rIn i (Pk.rCount 8 (b, 0)).2).2).2) (f' := RefR 124 r A c b (Tx.rIn (rMany Tx.rIn i (Pk.rCount 8 (b, 0)).2).2).2) hf_ hp_ (fun _ h => h)
  clear hp_ hf_
  refine sR rfl rfl (d_fa rfl rfl tf34_0) (sR rfl rfl (d_fa rfl rfl tf31_1) (s_eff (e_stoK (v := .int .i64 ((Pk.rInt (Pk.rBytes 32 (rMany Tx.rIn i (Pk.rCount 8 (b, 0)).2).2).2).1 : Int)) (vs := [.int .i64 ((Pk.rInt (Pk.rBytes 32 (rMany Tx.rIn i (Pk.rCount 8 (b, 0)).2).2).2).1 : Int)]) (inC (Tx.rIn (rMany Tx.rIn i (Pk.rCount 8 (b, 0)).2).2).1.point none 0 0) (w_none rfl) rfl rfl rfl rfl rfl ts3 rfl rfl H (by rw [len_in (p := ⟨(Pk.rBytes 32 (rMany Tx.rIn i (Pk.rCount 8 (b, 0)).2).2).1, 0⟩) hp]; decide) (spl_n (p := ⟨(Pk.rBytes 32 (rMany Tx.rIn i (Pk.rCount 8 (b, 0)).2).2).1, 0⟩) hp) ?_)))
  clear H; intro W H
  refine l_nil (k_region (sR rfl rfl (d_fa rfl rfl tf26_0) (sR rfl rfl (d_ldX (g := gt) (off := 0) rfl H rfl rfl rfl ta23) (sR rfl rfl (d_ldXM (g := gx) (off := 0) rfl H (sub_all (len_in hp)) (len_in hp) rfl rfl rfl ta34 ts34) (s_eff (e_bsl (xs := [.tmp 30]) (vals := [.agg (inC (Tx.rIn (rMany Tx.rIn i (Pk.rCount 8 (b, 0)).2).2).1.point none 0 0).toArray]) (vs := (inC (Tx.rIn (rMany Tx.rIn i (Pk.rCount 8 (b, 0)).2).2).1.point none 0 0)) (w_none rfl) rfl rfl rfl rfl rfl rfl tu23 ts34 ty34 rfl (by simp [agg_cells, len_in hp]) (by simp [agg_cells]) H ?_))))))
  clear H; intro g8 W H
  refine s_eff (e_app (w_none rfl) rfl rfl tu23 tx34 rfl rfl rfl H (rd_blk (m := 1) (H.blk (g := g8)) (len_in hp)) (in_one) (by omega) rfl ?_)
  clear H; intro A1 c1 W hc1 hd1 H
  replace H := H.drop
  refine sR rfl rfl (d_fa rfl rfl tf26_0) (s_eff (e_stoK (v := .slice A1 (i + 1) c1) (vs := [.slice A1 (i + 1) c1]) (txC A1 (i + 1) c1 none 0 0 0) (w_none rfl) rfl rfl rfl rfl rfl ts23 rfl rfl H (Nat.le_of_ble_eq_true rfl) rfl ?_))
  clear H; intro W H
  refine l_nil ?_
  replace H := H.drop
  replace H := H.flat (R := RIn) (cs := inC (Tx.rIn (rMany Tx.rIn i (Pk.rCount 8 (b, 0)).2).2).1.point none 0 0) (a := (Tx.rIn (rMany Tx.rIn i (Pk.rCount 8 (b, 0)).2).2).1) (in_rep (w := []) hp Tx.int_ok rl_nil)
  replace H := (St.elsnoc (H.perm (.cons _ (.swap _ _ _))) (len_in hp)).perm (.swap _ _ _)
  refine k_nil (b_end (k_region (sMi rfl rfl rfl rfl (sR rfl rfl (d_add rfl rfl rfl (by omega)) (sAi rfl rfl rfl rfl (l_nil (k_nil (k_next ?_))))))))
  refine ⟨_, _, _, ?_, rfl, ?_, ?_, ⟨i + 1, A1, c1, _, _, rfl, rfl, by omega, ⟨hc1, hd1⟩, zs_snoc hyl hp hz, H⟩⟩
  ·omega
  ·repeat (first | (with_reducible refine .updl _ .ovr ?_); exact rfl | (with_reducible refine .updl _ (.ovr2 ?_ ?_) ?_); rotate_left; exact rfl; exact rfl | (with_reducible refine .upd ?_ ?_); rotate_left; exact rfl)
  ·refine ⟨?_, trivial⟩
   ·exact vi (by omega)
 ·replace hc17 := of_decide_eq_false hc17
  obtain rfl : i = (Pk.rCount 8 (b, 0)).1 := by omega
  replace H : St (· = r) w W [Fact.row 34 34 (.slice A2 (Tx.G1 b).1.length c2) (Tx.G1 b).1.length (ys), Fact.els RIn 34 S2 ys (Tx.G1 b).1, Fact.blk gt (txC A2 (Tx.G1 b).1.length c2 none 0 0 0) 26, Fact.blk go (txC none 0 0 none 0 0 0) 26, RefR 124 r A c b (Tx.G1 b).2] := by rw [hlr]; exact H
  rw [← hlr] at hz hd
  refine k_exit (x_then (x_then ?_))
  refine x_hit (k_seq (k_region (sMp rfl rfl rfl rfl (sC rfl rfl rfl Tryz.func106 rfl rfl rfl (refRdCount (m := 8) _ (H.get (f := RefR 124 r A c b (Tx.G1 b).2)) hok1 (H.bsT hB hS) hS hl) ?_))))
  rintro _ W ⟨rfl, hp_, hf_⟩
  replace H := H.mut (f := RefR 124 r A c b (Tx.G1 b).2) (f' := RefR 124 r A c b (Pk.rCount 8 (Tx.G1 b).2).2) hf_ hp_ (fun _ h => h)
  clear hp_ hf_
  refine sAi rfl rfl rfl rfl (l_nil (k_seq (k_seq (k_region (sAi rfl rfl rfl rfl (l_nil (k_block (k_loop 36 [8, 9] (fun mm sl W => ∃ j : Nat, ∃ B2 : Option Addr, ∃ d2 : Nat, ∃ zs : List Value, ∃ S3 : Nat → Prop, (Pk.rCount 8 (Tx.G1 b).2).1 - j = mm ∧ sl = [(8, .int .i64 (j : Int))] ∧ (j ≤ (Pk.rCount 8 (Tx.G1 b).2).1) ∧ (j ≤ d2 ∧ d2 ≤ 9223372036854775807) ∧ St (· = r) w W [Fact.row 37 2 (.slice B2 j d2) j (zs), Fact.els ROut 2 S3 zs (rMany Tx.rOut j (Pk.rCount 8 (Tx.G1 b).2).2).1, Fact.row 34 34 (.slice A2 (Tx.G1 b).1.length c2) (Tx.G1 b).1.length (ys), Fact.els RIn 34 S2 ys (Tx.G1 b).1, Fact.blk gt (txC A2 (Tx.G1 b).1.length c2 B2 j d2 0) 26, Fact.blk go (txC none 0 0 none 0 0 0) 26, RefR 124 r A c b (rMany Tx.rOut j (Pk.rCount 8 (Tx.G1 b).2).2).2]) _ _ ⟨0, none, 0, [], (fun _ => False), rfl, rfl, Nat.zero_le _, ⟨Nat.le_refl _, by omega⟩, ((H.els0 ROut 2).nilrow 37 2)⟩ ⟨rfl, trivial⟩ (fun mm sl ρv W hJ => ?_)))))))))
  clear H; obtain ⟨j, B2, d2, zs, S3, rfl, rfl, hj, he, H⟩ := hJ
  refine k_one (k_seq (k_seq (k_region (sMi rfl rfl rfl rfl (sMi rfl rfl rfl rfl (sR rfl rfl (d_lt rfl rfl rfl) (l_nil (k_cond rfl (fun hc38 => ?_) (fun hc38 => ?_)))))))))
  ·replace hc38 := of_decide_eq_true hc38
   have hltj : j < (Pk.rCount 8 (Tx.G1 b).2).1 := by omega
   have hokj := (sane_many Tx.sane_out j).2 _ (Pk.ok_rCount (m := 8) hok1)
   refine k_skip (k_seq (k_block (k_seq (k_region (s_eff (e_alloc (w_none rfl) rfl rfl [.int .i64 0, .slice none 0 0] tz37 H ?_))))))
   clear H; intro gy W H
   refine l_nil (k_seq (k_region (sMp rfl rfl rfl rfl (sC rfl rfl rfl Tryz.func108 rfl rfl rfl (refRdInt _ (H.get (f := RefR 124 r A c b (rMany Tx.rOut j (Pk.rCount 8 (Tx.G1 b).2).2).2)) hokj (H.bsT hB hS) hS hl) ?_))))
   rintro _ W ⟨rfl, hp_, hf_⟩
   replace H := H.mut (f := RefR 124 r A c b (rMany Tx.rOut j (Pk.rCount 8 (Tx.G1 b).2).2).2) (f' := RefR 124 r A c b (Pk.rInt (rMany Tx.rOut j (Pk.rCount 8 (Tx.G1 b).2).2).2).2) hf_ hp_ (fun _ h => h)
   clear hp_ hf_
   refine sR rfl rfl (d_fa rfl rfl tf37_0) (s_eff (e_stoK (v := .int .i64 (Tx.rOut (rMany Tx.rOut j (Pk.rCount 8 (Tx.G1 b).2).2).2).1.value) (vs := [.int .i64 (Tx.rOut (rMany Tx.rOut j (Pk.rCount 8 (Tx.G1 b).2).2).2).1.value]) (outC (Tx.rOut (rMany Tx.rOut j (Pk.rCount 8 (Tx.G1 b).2).2).2).1.value none 0 0) (w_none rfl) rfl rfl rfl rfl rfl ts3 rfl rfl H (Nat.le_of_ble_eq_true rfl) rfl ?_))
   clear H; intro W H
   refine l_nil (k_seq (k_region (sMp rfl rfl rfl rfl (sC rfl rfl rfl Tryz.func109 rfl rfl rfl (refRdBlob (m := 256) _ (H.get (f := RefR 124 r A c b (Pk.rInt (rMany Tx.rOut j (Pk.rCount 8 (Tx.G1 b).2).2).2).2)) (Pk.ok_rInt hokj) (H.bsT hB hS) hS hl) ?_))))
   rintro _ W ⟨⟨A5, c5, rfl, hc5, hd5, hrow_, hown_, hfr_⟩, hp_⟩
   replace H := H.mutnew (f := RefR 124 r A c b (Pk.rInt (rMany Tx.rOut j (Pk.rCount 8 (Tx.G1 b).2).2).2).2) (f' := RefR 124 r A c b (Tx.rOut (rMany Tx.rOut j (Pk.rCount 8 (Tx.G1 b).2).2).2).2) (fn := Fact.row 5 1 (.slice A5 (Tx.rOut (rMany Tx.rOut j (Pk.rCount 8 (Tx.G1 b).2).2).2).1.script.length c5) (Tx.rOut (rMany Tx.rOut j (Pk.rCount 8 (Tx.G1 b).2).2).2).1.script.length ((Tx.rOut (rMany Tx.rOut j (Pk.rCount 8 (Tx.G1 b).2).2).2).1.script.map u8v)) hfr_ hp_ (fun _ h => h) hrow_ hown_
   clear hrow_ hown_ hfr_ hp_
   refine sR rfl rfl (d_fa rfl rfl tf37_1) (s_eff (e_stoK (v := .slice A5 (Tx.rOut (rMany Tx.rOut j (Pk.rCount 8 (Tx.G1 b).2).2).2).1.script.length c5) (vs := [.slice A5 (Tx.rOut (rMany Tx.rOut j (Pk.rCount 8 (Tx.G1 b).2).2).2).1.script.length c5]) (outC (Tx.rOut (rMany Tx.rOut j (Pk.rCount 8 (Tx.G1 b).2).2).2).1.value A5 (Tx.rOut (rMany Tx.rOut j (Pk.rCount 8 (Tx.G1 b).2).2).2).1.script.length c5) (w_none rfl) rfl rfl rfl rfl rfl ts35 rfl rfl H (Nat.le_of_ble_eq_true rfl) rfl ?_))
   clear H; intro W H
   refine l_nil (k_region (sR rfl rfl (d_fa rfl rfl tf26_1) (sR rfl rfl (d_ldX (g := gt) (off := 1) rfl H rfl rfl rfl ta24) (sR rfl rfl (d_ldm0 (g := gy) rfl H rfl ta37 ts37 rfl) (s_eff (e_bsl (xs := [.tmp 49]) (vals := [.agg (outC (Tx.rOut (rMany Tx.rOut j (Pk.rCount 8 (Tx.G1 b).2).2).2).1.value A5 (Tx.rOut (rMany Tx.rOut j (Pk.rCount 8 (Tx.G1 b).2).2).2).1.script.length c5).toArray]) (vs := (outC (Tx.rOut (rMany Tx.rOut j (Pk.rCount 8 (Tx.G1 b).2).2).2).1.value A5 (Tx.rOut (rMany Tx.rOut j (Pk.rCount 8 (Tx.G1 b).2).2).2).1.script.length c5)) (w_none rfl) rfl rfl rfl rfl rfl rfl tu24 ts37 ty37 rfl (by simp [agg_cells, outC]) (by simp [agg_cells]) H ?_))))))
   clear H; intro g9 W H
   refine s_eff (e_app (w_none rfl) rfl rfl tu24 tx37 rfl rfl rfl H (rd_blk (m := 1) (H.blk (g := g9)) rfl) (rfl) (by omega) rfl ?_)
   clear H; intro A7 c7 W hc7 hd7 H
   replace H := H.drop
   refine sR rfl rfl (d_fa rfl rfl tf26_1) (s_eff (e_stoK (v := .slice A7 (j + 1) c7) (vs := [.slice A7 (j + 1) c7]) (txC A2 (Tx.G1 b).1.length c2 A7 (j + 1) c7 0) (w_none rfl) rfl rfl rfl rfl rfl ts24 rfl rfl H (Nat.le_of_ble_eq_true rfl) rfl ?_))
   clear H; intro W H
   refine l_nil ?_
   replace H := (H.torb (l := (Tx.rOut (rMany Tx.rOut j (Pk.rCount 8 (Tx.G1 b).2).2).2).1.script) rfl).rerep (R' := ROut) (cs' := outC (Tx.rOut (rMany Tx.rOut j (Pk.rCount 8 (Tx.G1 b).2).2).2).1.value A5 (Tx.rOut (rMany Tx.rOut j (Pk.rCount 8 (Tx.G1 b).2).2).2).1.script.length c5) (b := (Tx.rOut (rMany Tx.rOut j (Pk.rCount 8 (Tx.G1 b).2).2).2).1) (fun h => by obtain ⟨v, e, hb⟩ := h; cases e; exact out_rep Tx.int_ok hb)
   replace H := (H.perm (.swap _ _ _)).drop
   replace H := (St.elsnoc (H.perm (.cons _ (.swap _ _ _))) rfl).perm (.swap _ _ _)
   refine k_nil (b_end (k_region (sMi rfl rfl rfl rfl (sR rfl rfl (d_add rfl rfl rfl (by omega)) (sAi rfl rfl rfl rfl (l_nil (k_nil (k_next ?_))))))))
   refine ⟨_, _, _, ?_, rfl, ?_, ?_, ⟨j + 1, A7, c7, _, _, rfl, rfl, by omega, ⟨hc7, hd7⟩, H⟩⟩
   ·omega
   ·repeat (first | (with_reducible refine .updl _ .ovr ?_); exact rfl | (with_reducible refine .updl _ (.ovr2 ?_ ?_) ?_); rotate_left; exact rfl; exact rfl | (with_reducible refine .upd ?_ ?_); rotate_left; exact rfl)
   ·refine ⟨?_, trivial⟩
    ·exact vi (by omega)
  ·replace hc38 := of_decide_eq_false hc38
   obtain rfl : j = (Pk.rCount 8 (Tx.G1 b).2).1 := by omega
   replace H : St (· = r) w W [Fact.row 37 2 (.slice B2 (Tx.G2 b).1.length d2) (Tx.G2 b).1.length (zs), Fact.els ROut 2 S3 zs (Tx.G2 b).1, Fact.row 34 34 (.slice A2 (Tx.G1 b).1.length c2) (Tx.G1 b).1.length (ys), Fact.els RIn 34 S2 ys (Tx.G1 b).1, Fact.blk gt (txC A2 (Tx.G1 b).1.length c2 B2 (Tx.G2 b).1.length d2 0) 26, Fact.blk go (txC none 0 0 none 0 0 0) 26, RefR 124 r A c b (Tx.G2 b).2] := by rw [hlr2]; exact H
   refine k_exit (x_then (x_then ?_))
   refine x_hit (k_seq (k_region (sMp rfl rfl rfl rfl (sC rfl rfl rfl Tryz.func108 rfl rfl rfl (refRdInt _ (H.get (f := RefR 124 r A c b (Tx.G2 b).2)) hok2 (H.bsT hB hS) hS hl) ?_))))
   rintro _ W ⟨rfl, hp_, hf_⟩
   replace H := H.mut (f := RefR 124 r A c b (Tx.G2 b).2) (f' := RefR 124 r A c b (Tx.G3 b).2) hf_ hp_ (fun _ h => h)
   clear hp_ hf_
   refine sR rfl rfl (d_fa rfl rfl tf26_2) (s_eff (e_stoK (v := .int .i64 ((Tx.G3 b).1 : Int)) (vs := [.int .i64 ((Tx.G3 b).1 : Int)]) (txC A2 (Tx.G1 b).1.length c2 B2 (Tx.G2 b).1.length d2 ((Tx.G3 b).1 : Int)) (w_none rfl) rfl rfl rfl rfl rfl ts3 rfl rfl H (Nat.le_of_ble_eq_true rfl) rfl ?_))
   clear H; intro W H
   refine l_nil (k_seq (k_seq (k_region (sAi rfl rfl rfl rfl (l_nil (k_block (k_loop 56 [10, 11, 12] (fun mm sl W => ∃ i : Nat, ∃ xs : List Value, ∃ S5 : Nat → Prop, (Tx.G1 b).1.length - i = mm ∧ sl = [(10, .int .i64 (i : Int))] ∧ (i ≤ (Tx.G1 b).1.length) ∧ (∀ k, i ≤ k → k < (Tx.G1 b).1.length → sub xs (k * 34 + 33) 1 = [.slice none 0 0]) ∧ St (· = r) w W [Fact.row 34 34 (.slice A2 (Tx.G1 b).1.length c2) (Tx.G1 b).1.length (xs), Fact.els RIn 34 S5 xs (Tx.insAt b i), Fact.row 37 2 (.slice B2 (Tx.G2 b).1.length d2) (Tx.G2 b).1.length (zs), Fact.els ROut 2 S3 zs (Tx.G2 b).1, Fact.blk gt (txC A2 (Tx.G1 b).1.length c2 B2 (Tx.G2 b).1.length d2 ((Tx.G3 b).1 : Int)) 26, Fact.blk go (txC none 0 0 none 0 0 0) 26, RefR 124 r A c b (Tx.GW b i).2]) _ _ ⟨0, ys, S2, rfl, rfl, Nat.zero_le _, fun k _ hk => hz k (by omega), (by rw [Tx.insAt_0]; exact H.perm (List.perm_append_comm (l₁ := [_, _]) (l₂ := [_, _]) |>.append_right _))⟩ ⟨rfl, trivial⟩ (fun mm sl ρv W hJ => ?_))))))))
   clear H; obtain ⟨i, xs, S5, rfl, rfl, hi, hz, H⟩ := hJ
   refine k_one (k_seq (k_seq (k_region (sMi rfl rfl rfl rfl (sMi rfl rfl rfl rfl (sR rfl rfl (d_lt rfl rfl rfl) (l_nil (k_cond rfl (fun hc58 => ?_) (fun hc58 => ?_)))))))))
   ·replace hc58 := of_decide_eq_true hc58
    have hlt : i < (Tx.G1 b).1.length := by omega
    obtain ⟨x, hx⟩ := get_lt hlt
    obtain ⟨g1, rfl⟩ := row_own (H.get (f := Fact.row 34 34 (.slice A2 (Tx.G1 b).1.length c2) (Tx.G1 b).1.length (xs))) (by omega)
    have hels := H.get (f := Fact.els RIn 34 S5 xs (Tx.insAt b i))
    obtain ⟨Ax, cx, hL, hW9, hp, hn9⟩ := in_of (hels.2 i x (by rw [Tx.insAt_get hi]; exact hx))
    have hxl : xs.length = (Tx.G1 b).1.length * 34 := by have := hels.1; rwa [Tx.insAt_len hi] at this
    have hmul := Nat.mul_le_mul_right 34 (show i + 1 ≤ (Tx.G1 b).1.length by omega)
    rw [Nat.add_mul] at hmul
    have hoki := (sane_many Tx.sane_wit i).2 _ hok3
    have hcb3 := count_bound (m := 16) (s := (Tx.GW b i).2) (by decide)
    have hsame : (xs.set (i * 34 + 33) (.slice none 0 0)) = xs := by
     have e := sub_get (hz i (Nat.le_refl _) hlt)
     apply List.ext_getElem?
     intro q
     rcases Decidable.em (q = i * 34 + 33) with rfl | hq
     ·rw [List.getElem?_set_self (by omega), e]
     ·rw [List.getElem?_set_ne (fun h => hq h.symm)]
    refine k_skip (k_seq (k_block (k_seq (k_region (sMp rfl rfl rfl rfl (sC rfl rfl rfl Tryz.func106 rfl rfl rfl (refRdCount (m := 16) _ (H.get (f := RefR 124 r A c b (Tx.GW b i).2)) hoki (H.bsT hB hS) hS hl) ?_))))))
    rintro _ W ⟨rfl, hp_, hf_⟩
    replace H := H.mut (f := RefR 124 r A c b (Tx.GW b i).2) (f' := RefR 124 r A c b (Pk.rCount 16 (Tx.GW b i).2).2) hf_ hp_ (fun _ h => h)
    clear hp_ hf_
    refine sAi rfl rfl rfl rfl (l_nil (k_seq (k_region (sAi rfl rfl rfl rfl (l_nil (k_block (k_loop 63 [12] (fun mm sl W => ∃ j : Nat, ∃ A3 : Option Addr, ∃ c3 : Nat, ∃ ws : List Value, ∃ S4 : Nat → Prop, (Pk.rCount 16 (Tx.GW b i).2).1 - j = mm ∧ sl = [(12, .int .i64 (j : Int))] ∧ (j ≤ (Pk.rCount 16 (Tx.GW b i).2).1) ∧ (j ≤ c3 ∧ c3 ≤ 9223372036854775807) ∧ St (· = r) w W [Fact.row 35 1 (.slice A3 j c3) (j) ws, Fact.els RB 1 S4 ws (rMany (Pk.rBlob 64) j (Pk.rCount 16 (Tx.GW b i).2).2).1, Fact.row 34 34 (.slice (some ⟨g1, 0, none⟩) (Tx.G1 b).1.length c2) (Tx.G1 b).1.length (xs.set (i * 34 + 33) (.slice A3 (j) c3)), Fact.els RIn 34 S5 xs (Tx.insAt b i), Fact.row 37 2 (.slice B2 (Tx.G2 b).1.length d2) (Tx.G2 b).1.length (zs), Fact.els ROut 2 S3 zs (Tx.G2 b).1, Fact.blk gt (txC (some ⟨g1, 0, none⟩) (Tx.G1 b).1.length c2 B2 (Tx.G2 b).1.length d2 ((Tx.G3 b).1 : Int)) 26, Fact.blk go (txC none 0 0 none 0 0 0) 26, RefR 124 r A c b (rMany (Pk.rBlob 64) j (Pk.rCount 16 (Tx.GW b i).2).2).2]) _ _ ⟨0, none, 0, [], (fun _ => False), rfl, rfl, Nat.zero_le _, ⟨Nat.le_refl _, by omega⟩, (by rw [hsame]; exact ((H.els0 RB 1).nilrow 35 1))⟩ ⟨rfl, trivial⟩ (fun mm sl ρv W hJ => ?_))))))))
    clear H; obtain ⟨j, A3, c3, ws, S4, rfl, rfl, hj, he, H⟩ := hJ
    refine k_one (k_seq (k_seq (k_region (sMi rfl rfl rfl rfl (sMi rfl rfl rfl rfl (sR rfl rfl (d_lt rfl rfl rfl) (l_nil (k_cond rfl (fun hc65 => ?_) (fun hc65 => ?_)))))))))
    ·replace hc65 := of_decide_eq_true hc65
     have hltj : j < (Pk.rCount 16 (Tx.GW b i).2).1 := by omega
     have hokj := (sane_many (sane_blob (m := 64)) j).2 _ (Pk.ok_rCount (m := 16) hoki)
     have hL2 : sub (xs.set (i * 34 + 33) (.slice A3 j c3)) (i * 34) 34 = inC x.point A3 j c3 := by rw [sub_set_self (by decide), hL]; exact set_in_w hp
     refine k_skip (k_seq (k_block (k_cut 68 [] (fun sl W => ∃ A9 : Option Addr, ∃ c9 : Nat, ∃ ws9 : List Value, ∃ S9 : Nat → Prop, sl = [] ∧ (j + 1 ≤ c9) ∧ (c9 ≤ 9223372036854775807) ∧ St (· = r) w W [Fact.row 35 1 (.slice A9 (j + 1) c9) ((j + 1)) ws9, Fact.els RB 1 S9 ws9 (rMany (Pk.rBlob 64) (j + 1) (Pk.rCount 16 (Tx.GW b i).2).2).1, Fact.row 34 34 (.slice (some ⟨g1, 0, none⟩) (Tx.G1 b).1.length c2) (Tx.G1 b).1.length (xs.set (i * 34 + 33) (.slice A9 ((j + 1)) c9)), Fact.els RIn 34 S5 xs (Tx.insAt b i), Fact.row 37 2 (.slice B2 (Tx.G2 b).1.length d2) (Tx.G2 b).1.length (zs), Fact.els ROut 2 S3 zs (Tx.G2 b).1, Fact.blk gt (txC (some ⟨g1, 0, none⟩) (Tx.G1 b).1.length c2 B2 (Tx.G2 b).1.length d2 ((Tx.G3 b).1 : Int)) 26, Fact.blk go (txC none 0 0 none 0 0 0) 26, RefR 124 r A c b (Pk.rBlob 64 (rMany (Pk.rBlob 64) j (Pk.rCount 16 (Tx.GW b i).2).2).2).2]) ?_ (fun sl ρv W hJ => ?_))))
     ·skip
      refine k_drawT (.rd 0 (.rd 1 (.rd 2 (.rd 3 (.rd 4 (.rd 5 (.rd 6 (.rd 7 (.rd 9 (.many 6 [8, 10] fun j => (bif Nat.beq j 8 then (.ef 10 (.ef 11 (.ef 12 (.rd 13 (.rd 14 (.ef 15 .nil)))))) else (.many 5 [8, 11] fun j => (bif Nat.beq j 8 then (.ef 11 (.ef 12 (.rd 13 (.rd 14 (.ef 15 .nil))))) else (.ef 8 (.ef 12 (.rd 13 (.rd 14 (.ef 15 .nil)))))))))))))))))) [Fact.blk gt (txC (some ⟨g1, 0, none⟩) (Tx.G1 b).1.length c2 B2 (Tx.G2 b).1.length d2 ((Tx.G3 b).1 : Int)) 26] (by kernel_rfl) (by kernel_rfl) H (by repeat (first | exact .refl _ | exact List.nil_sublist _ | refine .cons_cons _ ?_ | refine .cons _ ?_)) ?_
      clear H; intro W H
      refine t_run rfl (w_none rfl) rfl (fun W H => d_fa rfl rfl tf26_0) (t_run rfl (w_none rfl) rfl (fun W H => d_ldX (g := gt) (off := 0) rfl H rfl rfl rfl ta23) (t_run rfl (w_none rfl) rfl (fun W H => mv_i rfl rfl) (t_run rfl (w_none rfl) rfl (fun W H => d_fa rfl rfl tf26_0) (t_run rfl (w_none rfl) rfl (fun W H => d_ldX (g := gt) (off := 0) rfl H rfl rfl rfl ta23) (t_run rfl (w_none rfl) rfl (fun W H => mv_i rfl rfl) (t_run rfl (w_none rfl) rfl (fun W H => d_iaP (q := i) rfl rfl rfl rfl hlt tu23 ts34) (t_run rfl (w_none rfl) rfl (fun W H => d_fa rfl rfl tf34_1) (t_run rfl (w_none rfl) rfl (fun W H => mv_p rfl rfl) (t_each ?_ ?_)))))))))
      ·skip
       refine t_eff rfl (e_run (w_none rfl) rfl (d_ldE (q := i) (off := 33) rfl (H.rowrd (A := (some ⟨g1, 0, none⟩))) hlt hL2 (sub_in_w hp) rfl rfl (by omega) ta32) ?_)
       refine ⟨_, fun _ h => h, H.sub (by repeat (first | exact .refl _ | exact List.nil_sublist _ | refine .cons_cons _ ?_ | refine .cons _ ?_)), ?_⟩
       refine t_eff rfl (e_call (w_none rfl) rfl rfl Tryz.func109 rfl rfl rfl (refRdBlob (m := 64) _ (H.get (f := RefR 124 r A c b (rMany (Pk.rBlob 64) j (Pk.rCount 16 (Tx.GW b i).2).2).2)) hokj (H.bsT hB hS) hS hl) ?_)
       rintro _ W ⟨⟨A5, c5, rfl, hc5, hd5, hrow_, hown_, hfr_⟩, hp_⟩
       replace H := H.mutnew (f := RefR 124 r A c b (rMany (Pk.rBlob 64) j (Pk.rCount 16 (Tx.GW b i).2).2).2) (f' := RefR 124 r A c b (Pk.rBlob 64 (rMany (Pk.rBlob 64) j (Pk.rCount 16 (Tx.GW b i).2).2).2).2) (fn := Fact.row 5 1 (.slice A5 (Pk.rBlob 64 (rMany (Pk.rBlob 64) j (Pk.rCount 16 (Tx.GW b i).2).2).2).1.length c5) (Pk.rBlob 64 (rMany (Pk.rBlob 64) j (Pk.rCount 16 (Tx.GW b i).2).2).2).1.length ((Pk.rBlob 64 (rMany (Pk.rBlob 64) j (Pk.rCount 16 (Tx.GW b i).2).2).2).1.map u8v)) hfr_ hp_ (fun _ h => h) hrow_ hown_
       clear hrow_ hown_ hfr_ hp_
       refine ⟨_, fun _ h => h, H.sub (by repeat (first | exact .refl _ | exact List.nil_sublist _ | refine .cons_cons _ ?_ | refine .cons _ ?_)), ?_⟩
       refine t_eff rfl (e_bsl (xs := [.tmp 78]) (vals := [.slice _ _ _]) (vs := [.slice _ _ _]) (w_none rfl) rfl rfl rfl rfl rfl rfl tu32 ts35 ty35 rfl rfl rfl H ?_)
       clear H; intro g7 W H
       refine ⟨_, fun _ h => h, H.sub (by repeat (first | exact .refl _ | exact List.nil_sublist _ | refine .cons_cons _ ?_ | refine .cons _ ?_)), ?_⟩
       refine t_eff rfl (e_app (w_none rfl) rfl rfl tu32 tx35 rfl rfl rfl H (rd_blk (m := 1) (H.blk (g := g7)) rfl) (rfl) (by omega) rfl ?_)
       clear H; intro A7 c7 W hc7 hd7 H
       replace H := H.drop
       refine ⟨_, fun _ h => h, H.sub (by repeat (first | exact .refl _ | exact List.nil_sublist _ | refine .cons_cons _ ?_ | refine .cons _ ?_)), ?_⟩
       refine t_run rfl (w_none rfl) rfl (fun W H => d_iaP (q := i) rfl rfl rfl rfl hlt tu23 ts34) (t_run rfl (w_none rfl) rfl (fun W H => d_fa rfl rfl tf34_1) (t_eff rfl (e_stoG (v := .slice A7 (j + 1) c7) (k := i * 34 + 33) (s := 34) (e := 34) (m := (Tx.G1 b).1.length) (c := c2) (w_none rfl) rfl rfl rfl (by omega) rfl rfl ts32 rfl H (by omega) ?_)))
       clear H; intro W H
       refine ⟨_, fun _ h => h, H.sub (by repeat (first | exact .refl _ | exact List.nil_sublist _ | refine .cons_cons _ ?_ | refine .cons _ ?_)), ?_⟩
       refine t_nil (k_nil (n_then ?_))
       replace H := H.torb (l := (Pk.rBlob 64 (rMany (Pk.rBlob 64) j (Pk.rCount 16 (Tx.GW b i).2).2).2).1) rfl
       replace H := (St.elsnoc (H.perm (.cons _ (.swap _ _ _))) rfl).perm (.swap _ _ _)
       rw [List.set_set] at H
       refine ⟨_, _, rfl, ?_, ?_, ⟨A7, c7, _, _, rfl, hc7, hd7, H⟩⟩
       ·repeat (first | with_reducible exact .refl | (with_reducible refine .updl _ (.ovr2 ?_ ?_) ?_); rotate_left; exact rfl; exact rfl | (with_reducible refine .upd ?_ ?_); rotate_left; exact rfl)
       ·exact trivial
      refine t_each ?_ ?_
      ·skip
       refine t_eff rfl (e_call (w_none rfl) rfl rfl Tryz.func109 rfl rfl rfl (refRdBlob (m := 64) _ (H.get (f := RefR 124 r A c b (rMany (Pk.rBlob 64) j (Pk.rCount 16 (Tx.GW b i).2).2).2)) hokj (H.bsT hB hS) hS hl) ?_)
       rintro _ W ⟨⟨A5, c5, rfl, hc5, hd5, hrow_, hown_, hfr_⟩, hp_⟩
       replace H := H.mutnew (f := RefR 124 r A c b (rMany (Pk.rBlob 64) j (Pk.rCount 16 (Tx.GW b i).2).2).2) (f' := RefR 124 r A c b (Pk.rBlob 64 (rMany (Pk.rBlob 64) j (Pk.rCount 16 (Tx.GW b i).2).2).2).2) (fn := Fact.row 5 1 (.slice A5 (Pk.rBlob 64 (rMany (Pk.rBlob 64) j (Pk.rCount 16 (Tx.GW b i).2).2).2).1.length c5) (Pk.rBlob 64 (rMany (Pk.rBlob 64) j (Pk.rCount 16 (Tx.GW b i).2).2).2).1.length ((Pk.rBlob 64 (rMany (Pk.rBlob 64) j (Pk.rCount 16 (Tx.GW b i).2).2).2).1.map u8v)) hfr_ hp_ (fun _ h => h) hrow_ hown_
       clear hrow_ hown_ hfr_ hp_
       refine ⟨_, fun _ h => h, H.sub (by repeat (first | exact .refl _ | exact List.nil_sublist _ | refine .cons_cons _ ?_ | refine .cons _ ?_)), ?_⟩
       refine t_each ?_ ?_
       ·skip
        refine t_eff rfl (e_run (w_none rfl) rfl (d_ldE (q := i) (off := 33) rfl (H.rowrd (A := (some ⟨g1, 0, none⟩))) hlt hL2 (sub_in_w hp) rfl rfl (by omega) ta32) ?_)
        refine ⟨_, fun _ h => h, H.sub (by repeat (first | exact .refl _ | exact List.nil_sublist _ | refine .cons_cons _ ?_ | refine .cons _ ?_)), ?_⟩
        refine t_eff rfl (e_bsl (xs := [.tmp 78]) (vals := [.slice _ _ _]) (vs := [.slice _ _ _]) (w_none rfl) rfl rfl rfl rfl rfl rfl tu32 ts35 ty35 rfl rfl rfl H ?_)
        clear H; intro g7 W H
        refine ⟨_, fun _ h => h, H.sub (by repeat (first | exact .refl _ | exact List.nil_sublist _ | refine .cons_cons _ ?_ | refine .cons _ ?_)), ?_⟩
        refine t_eff rfl (e_app (w_none rfl) rfl rfl tu32 tx35 rfl rfl rfl H (rd_blk (m := 1) (H.blk (g := g7)) rfl) (rfl) (by omega) rfl ?_)
        clear H; intro A7 c7 W hc7 hd7 H
        replace H := H.drop
        refine ⟨_, fun _ h => h, H.sub (by repeat (first | exact .refl _ | exact List.nil_sublist _ | refine .cons_cons _ ?_ | refine .cons _ ?_)), ?_⟩
        refine t_run rfl (w_none rfl) rfl (fun W H => d_iaP (q := i) rfl rfl rfl rfl hlt tu23 ts34) (t_run rfl (w_none rfl) rfl (fun W H => d_fa rfl rfl tf34_1) (t_eff rfl (e_stoG (v := .slice A7 (j + 1) c7) (k := i * 34 + 33) (s := 34) (e := 34) (m := (Tx.G1 b).1.length) (c := c2) (w_none rfl) rfl rfl rfl (by omega) rfl rfl ts32 rfl H (by omega) ?_)))
        clear H; intro W H
        refine ⟨_, fun _ h => h, H.sub (by repeat (first | exact .refl _ | exact List.nil_sublist _ | refine .cons_cons _ ?_ | refine .cons _ ?_)), ?_⟩
        refine t_nil (k_nil (n_then ?_))
        replace H := H.torb (l := (Pk.rBlob 64 (rMany (Pk.rBlob 64) j (Pk.rCount 16 (Tx.GW b i).2).2).2).1) rfl
        replace H := (St.elsnoc (H.perm (.cons _ (.swap _ _ _))) rfl).perm (.swap _ _ _)
        rw [List.set_set] at H
        refine ⟨_, _, rfl, ?_, ?_, ⟨A7, c7, _, _, rfl, hc7, hd7, H⟩⟩
        ·repeat (first | with_reducible exact .refl | (with_reducible refine .updl _ (.ovr2 ?_ ?_) ?_); rotate_left; exact rfl; exact rfl | (with_reducible refine .upd ?_ ?_); rotate_left; exact rfl)
        ·exact trivial
       refine t_each ?_ ?_
       ·skip
        refine t_eff rfl (e_bsl (xs := [.tmp 78]) (vals := [.slice _ _ _]) (vs := [.slice _ _ _]) (w_none rfl) rfl rfl rfl rfl rfl rfl tu32 ts35 ty35 rfl rfl rfl H ?_)
        clear H; intro g7 W H
        refine ⟨_, fun _ h => h, H.sub (by repeat (first | exact .refl _ | exact List.nil_sublist _ | refine .cons_cons _ ?_ | refine .cons _ ?_)), ?_⟩
        refine t_eff rfl (e_run (w_none rfl) rfl (d_ldE (q := i) (off := 33) rfl (H.rowrd (A := (some ⟨g1, 0, none⟩))) hlt hL2 (sub_in_w hp) rfl rfl (by omega) ta32) ?_)
        refine ⟨_, fun _ h => h, H.sub (by repeat (first | exact .refl _ | exact List.nil_sublist _ | refine .cons_cons _ ?_ | refine .cons _ ?_)), ?_⟩
        refine t_eff rfl (e_app (w_none rfl) rfl rfl tu32 tx35 rfl rfl rfl H (rd_blk (m := 1) (H.blk (g := g7)) rfl) (rfl) (by omega) rfl ?_)
        clear H; intro A7 c7 W hc7 hd7 H
        replace H := H.drop
        refine ⟨_, fun _ h => h, H.sub (by repeat (first | exact .refl _ | exact List.nil_sublist _ | refine .cons_cons _ ?_ | refine .cons _ ?_)), ?_⟩
        refine t_run rfl (w_none rfl) rfl (fun W H => d_iaP (q := i) rfl rfl rfl rfl hlt tu23 ts34) (t_run rfl (w_none rfl) rfl (fun W H => d_fa rfl rfl tf34_1) (t_eff rfl (e_stoG (v := .slice A7 (j + 1) c7) (k := i * 34 + 33) (s := 34) (e := 34) (m := (Tx.G1 b).1.length) (c := c2) (w_none rfl) rfl rfl rfl (by omega) rfl rfl ts32 rfl H (by omega) ?_)))
        clear H; intro W H
        refine ⟨_, fun _ h => h, H.sub (by repeat (first | exact .refl _ | exact List.nil_sublist _ | refine .cons_cons _ ?_ | refine .cons _ ?_)), ?_⟩
        refine t_nil (k_nil (n_then ?_))
        replace H := H.torb (l := (Pk.rBlob 64 (rMany (Pk.rBlob 64) j (Pk.rCount 16 (Tx.GW b i).2).2).2).1) rfl
        replace H := (St.elsnoc (H.perm (.cons _ (.swap _ _ _))) rfl).perm (.swap _ _ _)
        rw [List.set_set] at H
        refine ⟨_, _, rfl, ?_, ?_, ⟨A7, c7, _, _, rfl, hc7, hd7, H⟩⟩
        ·repeat (first | with_reducible exact .refl | (with_reducible refine .updl _ (.ovr2 ?_ ?_) ?_); rotate_left; exact rfl; exact rfl | (with_reducible refine .upd ?_ ?_); rotate_left; exact rfl)
        ·exact trivial
       exact t_none
      exact t_none
     clear H; obtain ⟨A9, c9, ws9, S9, rfl, hc9, hd9, H⟩ := hJ
     refine k_nil (b_end (k_region (sMi rfl rfl rfl rfl (sR rfl rfl (d_add rfl rfl rfl (by omega)) (sAi rfl rfl rfl rfl (l_nil (k_nil (k_next ?_))))))))
     refine ⟨_, _, _, ?_, rfl, ?_, ?_, ⟨j + 1, A9, c9, _, _, rfl, rfl, by omega, ⟨hc9, hd9⟩, H⟩⟩
     ·omega
     ·repeat (first | (with_reducible refine .updl _ .ovr ?_); exact rfl | (with_reducible refine .updl _ (.ovr2 ?_ ?_) ?_); rotate_left; exact rfl; exact rfl | (with_reducible refine .upd ?_ ?_); rotate_left; exact rfl)
     ·refine ⟨?_, trivial⟩
      ·exact vi (by omega)
    ·replace hc65 := of_decide_eq_false hc65
     obtain rfl : j = (Pk.rCount 16 (Tx.GW b i).2).1 := by omega
     have hwl : (Tx.rWit (Tx.GW b i).2).1.length = (Pk.rCount 16 (Tx.GW b i).2).1 := len_rMany _ _
     replace H : St (· = r) w W [Fact.row 35 1 (.slice A3 (Tx.rWit (Tx.GW b i).2).1.length c3) (Tx.rWit (Tx.GW b i).2).1.length ws, Fact.els RB 1 S4 ws (Tx.rWit (Tx.GW b i).2).1, Fact.row 34 34 (.slice (some ⟨g1, 0, none⟩) (Tx.G1 b).1.length c2) (Tx.G1 b).1.length (xs.set (i * 34 + 33) (.slice A3 (Tx.rWit (Tx.GW b i).2).1.length c3)), Fact.els RIn 34 S5 xs (Tx.insAt b i), Fact.row 37 2 (.slice B2 (Tx.G2 b).1.length d2) (Tx.G2 b).1.length (zs), Fact.els ROut 2 S3 zs (Tx.G2 b).1, Fact.blk gt (txC (some ⟨g1, 0, none⟩) (Tx.G1 b).1.length c2 B2 (Tx.G2 b).1.length d2 ((Tx.G3 b).1 : Int)) 26, Fact.blk go (txC none 0 0 none 0 0 0) 26, RefR 124 r A c b (Tx.rWit (Tx.GW b i).2).2] := by rw [hwl]; exact H
     replace H := H.tolist
     replace H := H.rerep (R' := RIn) (cs' := inC x.point A3 (Tx.rWit (Tx.GW b i).2).1.length c3) (b := ⟨x.point, (Tx.rWit (Tx.GW b i).2).1⟩) (fun h => in_rep hp hn9 h)
     replace H := els_set (i := i) (xs' := (xs.set (i * 34 + 33) (.slice A3 (Tx.rWit (Tx.GW b i).2).1.length c3))) (H.perm (.cons _ (List.perm_middle (l₁ := [_])))) (by rw [Tx.insAt_len hi]; exact hlt) (by rw [sub_set_self (by decide), hL]; exact set_in_w hp) (fun j hj hji => sub_set_other (by decide) hji) (by rw [List.length_set])
     replace H := H.perm (.swap _ _ _)
     refine k_exit (x_then (x_then ?_))
     refine x_hit (k_nil (b_end (k_region (sMi rfl rfl rfl rfl (sR rfl rfl (d_add rfl rfl rfl (by omega)) (sAi rfl rfl rfl rfl (l_nil (k_nil (k_next ?_)))))))))
     refine ⟨_, _, _, ?_, rfl, ?_, ?_, ⟨i + 1, (xs.set (i * 34 + 33) (.slice A3 (Tx.rWit (Tx.GW b i).2).1.length c3)), _, rfl, rfl, by omega, wz_step hz, by rw [Tx.insAt_step hx]; exact H⟩⟩
     ·omega
     ·repeat (first | (with_reducible refine .updl _ .ovr ?_); exact rfl | (with_reducible refine .updl _ (.ovr2 ?_ ?_) ?_); rotate_left; exact rfl; exact rfl | (with_reducible refine .upd ?_ ?_); rotate_left; exact rfl)
     ·refine ⟨?_, trivial⟩
      ·exact vi (by omega)
   ·replace hc58 := of_decide_eq_false hc58
    obtain rfl : i = (Tx.G1 b).1.length := by omega
    refine k_exit (x_then (x_then ?_))
    refine x_hit (k_seq (k_region (sR rfl rfl (d_ldm0 (g := gt) rfl H rfl ta26 ts26 rfl) (s_eff (e_stoK (txC A2 (Tx.G1 b).1.length c2 B2 (Tx.G2 b).1.length d2 ((Tx.G3 b).1 : Int)) (w_none rfl) rfl rfl rfl rfl rfl ts26 rfl rfl H (Nat.le_of_ble_eq_true rfl) rfl ?_)))))
    clear H; intro W H
    refine l_nil (k_ret ?_)
    repeat (first | refine r_then ?_ | refine r_blk ?_)
    have hgl : (Tx.gotTx b).ins.length = (Tx.G1 b).1.length := Tx.insAt_len (Nat.le_refl _)
    obtain ⟨SR, HR⟩ := St.tojoin (t := Tx.gotTx b) (by rw [hgl]; exact H) Tx.ok_got.2.2
    rw [hgl] at HR
    exact q_retc rfl (c := txC A2 (Tx.G1 b).1.length c2 B2 (Tx.G2 b).1.length d2 ((Tx.G3 b).1 : Int)) (g := go) H rfl ta26 ts26 ⟨_, rfl, SR, A2, c2, B2, d2, rfl, HR.sub (L' := [_, _]) (by repeat (first | exact .refl _ | exact List.nil_sublist _ | refine .cons_cons _ ?_ | refine .cons _ ?_))⟩
end Go.Proofs.YteakkflhndifbaaGreatDoor

namespace Go.Proofs.YteakkflhndifbaaGreatDoor
open Go Go.RowKit
attribute [local irreducible] wpList

/-- What a call of the reference's Get leaves. -/
def GotR (w : World) (b : List UInt8) (v : Value) (w' : World) : Prop := ∃ S A c B d, v = .tuple #[.agg (txC A (Tx.get b).1.ins.length c B (Tx.get b).1.outs.length d (Tx.get b).1.lock).toArray, .int .i64 (Tx.get b).2] ∧ St nT w w' [Fact.rep RTx S (txC A (Tx.get b).1.ins.length c B (Tx.get b).1.outs.length d (Tx.get b).1.lock) (Tx.get b).1]
theorem lt_of {T : Nat → Prop} {w0 W : World} {L : List Fact} {f : Fact} (H : St T w0 W L) [hi : In f L] : ∀ g, f.fp g → g < W.heap.size := fun g hg => (H.own f hi.mem g hg).2

set_option maxHeartbeats 4000000 in
theorem getTR {S : Nat → Prop} {v : Value} {b : List UInt8} (w : World) (hb : Bs w S v b) (hl : b.length ≤ 1000000000000) : Calls Tryz.prog 35 [v].toArray w (Ret (GotR w b)) := by
 have hb0 := hb
 obtain ⟨Ab, cb, rfl, _, _, _⟩ := hb.op
 have hok0 : Pk.Ok (b, 0) := ⟨fun h => absurd rfl h, (show (0 : Int) ≤ 0 by decide), (show (0 : Int) ≤ 24 by decide)⟩
 have hok3 : Pk.Ok (Tx.G3 b).2 := Pk.ok_rInt ((sane_list Tx.sane_out).2 _ ((sane_list Tx.sane_in).2 _ hok0))
 have hoke : Pk.Ok (Tx.GW b (Tx.G1 b).1.length).2 := (sane_many Tx.sane_wit _).2 _ hok3
 have hgl : (Tx.gotTx b).ins.length = (Tx.G1 b).1.length := Tx.insAt_len (Nat.le_refl _)
 refine k_enter (l := [_]) Tryz.func35 rfl rfl ?_
 have H := St.start nT w
 refine k_seq (k_region (s_eff (e_alloc (w_none rfl) rfl rfl [.slice none 0 0, .slice none 0 0, .int .i64 0] tz26 H ?_)))
 clear H; intro go W H
 refine sAi rfl rfl rfl rfl (l_nil (k_seq (k_region (sMs rfl rfl rfl rfl (sC rfl rfl rfl Tryz.func78 rfl rfl rfl (refRead (l := b) _ (H.bs hb0) hl) ?_)))))
 rintro _ W ⟨rr, AR, cR, rfl, hcR1, hcR2, hS⟩
 replace H := H.add2 hS
 clear hS
 have hSS : ∀ g, (Value.slice AR b.length cR).ownBlock = some g → ¬ g = rr := fun g hg ht => (List.pairwise_cons.1 H.apart).1 _ (.head _) g ht hg
 refine sR rfl rfl (as_p rfl rfl) (l_nil (k_seq (k_region (sMp rfl rfl rfl rfl (sC rfl rfl rfl Tryz.func79 rfl rfl rfl (refRead07 _ (H.get (f := RefR 124 rr AR cR b (b, 0))) (bs_own (H.get (f := Fact.row 5 1 (.slice AR b.length cR) b.length (b.map u8v))) rfl) hSS hl) ?_)))))
 rintro _ W ⟨SR, A1, c1, B1, d1, rfl, hK⟩
 replace H := H.mutK1 (f := RefR 124 rr AR cR b (b, 0)) (f' := RefR 124 rr AR cR b (Tx.GW b (Tx.G1 b).1.length).2) hK rfl
 clear hK
 refine s_eff (e_alloc (w_none rfl) rfl rfl [.slice none 0 0, .slice none 0 0, .int .i64 0] tz26 H ?_)
 clear H; intro gt W H
 refine s_eff (e_stoK (txC A1 (Tx.G1 b).1.length c1 B1 (Tx.G2 b).1.length d1 ((Tx.G3 b).1 : Int)) (w_none rfl) rfl rfl rfl rfl rfl ts26 rfl rfl H (by decide) rfl ?_)
 clear H; intro W H
 refine l_nil (k_seq (k_region (sMp rfl rfl rfl rfl (sC rfl rfl rfl Tryz.func80 rfl rfl rfl (refEnd _ (H.get (f := RefR 124 rr AR cR b (Tx.GW b (Tx.G1 b).1.length).2)) hoke hl) ?_))))
 rintro _ W ⟨rfl, hb⟩
 replace H := H.below hb
 clear hb
 refine sAi rfl rfl rfl rfl (l_nil (k_seq (k_seq (k_region (sMi rfl rfl rfl rfl (sR rfl rfl (d_eq rfl rfl rfl) (l_nil (k_cond rfl (fun hc14 => ?_) (fun hc14 => ?_)))))))))
 ·have he : Pk.rEnd (Tx.GW b (Tx.G1 b).1.length).2 = 0 := by simpa using hc14
  refine k_region (sR rfl rfl (d_ldm0 (g := gt) rfl H rfl ta26 ts26 rfl) (sC rfl rfl rfl Tryz.func49 rfl rfl rfl (checkTR (t := Tx.gotTx b) _ (H.rep1 (R := RTx) (S := SR) (cs := txC A1 (Tx.G1 b).1.length c1 B1 (Tx.G2 b).1.length d1 ((Tx.G3 b).1 : Int)) (a := Tx.gotTx b))) ?_))
  rintro _ W ⟨rfl, hb⟩
  replace H := H.below hb
  clear hb
  refine sAi rfl rfl rfl rfl (l_nil (k_seq (k_seq (k_region (sMi rfl rfl rfl rfl (sR rfl rfl (d_ne rfl rfl rfl) (l_nil (k_cond rfl (fun hc18 => ?_) (fun hc18 => ?_)))))))))
  ·have hne : ¬ Tx.chk (Tx.gotTx b) = 0 := by simpa using hc18
   refine k_seq (k_region (sR rfl rfl (d_build (vs := txC none 0 0 none 0 0 0) rfl (by kernel_rfl)) ?_))
   refine sMi rfl rfl rfl rfl (s_eff (e_stoK (txC none 0 0 none 0 0 0) (w_none rfl) rfl rfl rfl rfl rfl ts26 rfl rfl H (by decide) rfl ?_))
   clear H; intro W H
   refine sAi rfl rfl rfl rfl (l_nil (k_ret ?_))
   repeat (first | refine r_then ?_ | refine r_blk ?_)
   have hge : Tx.get b = (Tx.zero, Tx.chk (Tx.gotTx b)) := by rw [Tx.get_eq]; unfold Tx.fin; rw [if_pos he, if_neg hne]
   have HZ := ((H.flat (R := RTx) (cs := txC none 0 0 none 0 0 0) (a := Tx.zero) ⟨_, _, _, rfl, rl_nil, rl_nil, rfl, by decide, by decide⟩).sub (L' := [_]) (.cons_cons _ (List.nil_sublist _)))
   exact q_cell2 rfl (c := txC none 0 0 none 0 0 0) (g := go) (v := .int .i64 (Tx.chk (Tx.gotTx b))) H rfl ta26 ts26 rfl ⟨_, rfl, (fun _ => False), none, 0, none, 0, by rw [hge]; rfl, by rw [hge]; exact HZ⟩
  ·have hne : Tx.chk (Tx.gotTx b) = 0 := by simpa using hc18
   refine k_skip (k_seq (k_region (sR rfl rfl (d_ldm0 (g := gt) rfl H rfl ta26 ts26 rfl) (s_eff (e_stoK (txC A1 (Tx.G1 b).1.length c1 B1 (Tx.G2 b).1.length d1 ((Tx.G3 b).1 : Int)) (w_none rfl) rfl rfl rfl rfl rfl ts26 rfl rfl H (by decide) rfl ?_)))))
   clear H; intro W H
   refine sAi rfl rfl rfl rfl (l_nil (k_ret ?_))
   repeat (first | refine r_then ?_ | refine r_blk ?_)
   have hge : Tx.get b = (Tx.gotTx b, 0) := by rw [Tx.get_eq]; unfold Tx.fin; rw [if_pos he, if_pos hne]
   exact q_cell2 rfl (c := txC A1 (Tx.G1 b).1.length c1 B1 (Tx.G2 b).1.length d1 ((Tx.G3 b).1 : Int)) (g := go) (v := .int .i64 0) H rfl ta26 ts26 rfl ⟨_, rfl, SR, A1, c1, B1, d1, by rw [hge]; dsimp only; rw [hgl]; rfl, by rw [hge]; dsimp only; rw [hgl]; exact H.sub (L' := [Fact.rep RTx SR (txC A1 (Tx.G1 b).1.length c1 B1 (Tx.G2 b).1.length d1 ((Tx.G3 b).1 : Int)) (Tx.gotTx b)]) (by repeat (first | exact .refl _ | exact List.nil_sublist _ | refine .cons_cons _ ?_ | refine .cons _ ?_))⟩
 ·have he : ¬ Pk.rEnd (Tx.GW b (Tx.G1 b).1.length).2 = 0 := by simpa using hc14
  refine k_skip (k_seq (k_seq (k_region (sMi rfl rfl rfl rfl (sR rfl rfl (d_ne rfl rfl rfl) (l_nil (k_condT rfl (by simpa using he) ?_)))))))
  refine k_seq (k_region (sR rfl rfl (d_build (vs := txC none 0 0 none 0 0 0) rfl (by kernel_rfl)) ?_))
  refine sMi rfl rfl rfl rfl (s_eff (e_stoK (txC none 0 0 none 0 0 0) (w_none rfl) rfl rfl rfl rfl rfl ts26 rfl rfl H (by decide) rfl ?_))
  clear H; intro W H
  refine sAi rfl rfl rfl rfl (l_nil (k_ret ?_))
  repeat (first | refine r_then ?_ | refine r_blk ?_)
  have hge : Tx.get b = (Tx.zero, Pk.rEnd (Tx.GW b (Tx.G1 b).1.length).2) := by rw [Tx.get_eq]; unfold Tx.fin; rw [if_neg he]
  have HZ := ((H.flat (R := RTx) (cs := txC none 0 0 none 0 0 0) (a := Tx.zero) ⟨_, _, _, rfl, rl_nil, rl_nil, rfl, by decide, by decide⟩).sub (L' := [_]) (.cons_cons _ (List.nil_sublist _)))
  exact q_cell2 rfl (c := txC none 0 0 none 0 0 0) (g := go) (v := .int .i64 (Pk.rEnd (Tx.GW b (Tx.G1 b).1.length).2)) H rfl ta26 ts26 rfl ⟨_, rfl, (fun _ => False), none, 0, none, 0, by rw [hge]; rfl, by rw [hge]; exact HZ⟩

set_option maxHeartbeats 4000000 in
theorem txGets {S : Nat → Prop} {v : Value} {b : List UInt8} (w : World) (hG : Gat w 0 formsC) (hB : Old.Gl w) (hb : Bs w S v b) : Calls Tryz.prog 11 [v].toArray w (Ret (Is w (.bool true))) := by
 have hb0 := hb
 obtain ⟨Ab, cb, rfl, hcb1, hcb2, _⟩ := hb.op
 refine k_enter (l := [_]) Tryz.func11 rfl rfl ?_
 have H := St.start nT w
 refine k_seq (k_region (sAb rfl rfl rfl rfl (l_nil (k_seq (k_seq (k_region (sMs rfl rfl rfl rfl (sR rfl rfl (d_len rfl rfl tu35) (sR rfl rfl (d_gt rfl rfl rfl) (l_nil ?_))))))))))
 refine k_cond rfl (fun hc12 => ?_) (fun hc12 => ?_)
 ·skip
  refine k_seq (k_region (sC rfl rfl rfl Tryz.func13 rfl rfl rfl (works07 _ (H.gat hG) (H.gl hB)) ?_))
  rintro _ W ⟨rfl, hb⟩
  replace H := H.below hb
  clear hb
  refine sAb rfl rfl rfl rfl (l_nil (k_ret ?_))
  repeat (first | refine r_then ?_ | refine r_blk ?_)
  exact q_ret (v := .bool _) rfl rfl ⟨_, rfl, rfl, H.under⟩
 ·have hbl : b.length ≤ 16384 := by simp at hc12; omega
  refine k_skip (k_seq (k_region (sMs rfl rfl rfl rfl (sC rfl rfl rfl Tryz.func34 rfl rfl rfl (lentBytes _ _ _ (H.bs hb0) (by omega)) ?_))))
  rintro _ W ⟨A1, c1, rfl, hc1, hd1, hn⟩
  replace H := H.new hn
  clear hn
  refine sAs rfl rfl rfl rfl (l_nil (k_seq (k_region (sMs rfl rfl rfl rfl (sMs rfl rfl rfl rfl (sR rfl rfl (d_len rfl rfl tu35) (sR rfl rfl (d_cutP rfl rfl (h := b.length) rfl (by have := hc1; rw [List.length_append] at this; omega) rfl tu35 ts5) ?_)))))))
  refine sC rfl rfl rfl Tryz.func29 rfl rfl rfl (getTP _ (lent_pre (H.rowbs (A := A1) (l := b ++ marks 5) rfl) rfl) (by omega) (H.gat hG)) ?_
  rintro _ W hs_
  obtain ⟨Sg1, Ag1, cg1, Bg1, dg1, rfl, H1_⟩ := GotTx.z hs_ H (by omega)
  clear H hs_
  have H := H1_
  clear H1_
  refine sR rfl rfl (mv_t rfl rfl) (sR rfl rfl (d_ext rfl rfl rfl) (sR rfl rfl (d_ext rfl rfl rfl) (s_eff (e_alloc (w_none rfl) rfl rfl [.slice none 0 0, .slice none 0 0, .int .i64 0] tz26 H ?_))))
  clear H; intro g4 W H
  refine s_eff (e_stoK (txC Ag1 (Tx.get b).1.ins.length cg1 Bg1 (Tx.get b).1.outs.length dg1 (Tx.get b).1.lock) (w_none rfl) rfl rfl rfl rfl rfl ts26 rfl rfl H (by decide) rfl ?_)
  clear H; intro W H
  refine sAi rfl rfl rfl rfl (l_nil (k_seq (k_region (sMs rfl rfl rfl rfl (sMs rfl rfl rfl rfl (sR rfl rfl (d_len rfl rfl tu35) (sR rfl rfl (d_cutP rfl rfl (h := b.length) rfl (by have := hc1; rw [List.length_append] at this; omega) rfl tu35 ts5) ?_)))))))
  refine sC rfl rfl rfl Tryz.func29 rfl rfl rfl (getTP _ (lent_pre (H.rowbs (A := A1) (l := b ++ marks 5) rfl) rfl) (by omega) (H.gat hG)) ?_
  rintro _ W hs_
  obtain ⟨Sg2, Ag2, cg2, Bg2, dg2, rfl, H1_⟩ := GotTx.rep hs_ H
  clear H hs_
  have H := H1_
  clear H1_
  refine sR rfl rfl (mv_t rfl rfl) (sR rfl rfl (d_ext rfl rfl rfl) (sR rfl rfl (d_ext rfl rfl rfl) (s_eff (e_alloc (w_none rfl) rfl rfl [.slice none 0 0, .slice none 0 0, .int .i64 0] tz26 H ?_))))
  clear H; intro g5 W H
  refine s_eff (e_stoK (txC Ag2 (Tx.get b).1.ins.length cg2 Bg2 (Tx.get b).1.outs.length dg2 (Tx.get b).1.lock) (w_none rfl) rfl rfl rfl rfl rfl ts26 rfl rfl H (by decide) rfl ?_)
  clear H; intro W H
  refine sAi rfl rfl rfl rfl (l_nil (k_seq (k_region (sMs rfl rfl rfl rfl (sC rfl rfl rfl Tryz.func35 rfl rfl rfl (getTR _ (H.bs hb0) (by omega)) ?_)))))
  rintro _ W ⟨Sg3, Ag3, cg3, Bg3, dg3, rfl, hn_⟩
  replace H := H.add1 hn_
  clear hn_
  refine sR rfl rfl (mv_t rfl rfl) (sR rfl rfl (d_ext rfl rfl rfl) (sR rfl rfl (d_ext rfl rfl rfl) (s_eff (e_alloc (w_none rfl) rfl rfl [.slice none 0 0, .slice none 0 0, .int .i64 0] tz26 H ?_))))
  clear H; intro g6 W H
  refine s_eff (e_stoK (txC Ag3 (Tx.get b).1.ins.length cg3 Bg3 (Tx.get b).1.outs.length dg3 (Tx.get b).1.lock) (w_none rfl) rfl rfl rfl rfl rfl ts26 rfl rfl H (by decide) rfl ?_)
  clear H; intro W H
  refine sAi rfl rfl rfl rfl (l_nil (k_seq (k_seq (k_region (sMi rfl rfl rfl rfl (sMi rfl rfl rfl rfl (sR rfl rfl (d_ne rfl rfl rfl) (sR rfl rfl (mv_bx (c := false) rfl rfl (by simp)) ?_))))))))
  refine s_run (w_g rfl rfl rfl rfl) rfl (mv_i rfl rfl) (s_run (w_g rfl rfl rfl rfl) rfl (mv_i rfl rfl) (s_run (w_g rfl rfl rfl rfl) rfl (d_ne rfl rfl rfl) (sR rfl rfl (d_pickF rfl rfl rfl) (sR rfl rfl (mv_bx (c := false) rfl rfl (by simp)) ?_))))
  refine s_run (w_g rfl rfl rfl rfl) rfl (d_ldm0 (g := g4) rfl H rfl ta26 ts26 rfl) (s_run (w_g rfl rfl rfl rfl) rfl (d_ldm0 (g := g6) rfl H rfl ta26 ts26 rfl) (s_eff (e_call (w_g rfl rfl rfl rfl) rfl rfl Tryz.func28 rfl rfl rfl (sameTx (t := (Tx.get b).1) (u := (Tx.get b).1) _ (z_rep (eI := 34) (eO := 37) (S := Sg1) H) (H.rep1 (R := RTx) (S := Sg3) (cs := txC Ag3 (Tx.get b).1.ins.length cg3 Bg3 (Tx.get b).1.outs.length dg3 (Tx.get b).1.lock) (a := (Tx.get b).1))) ?_)))
  rintro _ W ⟨rfl, hb⟩
  replace H := H.below hb
  clear hb
  refine s_run (w_g rfl rfl rfl rfl) rfl (d_not rfl rfl) (sR rfl rfl (d_pickF rfl rfl rfl) (l_nil (k_condF rfl (by simp) ?_)))
  refine k_skip (k_seq (k_region (sR rfl rfl (d_ldm0 (g := g4) rfl H rfl ta26 ts26 rfl) (sC rfl rfl rfl Tryz.func36 rfl rfl rfl (spoilTx _ (H.get (f := Fact.z 34 37 Sg1 Ag1 cg1 Bg1 dg1 (Tx.get b).1)) (lt_of (f := Fact.z 34 37 Sg1 Ag1 cg1 Bg1 dg1 (Tx.get b).1) H)) ?_))))
  rintro _ W ⟨rfl, hf_⟩
  replace H := H.mut (f := Fact.z 34 37 Sg1 Ag1 cg1 Bg1 dg1 (Tx.get b).1) (f' := Fact.gone) hf_ trivial (fun _ h => h.elim)
  clear hf_
  refine l_nil (k_seq (k_region (sR rfl rfl (d_ldm0 (g := g5) rfl H rfl ta26 ts26 rfl) (sR rfl rfl (d_ldm0 (g := g6) rfl H rfl ta26 ts26 rfl) (sC rfl rfl rfl Tryz.func28 rfl rfl rfl (sameTx (t := (Tx.get b).1) (u := (Tx.get b).1) _ (H.rep1 (R := RTx) (S := Sg2) (cs := txC Ag2 (Tx.get b).1.ins.length cg2 Bg2 (Tx.get b).1.outs.length dg2 (Tx.get b).1.lock) (a := (Tx.get b).1)) (H.rep1 (R := RTx) (S := Sg3) (cs := txC Ag3 (Tx.get b).1.ins.length cg3 Bg3 (Tx.get b).1.outs.length dg3 (Tx.get b).1.lock) (a := (Tx.get b).1))) ?_)))))
  rintro _ W ⟨rfl, hb⟩
  replace H := H.below hb
  clear hb
  refine sR rfl rfl (mv_bx (c := true) rfl rfl (by simp)) ?_
  refine s_run (w_g rfl rfl rfl rfl) rfl (mv_s rfl rfl) (s_run (w_g rfl rfl rfl rfl) rfl (mv_s rfl rfl) (s_eff (e_call (w_g rfl rfl rfl rfl) rfl rfl Tryz.func37 rfl rfl rfl (kept _ (H.rowbs (A := A1) (l := b ++ marks 5) rfl) (H.bs hb0) rfl (by omega)) ?_)))
  rintro _ W ⟨rfl, hb⟩
  replace H := H.below hb
  clear hb
  refine sR rfl rfl (d_pickT rfl rfl rfl) (sR rfl rfl (mv_bx (c := true) rfl rfl (rfl)) (s_eff (e_call (w_g rfl rfl rfl rfl) rfl rfl Tryz.func13 rfl rfl rfl (works07 _ (H.gat hG) (H.gl hB)) ?_)))
  rintro _ W ⟨rfl, hb⟩
  replace H := H.below hb
  clear hb
  refine sR rfl rfl (d_pickT rfl rfl rfl) (sAb rfl rfl rfl rfl (l_nil (k_ret ?_)))
  repeat (first | refine r_then ?_ | refine r_blk ?_)
  exact q_ret (v := .bool _) rfl rfl ⟨_, rfl, rfl, H.under⟩
end Go.Proofs.YteakkflhndifbaaGreatDoor
