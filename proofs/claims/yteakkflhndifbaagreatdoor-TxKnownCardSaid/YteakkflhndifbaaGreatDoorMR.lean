/- Texts of this claim, laid together: K50, K51, K52. -/
import Derived.Test.YteakkflhndifbaaGreatDoorMW
import Derived.Test.YteakkflhndifbaaGreatDoorMOR
import Derived.Test.YteakkflhndifbaaGreatDoorMB
set_option linter.unusedVariables false
set_option linter.unusedSimpArgs false

namespace Go.Proofs.YteakkflhndifbaaGreatDoor
open Go Go.RowKit
attribute [local irreducible] wpList

def Tx.pts (l : List DIn) : List DPoint := l.map (·.point)
theorem Tx.pts_at {l : List DIn} {i : Nat} {x : DIn} (h : l[i]? = some x) : (Tx.pts l)[i]? = some x.point := by unfold Tx.pts; rw [List.getElem?_map, h]; rfl
/-- Up to i no point is twice. -/
def Tx.Apart (l : List DPoint) (i : Nat) : Prop := ∀ k j p, k < j → j < i → l[k]? = some p → l[j]? ≠ some p
theorem Tx.apart_end {l : List DPoint} (h : Tx.Apart l l.length) : Tx.twice l = false := by
 cases ht : Tx.twice l with
 | false => rfl
 | true =>
  obtain ⟨k, i, p, h1, h2, h3⟩ := Tx.twice_iff.1 ht
  exact absurd h3 (h k i p h1 (List.getElem?_eq_some_iff.1 h3).1 h2)
theorem Tx.apart_step {l : List DPoint} {i : Nat} {p : DPoint} (h : Tx.Apart l i) (hp : l[i]? = some p) (hk : ∀ k, k < i → l[k]? ≠ some p) : Tx.Apart l (i + 1) := fun k j q h1 h2 h3 h4 => by
 rcases Nat.lt_or_ge j i with h5 | h5
 ·exact h k j q h1 h5 h3 h4
 ·obtain rfl : j = i := by omega
  rw [hp] at h4
  cases h4
  exact hk k h1 h3

set_option maxHeartbeats 4000000 in
theorem twiceR {S : Nat → Prop} {v : Value} {l : List DIn} (w : World) (hl : RL 34 RIn w S [v] l) : Calls Tryz.prog 87 [v].toArray w (Ret (Is w (.bool (Tx.twice (l.map (·.point)))))) := by
 have hll := rl_len hl
 obtain ⟨A, c, xs, hv_, hcA_, hcmA_, hr, hel⟩ := hl
 obtain rfl : v = .slice A l.length c := by cases hv_; rfl
 refine k_enter (l := [_]) Tryz.func87 rfl rfl ?_
 have H := St.start nT w
 refine k_seq (k_region (sAb rfl rfl rfl rfl (l_nil (k_seq (k_seq (k_region (sAi rfl rfl rfl rfl (l_nil (k_block (k_loop 2 [] (fun mm sl W => ∃ i : Nat, l.length - i = mm ∧ sl = [(3, .int .i64 (i : Int))] ∧ (i ≤ l.length) ∧ (Tx.Apart (l.map (·.point)) i) ∧ St nT w W []) _ _ ⟨0, rfl, rfl, Nat.zero_le _, fun k j p h1 h2 => by omega, H⟩ ⟨rfl, trivial⟩ (fun mm sl ρv W hJ => ?_)))))))))))
 clear H; obtain ⟨i, rfl, rfl, hi_, hap, H⟩ := hJ
 refine k_one (k_seq (k_seq (k_region (sMi rfl rfl rfl rfl (sMs rfl rfl rfl rfl (sR rfl rfl (d_len rfl rfl tu23) (sR rfl rfl (d_lt rfl rfl rfl) (l_nil (k_cond rfl (fun hc8 => ?_) (fun hc8 => ?_))))))))))
 ·replace hc8 := of_decide_eq_true hc8
  have hlt : i < l.length := by omega
  obtain ⟨g0, o0, rfl, -⟩ := hr.2 (by omega)
  obtain ⟨x, hx⟩ := get_lt hlt
  obtain ⟨B2, d2, hL, hW, hp, hn⟩ := in_of (hel i x hx)
  refine k_skip (k_seq (k_block (k_seq (k_region (sAi rfl rfl rfl rfl (l_nil (k_block (k_loop 11 [2, 4] (fun mm sl W => ∃ k : Nat, i - k = mm ∧ sl = [(4, .int .i64 (k : Int))] ∧ (k ≤ i) ∧ (∀ j, j < k → (l.map (·.point))[j]? ≠ some x.point) ∧ St nT w W []) _ _ ⟨0, rfl, rfl, Nat.zero_le _, fun j hj => by omega, H⟩ ⟨rfl, trivial⟩ (fun mm sl ρv W hJ => ?_)))))))))
  clear H; obtain ⟨k, rfl, rfl, hk_, hno, H⟩ := hJ
  refine k_one (k_seq (k_seq (k_region (sMi rfl rfl rfl rfl (sMi rfl rfl rfl rfl (sR rfl rfl (d_lt rfl rfl rfl) (l_nil (k_cond rfl (fun hc13 => ?_) (fun hc13 => ?_)))))))))
  ·replace hc13 := of_decide_eq_true hc13
   have hltk : k < l.length := by omega
   obtain ⟨y, hy⟩ := get_lt hltk
   obtain ⟨B3, d3, hL2, hW2, hp2, hn2⟩ := in_of (hel k y hy)
   refine k_skip (k_seq (k_block (k_seq (k_draw [(0, true), (1, true), (2, true), (3, true), (4, true), (5, true), (6, true), (7, true), (8, true), (9, true), (10, true)] [] (by kernel_rfl) (by kernel_rfl) H (.refl _) ?_))))
   clear H; intro W H
   refine cR rfl rfl rfl (fun W H => mv_s rfl rfl) (cR rfl rfl rfl (fun W H => mv_i rfl rfl) (cR rfl rfl rfl (fun W H => d_iaG rfl (H.rd hr) rfl rfl (q := i) rfl hlt tu23 ts34) (cR rfl rfl rfl (fun W H => d_fa rfl rfl tf34_0) (cR rfl rfl rfl (fun W H => d_ldEM (off := 0) rfl (H.rd hr) hlt hL (sub_in_p hp) rfl rfl (by omega) ta31 ts31) (cR rfl rfl rfl (fun W H => mv_s rfl rfl) (cR rfl rfl rfl (fun W H => mv_i rfl rfl) (cR rfl rfl rfl (fun W H => d_iaG rfl (H.rd hr) rfl rfl (q := k) rfl hltk tu23 ts34) (cR rfl rfl rfl (fun W H => d_fa rfl rfl tf34_0) (cR rfl rfl rfl (fun W H => d_ldEM (off := 0) rfl (H.rd hr) hltk hL2 (sub_in_p hp2) rfl rfl (by omega) ta31 ts31) (cR rfl rfl rfl (fun W H => d_eqst (r := beqPoint x.point y.point) rfl rfl rfl (eq_Point (d := 9997) (point_rep (W := w) (S := nT) hp hn) (point_rep (W := w) (S := nT) hp2 hn2)) (by kernel_rfl)) ?_))))))))))
   refine c_nil (k_cond rfl (fun hc26 => ?_) (fun hc26 => ?_))
   ·skip
    refine k_seq (k_region (sAb rfl rfl rfl rfl (l_nil (k_ret ?_))))
    repeat (first | refine r_then ?_ | refine r_blk ?_)
    exact q_ret (v := .bool _) rfl rfl ⟨_, rfl, vb ((Tx.twice_iff.2 ⟨k, i, y.point, by omega, Tx.pts_at hy, by rw [← beqPoint_iff.1 hc26]; exact Tx.pts_at hx⟩).symm), H.under⟩
   ·skip
    refine k_skip (k_nil (b_end (k_region (sMi rfl rfl rfl rfl (sR rfl rfl (d_add rfl rfl rfl (by omega)) (sAi rfl rfl rfl rfl (l_nil (k_nil (k_next ?_)))))))))
    refine ⟨_, _, _, ?_, rfl, ?_, ?_, ⟨k + 1, rfl, rfl, by omega, (fun j hj => by
      rcases Nat.lt_or_ge j k with h | h
      ·exact hno j h
      ·obtain rfl : j = k := by omega
       intro e
       rw [show (l.map (·.point))[j]? = some y.point from Tx.pts_at hy] at e
       have e2 := Option.some.inj e
       rw [← e2, beqPoint_iff.2 rfl] at hc26
       cases hc26), H⟩⟩
    ·omega
    ·repeat (first | (with_reducible refine .updl _ .ovr ?_); exact rfl | (with_reducible refine .updl _ (.ovr2 ?_ ?_) ?_); rotate_left; exact rfl; exact rfl | (with_reducible refine .upd ?_ ?_); rotate_left; exact rfl)
    ·refine ⟨?_, trivial⟩
     ·exact vi (by omega)
  ·replace hc13 := of_decide_eq_false hc13
   refine k_exit (x_then (x_then ?_))
   refine x_hit (k_nil (b_end (k_region (sMi rfl rfl rfl rfl (sR rfl rfl (d_add rfl rfl rfl (by omega)) (sAi rfl rfl rfl rfl (l_nil (k_nil (k_next ?_)))))))))
   obtain rfl : i = k := by omega
   refine ⟨_, _, _, ?_, rfl, ?_, ?_, ⟨i + 1, rfl, rfl, by omega, Tx.apart_step hap (Tx.pts_at hx) hno, H⟩⟩
   ·omega
   ·repeat (first | (with_reducible refine .updl _ .ovr ?_); exact rfl | (with_reducible refine .updl _ (.ovr2 ?_ ?_) ?_); rotate_left; exact rfl; exact rfl | (with_reducible refine .upd ?_ ?_); rotate_left; exact rfl)
   ·refine ⟨?_, trivial⟩
    ·exact vi (by omega)
 ·replace hc8 := of_decide_eq_false hc8
  refine k_exit (x_then (x_then ?_))
  refine x_hit (k_seq ?_)
  obtain rfl : i = l.length := by omega
  rw [show l.length = (l.map (·.point)).length by simp] at hap
  refine k_region (sAb rfl rfl rfl rfl (l_nil (k_ret ?_)))
  repeat (first | refine r_then ?_ | refine r_blk ?_)
  exact q_ret (v := .bool _) rfl rfl ⟨_, rfl, vb ((Tx.apart_end hap).symm), H.under⟩

set_option maxHeartbeats 4000000 in
theorem rangedR {S : Nat → Prop} {v : Value} {l : List DOut} (w : World) (hl : RL 2 ROut w S [v] l) (hn8 : l.length ≤ 1000) : Calls Tryz.prog 88 [v].toArray w (Ret (Is w (.bool (Tx.valOk l)))) := by
 obtain ⟨A, c, xs, hv_, hcA_, hcmA_, hr, hel⟩ := hl
 obtain rfl : v = .slice A l.length c := by cases hv_; rfl
 refine k_enter (l := [_]) Tryz.func88 rfl rfl ?_
 have H := St.start nT w
 refine k_seq (k_region (sAb rfl rfl rfl rfl (l_nil (k_seq (k_region (sAi rfl rfl rfl rfl (l_nil (k_seq (k_seq (k_region ?_))))))))))
 refine sAi rfl rfl rfl rfl (l_nil (k_block (k_loop 2 [] (fun mm sl W => ∃ i : Nat, l.length - i = mm ∧ sl = [(4, .int .i64 (i : Int)), (3, .int .i64 (Tx.sum (l.take i)))] ∧ (i ≤ l.length) ∧ (∀ o ∈ l.take i, 1 ≤ o.value ∧ o.value ≤ 1125899906842624) ∧ St nT w W []) _ _ ⟨0, rfl, rfl, Nat.zero_le _, fun o h => by simp at h, H⟩ ⟨rfl, rfl, trivial⟩ (fun mm sl ρv W hJ => ?_))))
 clear H; obtain ⟨i, rfl, rfl, hi_, hv, H⟩ := hJ
 refine k_one (k_seq (k_seq (k_region (sMi rfl rfl rfl rfl (sMs rfl rfl rfl rfl (sR rfl rfl (d_len rfl rfl tu24) (sR rfl rfl (d_lt rfl rfl rfl) (l_nil (k_cond rfl (fun hc8 => ?_) (fun hc8 => ?_))))))))))
 ·replace hc8 := of_decide_eq_true hc8
  have hlt : i < l.length := by omega
  obtain ⟨g0, o0, rfl, -⟩ := hr.2 (by omega)
  obtain ⟨x, hx⟩ := get_lt hlt
  obtain ⟨B2, d2, hL, hB, hn⟩ := out_of (hel i x hx)
  have hsp := Tx.sum_pos (fun o ho => (hv o ho).1)
  have hsl := Tx.sum_le (fun o ho => (hv o ho).2)
  have htl : (l.take i).length ≤ 1000 := by rw [List.length_take]; omega
  refine k_skip (k_seq (k_block (k_seq (k_seq ?_))))
  rcases Int.lt_or_le x.value 1 with h1 | h1
  ·skip
   refine k_region (sMs rfl rfl rfl rfl (sMi rfl rfl rfl rfl (sR rfl rfl (d_iaG rfl (H.rd hr) rfl rfl (q := i) rfl hlt tu24 ts37) (sR rfl rfl (d_fa rfl rfl tf37_0) (sR rfl rfl (d_ldE (off := 0) rfl (H.rd hr) hlt hL rfl rfl rfl (by omega) ta3) (sR rfl rfl (d_lt rfl rfl rfl) (sR rfl rfl (mv_bx (c := true) rfl rfl (by simp; omega)) (s_skip (w_gno rfl rfl rfl rfl rfl) rfl (s_skip (w_gno rfl rfl rfl rfl rfl) rfl (s_skip (w_gno rfl rfl rfl rfl rfl) rfl ?_))))))))))
   refine s_skip (w_gno rfl rfl rfl rfl rfl) rfl (s_skip (w_gno rfl rfl rfl rfl rfl) rfl (s_skip (w_gno rfl rfl rfl rfl rfl) rfl (sR rfl rfl (d_pickT rfl rfl rfl) (l_nil (k_condT rfl rfl (k_seq (k_region (sAb rfl rfl rfl rfl (l_nil (k_ret ?_))))))))))
   repeat (first | refine r_then ?_ | refine r_blk ?_)
   exact q_ret (v := .bool _) rfl rfl ⟨_, rfl, vb ((Tx.val_out hx (.inl h1)).symm), H.under⟩
  ·skip
   refine k_region (sMs rfl rfl rfl rfl (sMi rfl rfl rfl rfl (sR rfl rfl (d_iaG rfl (H.rd hr) rfl rfl (q := i) rfl hlt tu24 ts37) (sR rfl rfl (d_fa rfl rfl tf37_0) (sR rfl rfl (d_ldE (off := 0) rfl (H.rd hr) hlt hL rfl rfl rfl (by omega) ta3) (sR rfl rfl (d_lt rfl rfl rfl) (sR rfl rfl (mv_bx (c := false) rfl rfl (by simp; omega)) (s_run (w_g rfl rfl rfl rfl) rfl (mv_s rfl rfl) (s_run (w_g rfl rfl rfl rfl) rfl (mv_i rfl rfl) (s_run (w_g rfl rfl rfl rfl) rfl (d_iaG rfl (H.rd hr) rfl rfl (q := i) rfl hlt tu24 ts37) ?_))))))))))
   refine s_run (w_g rfl rfl rfl rfl) rfl (d_fa rfl rfl tf37_0) (s_run (w_g rfl rfl rfl rfl) rfl (d_ldE (off := 0) rfl (H.rd hr) hlt hL rfl rfl rfl (by omega) ta3) (s_run (w_g rfl rfl rfl rfl) rfl (d_gt rfl rfl rfl) (sR rfl rfl (d_pickF rfl rfl rfl) (l_nil (k_cond rfl (fun hc24 => ?_) (fun hc24 => ?_))))))
   ·replace hc24 := of_decide_eq_true hc24
    refine k_seq (k_region (sAb rfl rfl rfl rfl (l_nil (k_ret ?_))))
    repeat (first | refine r_then ?_ | refine r_blk ?_)
    exact q_ret (v := .bool _) rfl rfl ⟨_, rfl, vb ((Tx.val_out hx (.inr (by omega))).symm), H.under⟩
   ·replace hc24 := of_decide_eq_false hc24
    refine k_skip (k_region (sMi rfl rfl rfl rfl (sMs rfl rfl rfl rfl (sMi rfl rfl rfl rfl (sR rfl rfl (d_iaG rfl (H.rd hr) rfl rfl (q := i) rfl hlt tu24 ts37) (sR rfl rfl (d_fa rfl rfl tf37_0) (sR rfl rfl (d_ldE (off := 0) rfl (H.rd hr) hlt hL rfl rfl rfl (by omega) ta3) (sR rfl rfl (d_add rfl rfl rfl (by omega)) (sAi rfl rfl rfl rfl (l_nil ?_))))))))))
    refine k_nil (b_end (k_region (sMi rfl rfl rfl rfl (sR rfl rfl (d_add rfl rfl rfl (by omega)) (sAi rfl rfl rfl rfl (l_nil (k_nil (k_next ?_))))))))
    have hst := Tx.sum_step hx
    refine ⟨_, _, _, ?_, rfl, ?_, ?_, ⟨i + 1, rfl, rfl, by omega, fun o ho => by
      rw [take_get hx] at ho
      rcases List.mem_append.1 ho with h | h
      ·exact hv o h
      ·obtain rfl : o = x := by simpa using h
       omega, H⟩⟩
    ·omega
    ·repeat (first | (with_reducible refine .updl _ .ovr ?_); exact rfl | (with_reducible refine .updl _ (.ovr2 ?_ ?_) ?_); rotate_left; exact rfl; exact rfl | (with_reducible refine .upd ?_ ?_); rotate_left; exact rfl)
    ·refine ⟨?_, ?_, trivial⟩
     ·exact vi (by omega)
     ·exact vi (by omega)
 ·replace hc8 := of_decide_eq_false hc8
  refine k_exit (x_then (x_then ?_))
  refine x_hit (k_seq ?_)
  obtain rfl : i = l.length := by omega
  rw [List.take_length] at hv ⊢
  refine k_region (sMi rfl rfl rfl rfl (sR rfl rfl (d_le rfl rfl rfl) (sAb rfl rfl rfl rfl (l_nil (k_ret ?_)))))
  repeat (first | refine r_then ?_ | refine r_blk ?_)
  exact q_ret (v := .bool _) rfl rfl ⟨_, rfl, vb ((Tx.val_sum hv).symm), H.under⟩

set_option maxHeartbeats 4000000 in
theorem longR {S : Nat → Prop} {cs : List Value} {t : DTx} (w : World) (ht : RTx w S cs t) : Calls Tryz.prog 89 [.agg cs.toArray].toArray w (Ret (Is w (.bool (Tx.long t)))) := by
 obtain ⟨A, c, B, d, rfl, hI, hO, hk⟩ := tx_of ht
 have hIl := rl_len hI
 have hOl := rl_len hO
 have hI0 := hI
 obtain ⟨A_, c_, xs, hv_, _, _, hr, hel⟩ := hI
 cases hv_
 have hO0 := hO
 obtain ⟨A_, c_, ys, hv_, _, _, hs, hes⟩ := hO
 cases hv_
 refine k_enter (l := [_]) Tryz.func89 rfl rfl ?_
 have H := St.start nT w
 refine k_seq (k_region (s_eff (e_box (vs := (txC A t.ins.length c B t.outs.length d t.lock)) (w_none rfl) rfl rfl rfl rfl H ?_)))
 clear H; intro gm W H
 refine sAb rfl rfl rfl rfl (l_nil (k_seq (k_seq (k_region (sAi rfl rfl rfl rfl (l_nil (k_block (k_loop 6 [2, 3] (fun mm sl W => ∃ i : Nat, t.outs.length - i = mm ∧ sl = [(3, .int .i64 (i : Int))] ∧ (i ≤ t.outs.length) ∧ ((t.outs.take i).any (fun o => decide (256 < o.script.length)) = false) ∧ St nT w W [Fact.blk gm (txC A t.ins.length c B t.outs.length d t.lock) 26]) _ _ ⟨0, rfl, rfl, Nat.zero_le _, rfl, H⟩ ⟨rfl, trivial⟩ (fun mm sl ρv W hJ => ?_)))))))))
 clear H; obtain ⟨i, rfl, rfl, hi_, hno, H⟩ := hJ
 refine k_one (k_seq (k_seq (k_region (sMi rfl rfl rfl rfl (sR rfl rfl (d_fa rfl rfl tf26_1) (sR rfl rfl (d_ld rfl H rfl ta24 rfl) (sR rfl rfl (d_len rfl rfl tu24) (sR rfl rfl (d_lt rfl rfl rfl) (l_nil (k_cond rfl (fun hc10 => ?_) (fun hc10 => ?_)))))))))))
 ·replace hc10 := of_decide_eq_true hc10
  have hlt : i < t.outs.length := by omega
  obtain ⟨g0, o0, rfl, -⟩ := hs.2 (by omega)
  obtain ⟨x, hx⟩ := get_lt hlt
  obtain ⟨B2, d2, hL, hB, hn⟩ := out_of (hes i x hx)
  refine k_skip (k_seq (k_block (k_seq (k_region (sR rfl rfl (d_fa rfl rfl tf26_1) (sR rfl rfl (d_ld rfl H rfl ta24 rfl) (sMi rfl rfl rfl rfl (sR rfl rfl (d_iaG rfl (H.rd hs) rfl rfl (q := i) rfl hlt tu24 ts37) (sR rfl rfl (d_fa rfl rfl tf37_1) (sR rfl rfl (d_ldE (off := 1) rfl (H.rd hs) hlt hL rfl rfl rfl (by omega) ta35) ?_))))))))))
  refine sR rfl rfl (d_len rfl rfl tu35) (sR rfl rfl (d_gt rfl rfl rfl) (l_nil (k_cond rfl (fun hc20 => ?_) (fun hc20 => ?_))))
  ·replace hc20 := of_decide_eq_true hc20
   refine k_seq (k_region (sAb rfl rfl rfl rfl (l_nil (k_ret ?_))))
   repeat (first | refine r_then ?_ | refine r_blk ?_)
   exact q_ret (v := .bool _) rfl rfl ⟨_, rfl, vb (by unfold Tx.long; rw [any_yes hx (decide_eq_true (by omega))]; rfl), H.under⟩
  ·replace hc20 : ¬ 256 < x.script.length := by have := of_decide_eq_false hc20; omega
   refine k_skip (k_nil (b_end (k_region (sMi rfl rfl rfl rfl (sR rfl rfl (d_add rfl rfl rfl (by omega)) (sAi rfl rfl rfl rfl (l_nil (k_nil (k_next ?_)))))))))
   refine ⟨_, _, _, ?_, rfl, ?_, ?_, ⟨i + 1, rfl, rfl, by omega, any_no hx hno (decide_eq_false hc20), H⟩⟩
   ·omega
   ·repeat (first | (with_reducible refine .updl _ .ovr ?_); exact rfl | (with_reducible refine .updl _ (.ovr2 ?_ ?_) ?_); rotate_left; exact rfl; exact rfl | (with_reducible refine .upd ?_ ?_); rotate_left; exact rfl)
   ·refine ⟨?_, trivial⟩
    ·exact vi (by omega)
 ·replace hc10 := of_decide_eq_false hc10
  obtain rfl : i = t.outs.length := by omega
  rw [List.take_length] at hno
  refine k_exit (x_then (x_then ?_))
  refine x_hit (k_seq (k_seq (k_region (sAi rfl rfl rfl rfl (l_nil (k_block (k_loop 21 [2, 4, 5] (fun mm sl W => ∃ i : Nat, t.ins.length - i = mm ∧ sl = [(4, .int .i64 (i : Int))] ∧ (i ≤ t.ins.length) ∧ ((t.ins.take i).any Tx.longX = false) ∧ St nT w W [Fact.blk gm (txC A t.ins.length c B t.outs.length d t.lock) 26]) _ _ ⟨0, rfl, rfl, Nat.zero_le _, rfl, H⟩ ⟨rfl, trivial⟩ (fun mm sl ρv W hJ => ?_))))))))
  clear H; obtain ⟨i, rfl, rfl, hi_, hni, H⟩ := hJ
  refine k_one (k_seq (k_seq (k_region (sMi rfl rfl rfl rfl (sR rfl rfl (d_fa rfl rfl tf26_0) (sR rfl rfl (d_ld rfl H rfl ta23 rfl) (sR rfl rfl (d_len rfl rfl tu23) (sR rfl rfl (d_lt rfl rfl rfl) (l_nil (k_cond rfl (fun hc25 => ?_) (fun hc25 => ?_)))))))))))
  ·replace hc25 := of_decide_eq_true hc25
   have hlt : i < t.ins.length := by omega
   obtain ⟨g0, o0, rfl, -⟩ := hr.2 (by omega)
   obtain ⟨x, hx⟩ := get_lt hlt
   obtain ⟨B2, d2, hL, hW, hp, hn⟩ := in_of (hel i x hx)
   have hwl := rl_len hW
   have hW0 := hW
   obtain ⟨A3_, c3_, zs, hv3_, _, _, hr3, hel3⟩ := hW
   cases hv3_
   refine k_skip (k_seq (k_block (k_seq (k_seq (k_region (sR rfl rfl (d_fa rfl rfl tf26_0) (sR rfl rfl (d_ld rfl H rfl ta23 rfl) (sMi rfl rfl rfl rfl (sR rfl rfl (d_iaG rfl (H.rd hr) rfl rfl (q := i) rfl hlt tu23 ts34) (sR rfl rfl (d_fa rfl rfl tf34_1) ?_))))))))))
   refine sR rfl rfl (d_ldE (off := 33) rfl (H.rd hr) hlt hL (sub_in_w hp) rfl rfl (by omega) ta32) (sR rfl rfl (d_len rfl rfl tu32) (sR rfl rfl (d_gt rfl rfl rfl) (l_nil (k_cond rfl (fun hc35 => ?_) (fun hc35 => ?_)))))
   ·replace hc35 := of_decide_eq_true hc35
    refine k_seq (k_region (sAb rfl rfl rfl rfl (l_nil (k_ret ?_))))
    repeat (first | refine r_then ?_ | refine r_blk ?_)
    exact q_ret (v := .bool _) rfl rfl ⟨_, rfl, vb (by unfold Tx.long; rw [any_yes (f := Tx.longX) hx (by unfold Tx.longX; rw [decide_eq_true (by omega)]; rfl), Bool.or_true]), H.under⟩
   ·replace hc35 := of_decide_eq_false hc35
    refine k_skip (k_seq (k_region (sAi rfl rfl rfl rfl (l_nil (k_block (k_loop 36 [2, 5] (fun mm sl W => ∃ k : Nat, x.wit.length - k = mm ∧ sl = [(5, .int .i64 (k : Int))] ∧ (k ≤ x.wit.length) ∧ ((x.wit.take k).any (fun b => decide (64 < b.length)) = false) ∧ St nT w W [Fact.blk gm (txC (some ⟨g0, o0, none⟩) t.ins.length c B t.outs.length d t.lock) 26]) _ _ ⟨0, rfl, rfl, Nat.zero_le _, rfl, H⟩ ⟨rfl, trivial⟩ (fun mm sl ρv W hJ => ?_)))))))
    clear H; obtain ⟨k, rfl, rfl, hk_, hnw, H⟩ := hJ
    refine k_one (k_seq (k_seq (k_region (sMi rfl rfl rfl rfl (sR rfl rfl (d_fa rfl rfl tf26_0) (sR rfl rfl (d_ld rfl H rfl ta23 rfl) (sMi rfl rfl rfl rfl (sR rfl rfl (d_iaG rfl (H.rd hr) rfl rfl (q := i) rfl hlt tu23 ts34) (sR rfl rfl (d_fa rfl rfl tf34_1) (sR rfl rfl (d_ldE (off := 33) rfl (H.rd hr) hlt hL (sub_in_w hp) rfl rfl (by omega) ta32) ?_))))))))))
    refine sR rfl rfl (d_len rfl rfl tu32) (sR rfl rfl (d_lt rfl rfl rfl) (l_nil (k_cond rfl (fun hc44 => ?_) (fun hc44 => ?_))))
    ·replace hc44 := of_decide_eq_true hc44
     have hltk : k < x.wit.length := by omega
     obtain ⟨g3, o3, rfl, -⟩ := hr3.2 (by omega)
     obtain ⟨y, hy⟩ := get_lt hltk
     obtain ⟨B4, d4, hL3, hB4⟩ := rb_of (hel3 k y hy)
     refine k_skip (k_seq (k_block (k_seq (k_region (sR rfl rfl (d_fa rfl rfl tf26_0) (sR rfl rfl (d_ld rfl H rfl ta23 rfl) (sMi rfl rfl rfl rfl (sR rfl rfl (d_iaG rfl (H.rd hr) rfl rfl (q := i) rfl hlt tu23 ts34) (sR rfl rfl (d_fa rfl rfl tf34_1) (sR rfl rfl (d_ldE (off := 33) rfl (H.rd hr) hlt hL (sub_in_w hp) rfl rfl (by omega) ta32) ?_))))))))))
     refine sMi rfl rfl rfl rfl (sR rfl rfl (d_iaG rfl (H.rd hr3) rfl rfl (q := k) rfl hltk tu32 ts35) (sR rfl rfl (d_ldE (off := 0) rfl (H.rd hr3) hltk hL3 rfl rfl rfl (by omega) ta35) (sR rfl rfl (d_len rfl rfl tu35) (sR rfl rfl (d_gt rfl rfl rfl) (l_nil (k_cond rfl (fun hc57 => ?_) (fun hc57 => ?_)))))))
     ·replace hc57 := of_decide_eq_true hc57
      refine k_seq (k_region (sAb rfl rfl rfl rfl (l_nil (k_ret ?_))))
      repeat (first | refine r_then ?_ | refine r_blk ?_)
      exact q_ret (v := .bool _) rfl rfl ⟨_, rfl, vb (by unfold Tx.long; rw [any_yes (f := Tx.longX) hx (by unfold Tx.longX; rw [any_yes hy (decide_eq_true (by omega)), Bool.or_true]), Bool.or_true]), H.under⟩
     ·replace hc57 : ¬ 64 < y.length := by have := of_decide_eq_false hc57; omega
      refine k_skip (k_nil (b_end (k_region (sMi rfl rfl rfl rfl (sR rfl rfl (d_add rfl rfl rfl (by omega)) (sAi rfl rfl rfl rfl (l_nil (k_nil (k_next ?_)))))))))
      refine ⟨_, _, _, ?_, rfl, ?_, ?_, ⟨k + 1, rfl, rfl, by omega, any_no hy hnw (decide_eq_false hc57), H⟩⟩
      ·omega
      ·repeat (first | (with_reducible refine .updl _ .ovr ?_); exact rfl | (with_reducible refine .updl _ (.ovr2 ?_ ?_) ?_); rotate_left; exact rfl; exact rfl | (with_reducible refine .upd ?_ ?_); rotate_left; exact rfl)
      ·refine ⟨?_, trivial⟩
       ·exact vi (by omega)
    ·replace hc44 := of_decide_eq_false hc44
     refine k_exit (x_then (x_then ?_))
     refine x_hit (k_nil (b_end (k_region (sMi rfl rfl rfl rfl (sR rfl rfl (d_add rfl rfl rfl (by omega)) (sAi rfl rfl rfl rfl (l_nil (k_nil (k_next ?_)))))))))
     obtain rfl : k = x.wit.length := by omega
     rw [List.take_length] at hnw
     refine ⟨_, _, _, ?_, rfl, ?_, ?_, ⟨i + 1, rfl, rfl, by omega, any_no hx hni (by unfold Tx.longX; rw [hnw, decide_eq_false (by omega)]; rfl), H⟩⟩
     ·omega
     ·repeat (first | (with_reducible refine .updl _ .ovr ?_); exact rfl | (with_reducible refine .updl _ (.ovr2 ?_ ?_) ?_); rotate_left; exact rfl; exact rfl | (with_reducible refine .upd ?_ ?_); rotate_left; exact rfl)
     ·refine ⟨?_, trivial⟩
      ·exact vi (by omega)
  ·replace hc25 := of_decide_eq_false hc25
   refine k_exit (x_then (x_then ?_))
   refine x_hit (k_seq ?_)
   obtain rfl : i = t.ins.length := by omega
   rw [List.take_length] at hni
   refine k_region (sAb rfl rfl rfl rfl (l_nil (k_ret ?_)))
   repeat (first | refine r_then ?_ | refine r_blk ?_)
   exact q_ret (v := .bool _) rfl rfl ⟨_, rfl, vb (by unfold Tx.long; rw [hno, hni]; rfl), H.under⟩
end Go.Proofs.YteakkflhndifbaaGreatDoor

namespace Go.Proofs.YteakkflhndifbaaGreatDoor
open Go Go.RowKit
attribute [local irreducible] wpList

set_option maxHeartbeats 4000000 in
theorem checkTR {S : Nat → Prop} {cs : List Value} {t : DTx} (w : World) (ht : RTx w S cs t) : Calls Tryz.prog 49 [.agg cs.toArray].toArray w (Ret (Is w (.int .i64 (Tx.chk t)))) := by
 obtain ⟨A, c, B, d, rfl, hI, hO, hk⟩ := tx_of ht
 have hIl := rl_len hI
 have hOl := rl_len hO
 have hI0 := hI
 obtain ⟨A_, c_, xs, hv_, _, _, hr, hel⟩ := hI
 cases hv_
 have hO0 := hO
 obtain ⟨A_, c_, ys, hv_, _, _, hs, hes⟩ := hO
 cases hv_
 refine k_enter (l := [_]) Tryz.func49 rfl rfl ?_
 have H := St.start nT w
 refine k_seq (k_region (s_eff (e_box (vs := (txC A t.ins.length c B t.outs.length d t.lock)) (w_none rfl) rfl rfl rfl rfl H ?_)))
 clear H; intro gm W H
 refine sAi rfl rfl rfl rfl (l_nil (k_seq (k_seq ?_)))
 rcases (show t.ins.length < 1 ∨ 8 < t.ins.length ∨ (1 ≤ t.ins.length ∧ t.ins.length ≤ 8 ∧ t.outs.length < 1) ∨ (1 ≤ t.ins.length ∧ t.ins.length ≤ 8 ∧ 8 < t.outs.length) ∨ (1 ≤ t.ins.length ∧ t.ins.length ≤ 8 ∧ 1 ≤ t.outs.length ∧ t.outs.length ≤ 8) by omega) with h1 | h1 | h1 | h1 | h1
 ·skip
  refine k_region (sR rfl rfl (d_fa rfl rfl tf26_0) (sR rfl rfl (d_ld rfl H rfl ta23 rfl) (sR rfl rfl (d_len rfl rfl tu23) (sR rfl rfl (d_lt rfl rfl rfl) (sR rfl rfl (mv_bx (c := true) rfl rfl (by simp; omega)) (s_skip (w_gno rfl rfl rfl rfl rfl) rfl (s_skip (w_gno rfl rfl rfl rfl rfl) rfl (s_skip (w_gno rfl rfl rfl rfl rfl) rfl (s_skip (w_gno rfl rfl rfl rfl rfl) rfl (sR rfl rfl (d_pickT rfl rfl rfl) ?_))))))))))
  refine sR rfl rfl (mv_bx (c := true) rfl rfl (by first | rfl | (simp; omega))) ?_
  refine s_skip (w_gno rfl rfl rfl rfl rfl) rfl (s_skip (w_gno rfl rfl rfl rfl rfl) rfl (s_skip (w_gno rfl rfl rfl rfl rfl) rfl (s_skip (w_gno rfl rfl rfl rfl rfl) rfl (sR rfl rfl (d_pickT rfl rfl rfl) (sR rfl rfl (mv_bx (c := true) rfl rfl (by first | rfl | (simp; omega))) ?_)))))
  refine s_skip (w_gno rfl rfl rfl rfl rfl) rfl (s_skip (w_gno rfl rfl rfl rfl rfl) rfl (s_skip (w_gno rfl rfl rfl rfl rfl) rfl (s_skip (w_gno rfl rfl rfl rfl rfl) rfl (sR rfl rfl (d_pickT rfl rfl rfl) (l_nil (k_condT rfl (by first | rfl | (simp; omega)) ?_))))))
  refine k_seq (k_region (sAi rfl rfl rfl rfl (l_nil (k_ret ?_))))
  repeat (first | refine r_then ?_ | refine r_blk ?_)
  exact q_ret (v := .int _ _) rfl rfl ⟨_, rfl, vi (by unfold Tx.chk; rw [if_pos (by omega)]), H.under⟩
 ·skip
  refine k_region (sR rfl rfl (d_fa rfl rfl tf26_0) (sR rfl rfl (d_ld rfl H rfl ta23 rfl) (sR rfl rfl (d_len rfl rfl tu23) (sR rfl rfl (d_lt rfl rfl rfl) (sR rfl rfl (mv_bx (c := false) rfl rfl (by simp; omega)) (s_run (w_g rfl rfl rfl rfl) rfl (d_fa rfl rfl tf26_0) (s_run (w_g rfl rfl rfl rfl) rfl (d_ld rfl H rfl ta23 rfl) (s_run (w_g rfl rfl rfl rfl) rfl (d_len rfl rfl tu23) (s_run (w_g rfl rfl rfl rfl) rfl (d_gt rfl rfl rfl) (sR rfl rfl (d_pickF rfl rfl rfl) ?_))))))))))
  refine sR rfl rfl (mv_bx (c := true) rfl rfl (by first | rfl | (simp; omega))) ?_
  refine s_skip (w_gno rfl rfl rfl rfl rfl) rfl (s_skip (w_gno rfl rfl rfl rfl rfl) rfl (s_skip (w_gno rfl rfl rfl rfl rfl) rfl (s_skip (w_gno rfl rfl rfl rfl rfl) rfl (sR rfl rfl (d_pickT rfl rfl rfl) (sR rfl rfl (mv_bx (c := true) rfl rfl (by first | rfl | (simp; omega))) ?_)))))
  refine s_skip (w_gno rfl rfl rfl rfl rfl) rfl (s_skip (w_gno rfl rfl rfl rfl rfl) rfl (s_skip (w_gno rfl rfl rfl rfl rfl) rfl (s_skip (w_gno rfl rfl rfl rfl rfl) rfl (sR rfl rfl (d_pickT rfl rfl rfl) (l_nil (k_condT rfl (by first | rfl | (simp; omega)) ?_))))))
  refine k_seq (k_region (sAi rfl rfl rfl rfl (l_nil (k_ret ?_))))
  repeat (first | refine r_then ?_ | refine r_blk ?_)
  exact q_ret (v := .int _ _) rfl rfl ⟨_, rfl, vi (by unfold Tx.chk; rw [if_pos (by omega)]), H.under⟩
 ·skip
  refine k_region (sR rfl rfl (d_fa rfl rfl tf26_0) (sR rfl rfl (d_ld rfl H rfl ta23 rfl) (sR rfl rfl (d_len rfl rfl tu23) (sR rfl rfl (d_lt rfl rfl rfl) (sR rfl rfl (mv_bx (c := false) rfl rfl (by simp; omega)) (s_run (w_g rfl rfl rfl rfl) rfl (d_fa rfl rfl tf26_0) (s_run (w_g rfl rfl rfl rfl) rfl (d_ld rfl H rfl ta23 rfl) (s_run (w_g rfl rfl rfl rfl) rfl (d_len rfl rfl tu23) (s_run (w_g rfl rfl rfl rfl) rfl (d_gt rfl rfl rfl) (sR rfl rfl (d_pickF rfl rfl rfl) ?_))))))))))
  refine sR rfl rfl (mv_bx (c := false) rfl rfl (by first | rfl | (simp; omega))) ?_
  refine s_run (w_g rfl rfl rfl rfl) rfl (d_fa rfl rfl tf26_1) (s_run (w_g rfl rfl rfl rfl) rfl (d_ld rfl H rfl ta24 rfl) (s_run (w_g rfl rfl rfl rfl) rfl (d_len rfl rfl tu24) (s_run (w_g rfl rfl rfl rfl) rfl (d_lt rfl rfl rfl) (sR rfl rfl (d_pickF rfl rfl rfl) (sR rfl rfl (mv_bx (c := true) rfl rfl (by first | rfl | (simp; omega))) ?_)))))
  refine s_skip (w_gno rfl rfl rfl rfl rfl) rfl (s_skip (w_gno rfl rfl rfl rfl rfl) rfl (s_skip (w_gno rfl rfl rfl rfl rfl) rfl (s_skip (w_gno rfl rfl rfl rfl rfl) rfl (sR rfl rfl (d_pickT rfl rfl rfl) (l_nil (k_condT rfl (by first | rfl | (simp; omega)) ?_))))))
  refine k_seq (k_region (sAi rfl rfl rfl rfl (l_nil (k_ret ?_))))
  repeat (first | refine r_then ?_ | refine r_blk ?_)
  exact q_ret (v := .int _ _) rfl rfl ⟨_, rfl, vi (by unfold Tx.chk; rw [if_pos (by omega)]), H.under⟩
 ·skip
  refine k_region (sR rfl rfl (d_fa rfl rfl tf26_0) (sR rfl rfl (d_ld rfl H rfl ta23 rfl) (sR rfl rfl (d_len rfl rfl tu23) (sR rfl rfl (d_lt rfl rfl rfl) (sR rfl rfl (mv_bx (c := false) rfl rfl (by simp; omega)) (s_run (w_g rfl rfl rfl rfl) rfl (d_fa rfl rfl tf26_0) (s_run (w_g rfl rfl rfl rfl) rfl (d_ld rfl H rfl ta23 rfl) (s_run (w_g rfl rfl rfl rfl) rfl (d_len rfl rfl tu23) (s_run (w_g rfl rfl rfl rfl) rfl (d_gt rfl rfl rfl) (sR rfl rfl (d_pickF rfl rfl rfl) ?_))))))))))
  refine sR rfl rfl (mv_bx (c := false) rfl rfl (by first | rfl | (simp; omega))) ?_
  refine s_run (w_g rfl rfl rfl rfl) rfl (d_fa rfl rfl tf26_1) (s_run (w_g rfl rfl rfl rfl) rfl (d_ld rfl H rfl ta24 rfl) (s_run (w_g rfl rfl rfl rfl) rfl (d_len rfl rfl tu24) (s_run (w_g rfl rfl rfl rfl) rfl (d_lt rfl rfl rfl) (sR rfl rfl (d_pickF rfl rfl rfl) (sR rfl rfl (mv_bx (c := false) rfl rfl (by first | rfl | (simp; omega))) ?_)))))
  refine s_run (w_g rfl rfl rfl rfl) rfl (d_fa rfl rfl tf26_1) (s_run (w_g rfl rfl rfl rfl) rfl (d_ld rfl H rfl ta24 rfl) (s_run (w_g rfl rfl rfl rfl) rfl (d_len rfl rfl tu24) (s_run (w_g rfl rfl rfl rfl) rfl (d_gt rfl rfl rfl) (sR rfl rfl (d_pickF rfl rfl rfl) (l_nil (k_condT rfl (by first | rfl | (simp; omega)) ?_))))))
  refine k_seq (k_region (sAi rfl rfl rfl rfl (l_nil (k_ret ?_))))
  repeat (first | refine r_then ?_ | refine r_blk ?_)
  exact q_ret (v := .int _ _) rfl rfl ⟨_, rfl, vi (by unfold Tx.chk; rw [if_pos (by omega)]), H.under⟩
 ·skip
  refine k_region (sR rfl rfl (d_fa rfl rfl tf26_0) (sR rfl rfl (d_ld rfl H rfl ta23 rfl) (sR rfl rfl (d_len rfl rfl tu23) (sR rfl rfl (d_lt rfl rfl rfl) (sR rfl rfl (mv_bx (c := false) rfl rfl (by simp; omega)) (s_run (w_g rfl rfl rfl rfl) rfl (d_fa rfl rfl tf26_0) (s_run (w_g rfl rfl rfl rfl) rfl (d_ld rfl H rfl ta23 rfl) (s_run (w_g rfl rfl rfl rfl) rfl (d_len rfl rfl tu23) (s_run (w_g rfl rfl rfl rfl) rfl (d_gt rfl rfl rfl) (sR rfl rfl (d_pickF rfl rfl rfl) ?_))))))))))
  refine sR rfl rfl (mv_bx (c := false) rfl rfl (by first | rfl | (simp; omega))) ?_
  refine s_run (w_g rfl rfl rfl rfl) rfl (d_fa rfl rfl tf26_1) (s_run (w_g rfl rfl rfl rfl) rfl (d_ld rfl H rfl ta24 rfl) (s_run (w_g rfl rfl rfl rfl) rfl (d_len rfl rfl tu24) (s_run (w_g rfl rfl rfl rfl) rfl (d_lt rfl rfl rfl) (sR rfl rfl (d_pickF rfl rfl rfl) (sR rfl rfl (mv_bx (c := false) rfl rfl (by first | rfl | (simp; omega))) ?_)))))
  refine s_run (w_g rfl rfl rfl rfl) rfl (d_fa rfl rfl tf26_1) (s_run (w_g rfl rfl rfl rfl) rfl (d_ld rfl H rfl ta24 rfl) (s_run (w_g rfl rfl rfl rfl) rfl (d_len rfl rfl tu24) (s_run (w_g rfl rfl rfl rfl) rfl (d_gt rfl rfl rfl) (sR rfl rfl (d_pickF rfl rfl rfl) (l_nil (k_condF rfl (by first | rfl | (simp; omega)) ?_))))))
  refine k_skip (k_seq (k_seq (k_region (sAi rfl rfl rfl rfl (l_nil (k_block (k_loop 26 [2, 3] (fun mm sl W => ∃ i : Nat, t.ins.length - i = mm ∧ sl = [(3, .int .i64 (i : Int))] ∧ (i ≤ t.ins.length) ∧ ((t.ins.take i).any Tx.far = false) ∧ St nT w W [Fact.blk gm (txC A t.ins.length c B t.outs.length d t.lock) 26]) _ _ ⟨0, rfl, rfl, Nat.zero_le _, rfl, H⟩ ⟨rfl, trivial⟩ (fun mm sl ρv W hJ => ?_))))))))
  clear H; obtain ⟨i, rfl, rfl, hi_, hno, H⟩ := hJ
  refine k_one (k_seq (k_seq (k_region (sMi rfl rfl rfl rfl (sR rfl rfl (d_fa rfl rfl tf26_0) (sR rfl rfl (d_ld rfl H rfl ta23 rfl) (sR rfl rfl (d_len rfl rfl tu23) (sR rfl rfl (d_lt rfl rfl rfl) (l_nil (k_cond rfl (fun hc30 => ?_) (fun hc30 => ?_)))))))))))
  ·replace hc30 := of_decide_eq_true hc30
   have hlt : i < t.ins.length := by omega
   obtain ⟨g0, o0, rfl, -⟩ := hr.2 (by omega)
   obtain ⟨x, hx⟩ := get_lt hlt
   obtain ⟨B2, d2, hL, hW, hp, hn⟩ := in_of (hel i x hx)
   refine k_skip (k_seq (k_block (k_seq ?_)))
   rcases Int.lt_or_le x.point.n 0 with h2 | h2
   ·skip
    refine k_region (sR rfl rfl (d_fa rfl rfl tf26_0) (sR rfl rfl (d_ld rfl H rfl ta23 rfl) (sMi rfl rfl rfl rfl (sR rfl rfl (d_iaG rfl (H.rd hr) rfl rfl (q := i) rfl hlt tu23 ts34) (sR rfl rfl (d_fa rfl rfl tf34_0) (sR rfl rfl (d_fa rfl rfl tf31_1) (sR rfl rfl (d_ldE (off := 32) rfl (H.rd hr) hlt hL (sub_in_n hp) rfl rfl (by omega) ta3) (sR rfl rfl (d_lt rfl rfl rfl) (sR rfl rfl (mv_bx (c := true) rfl rfl (by simp; omega)) (s_skip (w_gno rfl rfl rfl rfl rfl) rfl ?_))))))))))
    refine s_skip (w_gno rfl rfl rfl rfl rfl) rfl (s_skip (w_gno rfl rfl rfl rfl rfl) rfl (s_skip (w_gno rfl rfl rfl rfl rfl) rfl (s_skip (w_gno rfl rfl rfl rfl rfl) rfl (s_skip (w_gno rfl rfl rfl rfl rfl) rfl (s_skip (w_gno rfl rfl rfl rfl rfl) rfl (s_skip (w_gno rfl rfl rfl rfl rfl) rfl (sR rfl rfl (d_pickT rfl rfl rfl) (l_nil (k_condT rfl rfl (k_seq ?_))))))))))
    refine k_region (sAi rfl rfl rfl rfl (l_nil (k_ret ?_)))
    repeat (first | refine r_then ?_ | refine r_blk ?_)
    exact q_ret (v := .int _ _) rfl rfl ⟨_, rfl, vi (by unfold Tx.chk; rw [if_neg (show ¬ (t.ins.length < 1 ∨ 8 < t.ins.length ∨ t.outs.length < 1 ∨ 8 < t.outs.length) by omega), if_pos (.inl (any_yes hx (by unfold Tx.far; simp; omega)))]), H.under⟩
   ·skip
    refine k_region (sR rfl rfl (d_fa rfl rfl tf26_0) (sR rfl rfl (d_ld rfl H rfl ta23 rfl) (sMi rfl rfl rfl rfl (sR rfl rfl (d_iaG rfl (H.rd hr) rfl rfl (q := i) rfl hlt tu23 ts34) (sR rfl rfl (d_fa rfl rfl tf34_0) (sR rfl rfl (d_fa rfl rfl tf31_1) (sR rfl rfl (d_ldE (off := 32) rfl (H.rd hr) hlt hL (sub_in_n hp) rfl rfl (by omega) ta3) (sR rfl rfl (d_lt rfl rfl rfl) (sR rfl rfl (mv_bx (c := false) rfl rfl (by simp; omega)) (s_run (w_g rfl rfl rfl rfl) rfl (d_fa rfl rfl tf26_0) ?_))))))))))
    refine s_run (w_g rfl rfl rfl rfl) rfl (d_ld rfl H rfl ta23 rfl) (s_run (w_g rfl rfl rfl rfl) rfl (mv_i rfl rfl) (s_run (w_g rfl rfl rfl rfl) rfl (d_iaG rfl (H.rd hr) rfl rfl (q := i) rfl hlt tu23 ts34) (s_run (w_g rfl rfl rfl rfl) rfl (d_fa rfl rfl tf34_0) (s_run (w_g rfl rfl rfl rfl) rfl (d_fa rfl rfl tf31_1) (s_run (w_g rfl rfl rfl rfl) rfl (d_ldE (off := 32) rfl (H.rd hr) hlt hL (sub_in_n hp) rfl rfl (by omega) ta3) (s_run (w_g rfl rfl rfl rfl) rfl (d_gt rfl rfl rfl) (sR rfl rfl (d_pickF rfl rfl rfl) (l_nil (k_cond rfl (fun hc50 => ?_) (fun hc50 => ?_))))))))))
    ·replace hc50 := of_decide_eq_true hc50
     refine k_seq (k_region (sAi rfl rfl rfl rfl (l_nil (k_ret ?_))))
     repeat (first | refine r_then ?_ | refine r_blk ?_)
     exact q_ret (v := .int _ _) rfl rfl ⟨_, rfl, vi (by unfold Tx.chk; rw [if_neg (show ¬ (t.ins.length < 1 ∨ 8 < t.ins.length ∨ t.outs.length < 1 ∨ 8 < t.outs.length) by omega), if_pos (.inl (any_yes hx (by unfold Tx.far; simp; omega)))]), H.under⟩
    ·replace hc50 : ¬ x.point.n > 8 := of_decide_eq_false hc50
     refine k_skip (k_nil (b_end (k_region (sMi rfl rfl rfl rfl (sR rfl rfl (d_add rfl rfl rfl (by omega)) (sAi rfl rfl rfl rfl (l_nil (k_nil (k_next ?_)))))))))
     refine ⟨_, _, _, ?_, rfl, ?_, ?_, ⟨i + 1, rfl, rfl, by omega, any_no hx hno (by unfold Tx.far; simp; omega), H⟩⟩
     ·omega
     ·repeat (first | (with_reducible refine .updl _ .ovr ?_); exact rfl | (with_reducible refine .updl _ (.ovr2 ?_ ?_) ?_); rotate_left; exact rfl; exact rfl | (with_reducible refine .upd ?_ ?_); rotate_left; exact rfl)
     ·refine ⟨?_, trivial⟩
      ·exact vi (by omega)
  ·replace hc30 := of_decide_eq_false hc30
   obtain rfl : i = t.ins.length := by omega
   rw [List.take_length] at hno
   have hf := hno
   refine k_exit (x_then (x_then ?_))
   refine x_hit (k_seq (k_seq ?_))
   rcases Int.lt_or_le t.lock 0 with h3 | h3
   ·skip
    refine k_region (sR rfl rfl (d_fa rfl rfl tf26_2) (sR rfl rfl (d_ld rfl H rfl ta3 rfl) (sR rfl rfl (d_lt rfl rfl rfl) (sR rfl rfl (mv_bx (c := true) rfl rfl (by simp; omega)) (s_skip (w_gno rfl rfl rfl rfl rfl) rfl (s_skip (w_gno rfl rfl rfl rfl rfl) rfl (s_skip (w_gno rfl rfl rfl rfl rfl) rfl (sR rfl rfl (d_pickT rfl rfl rfl) (l_nil (k_condT rfl rfl ?_))))))))))
    refine k_seq (k_region (sAi rfl rfl rfl rfl (l_nil (k_ret ?_))))
    repeat (first | refine r_then ?_ | refine r_blk ?_)
    exact q_ret (v := .int _ _) rfl rfl ⟨_, rfl, vi (by unfold Tx.chk; rw [if_neg (show ¬ (t.ins.length < 1 ∨ 8 < t.ins.length ∨ t.outs.length < 1 ∨ 8 < t.outs.length) by omega), if_pos (by omega)]), H.under⟩
   ·skip
    refine k_region (sR rfl rfl (d_fa rfl rfl tf26_2) (sR rfl rfl (d_ld rfl H rfl ta3 rfl) (sR rfl rfl (d_lt rfl rfl rfl) (sR rfl rfl (mv_bx (c := false) rfl rfl (by simp; omega)) (s_run (w_g rfl rfl rfl rfl) rfl (d_fa rfl rfl tf26_2) (s_run (w_g rfl rfl rfl rfl) rfl (d_ld rfl H rfl ta3 rfl) (s_run (w_g rfl rfl rfl rfl) rfl (d_gt rfl rfl rfl) (sR rfl rfl (d_pickF rfl rfl rfl) (l_nil (k_cond rfl (fun hc58 => ?_) (fun hc58 => ?_)))))))))))
    ·replace hc58 := of_decide_eq_true hc58
     refine k_seq (k_region (sAi rfl rfl rfl rfl (l_nil (k_ret ?_))))
     repeat (first | refine r_then ?_ | refine r_blk ?_)
     exact q_ret (v := .int _ _) rfl rfl ⟨_, rfl, vi (by unfold Tx.chk; rw [if_neg (show ¬ (t.ins.length < 1 ∨ 8 < t.ins.length ∨ t.outs.length < 1 ∨ 8 < t.outs.length) by omega), if_pos (by omega)]), H.under⟩
    ·replace hc58 := of_decide_eq_false hc58
     refine k_skip (k_seq (k_seq (k_region (sR rfl rfl (d_fa rfl rfl tf26_0) (sR rfl rfl (d_ld rfl H rfl ta23 rfl) (sC rfl rfl rfl Tryz.func87 rfl rfl rfl (twiceR _ (keeps_L keeps_In _ _ _ _ _ hI0 (fun g hg _ => H.fr.block g hg (fun h => h)))) ?_))))))
     rintro _ W ⟨rfl, hb⟩
     replace H := H.below hb
     clear hb
     refine l_nil (k_cond rfl (fun hc61 => ?_) (fun hc61 => ?_))
     ·have htw : Tx.twice (t.ins.map (·.point)) = true := hc61
      refine k_seq (k_region (sAi rfl rfl rfl rfl (l_nil (k_ret ?_))))
      repeat (first | refine r_then ?_ | refine r_blk ?_)
      exact q_ret (v := .int _ _) rfl rfl ⟨_, rfl, vi (by unfold Tx.chk; rw [if_neg (show ¬ (t.ins.length < 1 ∨ 8 < t.ins.length ∨ t.outs.length < 1 ∨ 8 < t.outs.length) by omega), if_neg (show ¬ (t.ins.any Tx.far = true ∨ t.lock < 0 ∨ 1073741824 < t.lock) by rw [hf]; simp; omega), if_pos htw]), H.under⟩
     ·have htw : Tx.twice (t.ins.map (·.point)) = false := hc61
      refine k_skip (k_seq (k_seq (k_region (sR rfl rfl (d_fa rfl rfl tf26_1) (sR rfl rfl (d_ld rfl H rfl ta24 rfl) (sC rfl rfl rfl Tryz.func88 rfl rfl rfl (rangedR _ (keeps_L keeps_Out _ _ _ _ _ hO0 (fun g hg _ => H.fr.block g hg (fun h => h))) (by omega)) ?_))))))
      rintro _ W ⟨rfl, hb⟩
      replace H := H.below hb
      clear hb
      refine sR rfl rfl (d_not rfl rfl) (l_nil (k_cond rfl (fun hc65 => ?_) (fun hc65 => ?_)))
      ·have hvo : Tx.valOk t.outs = false := by simpa using hc65
       refine k_seq (k_region (sAi rfl rfl rfl rfl (l_nil (k_ret ?_))))
       repeat (first | refine r_then ?_ | refine r_blk ?_)
       exact q_ret (v := .int _ _) rfl rfl ⟨_, rfl, vi (by unfold Tx.chk; rw [if_neg (show ¬ (t.ins.length < 1 ∨ 8 < t.ins.length ∨ t.outs.length < 1 ∨ 8 < t.outs.length) by omega), if_neg (show ¬ (t.ins.any Tx.far = true ∨ t.lock < 0 ∨ 1073741824 < t.lock) by rw [hf]; simp; omega), if_neg (show ¬ Tx.twice (t.ins.map (·.point)) = true by rw [htw]; simp), if_pos hvo]), H.under⟩
      ·have hvo : Tx.valOk t.outs = true := by simpa using hc65
       refine k_skip (k_seq (k_seq (k_region (sR rfl rfl (d_ldXM (g := gm) (off := 0) rfl H (sub_all (a := txC A t.ins.length c B t.outs.length d t.lock) (m := 3) rfl) rfl rfl rfl rfl ta26 ts26) (sC rfl rfl rfl Tryz.func89 rfl rfl rfl (longR _ (keeps_Tx _ _ _ _ _ ht (fun g hg _ => H.fr.block g hg (fun h => h)))) ?_)))))
       rintro _ W ⟨rfl, hb⟩
       replace H := H.below hb
       clear hb
       refine l_nil (k_cond rfl (fun hc67 => ?_) (fun hc67 => ?_))
       ·skip
        refine k_seq (k_region (sAi rfl rfl rfl rfl (l_nil (k_ret ?_))))
        repeat (first | refine r_then ?_ | refine r_blk ?_)
        exact q_ret (v := .int _ _) rfl rfl ⟨_, rfl, vi (by unfold Tx.chk; rw [if_neg (show ¬ (t.ins.length < 1 ∨ 8 < t.ins.length ∨ t.outs.length < 1 ∨ 8 < t.outs.length) by omega), if_neg (show ¬ (t.ins.any Tx.far = true ∨ t.lock < 0 ∨ 1073741824 < t.lock) by rw [hf]; simp; omega), if_neg (show ¬ Tx.twice (t.ins.map (·.point)) = true by rw [htw]; simp), if_neg (show ¬ Tx.valOk t.outs = false by rw [hvo]; simp), if_pos hc67]), H.under⟩
       ·skip
        refine k_skip (k_seq (k_region (sAi rfl rfl rfl rfl (l_nil (k_ret ?_)))))
        repeat (first | refine r_then ?_ | refine r_blk ?_)
        exact q_ret (v := .int _ _) rfl rfl ⟨_, rfl, vi (by unfold Tx.chk; rw [if_neg (show ¬ (t.ins.length < 1 ∨ 8 < t.ins.length ∨ t.outs.length < 1 ∨ 8 < t.outs.length) by omega), if_neg (show ¬ (t.ins.any Tx.far = true ∨ t.lock < 0 ∨ 1073741824 < t.lock) by rw [hf]; simp; omega), if_neg (show ¬ Tx.twice (t.ins.map (·.point)) = true by rw [htw]; simp), if_neg (show ¬ Tx.valOk t.outs = false by rw [hvo]; simp), if_neg (by rw [hc67]; simp)]), H.under⟩

set_option maxHeartbeats 4000000 in
theorem bareTR {S : Nat → Prop} {cs : List Value} {t : DTx} (w : World) (ht : RTx w S cs t) : Calls Tryz.prog 18 [.agg cs.toArray].toArray w (Ret (fun v w' => ∃ x, v = .tuple #[x, .int .i64 (Tx.chk t)] ∧ NewB 5 w (Tx.bare t) x w')) := by
 obtain ⟨A, c, B, d, rfl, hI, hO, hk⟩ := tx_of ht
 have hIl := rl_len hI
 have hOl := rl_len hO
 have hI0 := hI
 obtain ⟨A_, c_, xs, hv_, _, _, hr, hel⟩ := hI
 cases hv_
 have hO0 := hO
 obtain ⟨A_, c_, ys, hv_, _, _, hs, hes⟩ := hO
 cases hv_
 have hok := tx_ok ht
 refine k_enter (l := [_]) Tryz.func18 rfl rfl ?_
 have H := St.start nT w
 refine k_seq (k_region (s_eff (e_box (vs := (txC A t.ins.length c B t.outs.length d t.lock)) (w_none rfl) rfl rfl rfl rfl H ?_)))
 clear H; intro gm W H
 refine sAs rfl rfl rfl rfl (sAi rfl rfl rfl rfl (l_nil (k_seq (k_region (sR rfl rfl (d_ldXM (g := gm) (off := 0) rfl H (sub_all (a := txC A t.ins.length c B t.outs.length d t.lock) (m := 3) rfl) rfl rfl rfl rfl ta26 ts26) (sC rfl rfl rfl Tryz.func49 rfl rfl rfl (checkTR _ (keeps_Tx _ _ _ _ _ ht (fun g hg _ => H.fr.block g hg (fun h => h)))) ?_))))))
 rintro _ W ⟨rfl, hb⟩
 replace H := H.below hb
 clear hb
 refine sAi rfl rfl rfl rfl (l_nil (k_seq (k_seq (k_region (sMi rfl rfl rfl rfl (sR rfl rfl (d_ne rfl rfl rfl) (l_nil (k_cond rfl (fun hc11 => ?_) (fun hc11 => ?_)))))))))
 ·have hne : ¬ Tx.chk t = 0 := by simpa using hc11
  refine k_seq (k_region (sMi rfl rfl rfl rfl (sAs rfl rfl rfl rfl (sAi rfl rfl rfl rfl (l_nil (k_ret ?_))))))
  repeat (first | refine r_then ?_ | refine r_blk ?_)
  have hp0 : Tx.bare t = [] := by unfold Tx.bare; rw [if_neg hne]
  rw [hp0]
  replace H := H.nilrow 5 1
  exact q_ret2 (v := .slice _ _ _) (x := .int _ _) rfl rfl rfl ⟨_, rfl, _, rfl, H.newB (l := []) rfl rfl (Nat.le_refl _) (by omega)⟩
 ·have hne : Tx.chk t = 0 := by simpa using hc11
  have hch := Tx.chk_of hne
  obtain ⟨q1, q2, q3, q4, q5, q6, q7, q8⟩ := hch
  have w1 := Pk.len_int (Pk.toU (t.ins.length : Int))
  have w2 := Pk.len_int (Pk.toU (t.outs.length : Int))
  have w4 := len_flat_le (f := Tx.encI) (k := 41) (l := t.ins) (fun x hx => Tx.len_encP (hok.1 x hx).1)
  have w5 := len_flat_le (f := Tx.encO) (k := 274) (l := t.outs) (fun x hx => Tx.len_encO (q7 x hx))
  refine k_skip (k_seq (k_region (sR rfl rfl (d_fa rfl rfl tf26_0) (sR rfl rfl (d_ld rfl H rfl ta23 rfl) (sR rfl rfl (d_len rfl rfl tu23) (sC rfl rfl rfl Tryz.func47 rfl rfl rfl (refInt (S := (0 ≤ ·)) (b := []) (t.ins.length : Int) _ Bs.nil (by omega) (by simp)) ?_))))))
  rintro _ W ⟨A1, c1, rfl, hc1, hd1, hn⟩
  replace H := H.new hn
  clear hn
  have e0 : ([] : List UInt8) ++ Pk.int (Pk.toU (t.ins.length : Int)) = ((([] : List UInt8) ++ Pk.int (Pk.toU (t.ins.length : Int))) ++ ((t.ins.take 0).map Tx.encI).flatten) := by simp
  rw [e0] at hc1 H
  refine sAs rfl rfl rfl rfl (l_nil (k_seq (k_seq (k_region (sAi rfl rfl rfl rfl (l_nil (k_block (k_loop 17 [5, 6] (fun mm sl W => ∃ i : Nat, ∃ A2 : Option Addr, ∃ d2 : Nat, t.ins.length - i = mm ∧ sl = [(6, .int .i64 (i : Int)), (5, .slice A2 ((([] : List UInt8) ++ Pk.int (Pk.toU (t.ins.length : Int))) ++ ((t.ins.take i).map Tx.encI).flatten).length d2)] ∧ (i ≤ t.ins.length) ∧ (((([] : List UInt8) ++ Pk.int (Pk.toU (t.ins.length : Int))) ++ ((t.ins.take i).map Tx.encI).flatten).length ≤ d2 ∧ d2 ≤ 9223372036854775807) ∧ St nT w W [Fact.row 5 1 (.slice A2 ((([] : List UInt8) ++ Pk.int (Pk.toU (t.ins.length : Int))) ++ ((t.ins.take i).map Tx.encI).flatten).length d2) ((([] : List UInt8) ++ Pk.int (Pk.toU (t.ins.length : Int))) ++ ((t.ins.take i).map Tx.encI).flatten).length (((([] : List UInt8) ++ Pk.int (Pk.toU (t.ins.length : Int))) ++ ((t.ins.take i).map Tx.encI).flatten).map u8v), Fact.blk gm (txC A t.ins.length c B t.outs.length d t.lock) 26]) _ _ ⟨0, A1, c1, rfl, rfl, Nat.zero_le _, ⟨hc1, hd1⟩, H⟩ ⟨rfl, sl_eq (congrArg List.length e0), trivial⟩ (fun mm sl ρv W hJ => ?_)))))))))
  clear H; obtain ⟨i, A2, d2, rfl, rfl, hi, hd, H⟩ := hJ
  refine k_one (k_seq (k_seq (k_region (sMi rfl rfl rfl rfl (sR rfl rfl (d_fa rfl rfl tf26_0) (sR rfl rfl (d_ld rfl H rfl ta23 rfl) (sR rfl rfl (d_len rfl rfl tu23) (sR rfl rfl (d_lt rfl rfl rfl) (l_nil (k_cond rfl (fun hc21 => ?_) (fun hc21 => ?_)))))))))))
  ·replace hc21 := of_decide_eq_true hc21
   have hlt : i < t.ins.length := by omega
   obtain ⟨g0, o0, rfl, -⟩ := hr.2 (by omega)
   obtain ⟨x, hx⟩ := get_lt hlt
   obtain ⟨B3, d3, hL, hW, hp, hn⟩ := in_of (hel i x hx)
   have hfl := len_take_flat (f := Tx.encI) (k := 41) (fun y hy => Tx.len_encP (hok.1 y hy).1) hi
   have hA : ((([] : List UInt8) ++ Pk.int (Pk.toU (t.ins.length : Int))) ++ ((t.ins.take i).map Tx.encI).flatten).length ≤ 10000 := by rw [List.length_append, List.nil_append]; omega
   refine k_skip (k_seq (k_block (k_seq (k_region (sMs rfl rfl rfl rfl (sR rfl rfl (d_fa rfl rfl tf26_0) (sR rfl rfl (d_ld rfl H rfl ta23 rfl) (sMi rfl rfl rfl rfl (sR rfl rfl (d_iaG rfl (H.rd hr) rfl rfl (q := i) rfl hlt tu23 ts34) (sR rfl rfl (d_fa rfl rfl tf34_0) ?_))))))))))
   refine sR rfl rfl (d_fa rfl rfl tf31_0) (sR rfl rfl (d_ldEM (off := 0) rfl (H.rd hr) hlt hL (sub_in_tx hp) rfl rfl (by omega) ta29 ts29) (sC rfl rfl rfl Tryz.func50 rfl rfl rfl (refHash (b := ((([] : List UInt8) ++ Pk.int (Pk.toU (t.ins.length : Int))) ++ ((t.ins.take i).map Tx.encI).flatten)) (h := x.point.tx) _ (H.rowbs (A := A2) rfl) (by omega) hp) ?_))
   rintro _ W ⟨A8, c8, rfl, hc8, hd8, hn⟩
   replace H := H.new hn
   clear hn
   refine sAs rfl rfl rfl rfl (l_nil (k_region (sMs rfl rfl rfl rfl (sR rfl rfl (d_fa rfl rfl tf26_0) (sR rfl rfl (d_ld rfl H rfl ta23 rfl) (sMi rfl rfl rfl rfl (sR rfl rfl (d_iaG rfl (H.rd hr) rfl rfl (q := i) rfl hlt tu23 ts34) (sR rfl rfl (d_fa rfl rfl tf34_0) (sR rfl rfl (d_fa rfl rfl tf31_1) (sR rfl rfl (d_ldE (off := 32) rfl (H.rd hr) hlt hL (sub_in_n hp) rfl rfl (by omega) ta3) ?_))))))))))
   refine sC rfl rfl rfl Tryz.func47 rfl rfl rfl (refInt (b := ((([] : List UInt8) ++ Pk.int (Pk.toU (t.ins.length : Int))) ++ ((t.ins.take i).map Tx.encI).flatten) ++ x.point.tx) x.point.n _ (H.rowbs (A := A8) rfl) hn (by rw [List.length_append]; omega)) ?_
   rintro _ W ⟨A9, c9, rfl, hc9, hd9, hn⟩
   replace H := H.new hn
   clear hn
   refine sAs rfl rfl rfl rfl (l_nil (k_nil (b_end (k_region (sMi rfl rfl rfl rfl (sR rfl rfl (d_add rfl rfl rfl (by omega)) (sAi rfl rfl rfl rfl (l_nil (k_nil (k_next ?_))))))))))
   have he : ((([] : List UInt8) ++ Pk.int (Pk.toU (t.ins.length : Int))) ++ ((t.ins.take (i + 1)).map Tx.encI).flatten) = ((([] : List UInt8) ++ Pk.int (Pk.toU (t.ins.length : Int))) ++ ((t.ins.take i).map Tx.encI).flatten) ++ Tx.encI x := by rw [flat_at hx]; simp only [List.append_assoc]
   have he2 : (((([] : List UInt8) ++ Pk.int (Pk.toU (t.ins.length : Int))) ++ ((t.ins.take i).map Tx.encI).flatten) ++ x.point.tx) ++ Pk.int (Pk.toU x.point.n) = ((([] : List UInt8) ++ Pk.int (Pk.toU (t.ins.length : Int))) ++ ((t.ins.take i).map Tx.encI).flatten) ++ Tx.encI x := by unfold Tx.encI Tx.encP; rw [List.append_assoc]
   refine ⟨_, _, _, ?_, rfl, ?_, ?_, ⟨i + 1, A9, c9, rfl, rfl, by omega, ⟨by rw [he, ← he2]; exact hc9, hd9⟩, by rw [he, ← he2]; exact H.sub (by repeat (first | exact .refl _ | exact List.nil_sublist _ | refine .cons_cons _ ?_ | refine .cons _ ?_))⟩⟩
   ·omega
   ·repeat (first | (with_reducible refine .updl _ .ovr ?_); exact rfl | (with_reducible refine .updl _ (.ovr2 ?_ ?_) ?_); rotate_left; exact rfl; exact rfl | (with_reducible refine .upd ?_ ?_); rotate_left; exact rfl)
   ·refine ⟨?_, ?_, trivial⟩
    ·exact vi (by omega)
    ·exact sl_eq (by rw [he, ← he2])
  ·replace hc21 := of_decide_eq_false hc21
   obtain rfl : i = t.ins.length := by omega
   rw [List.take_length] at hd H ⊢
   refine k_exit (x_then (x_then ?_))
   refine x_hit (k_seq (k_region (sMs rfl rfl rfl rfl (sR rfl rfl (d_fa rfl rfl tf26_1) (sR rfl rfl (d_ld rfl H rfl ta24 rfl) (sR rfl rfl (d_len rfl rfl tu24) (sC rfl rfl rfl Tryz.func47 rfl rfl rfl (refInt (b := ((([] : List UInt8) ++ Pk.int (Pk.toU (t.ins.length : Int))) ++ (t.ins.map Tx.encI).flatten)) (t.outs.length : Int) _ (H.rowbs (A := A2) rfl) (by omega) (by rw [List.length_append, List.nil_append]; omega)) ?_)))))))
   rintro _ W ⟨A3, c3, rfl, hc3, hd3, hn⟩
   replace H := H.new hn
   clear hn
   have f0 : ((([] : List UInt8) ++ Pk.int (Pk.toU (t.ins.length : Int))) ++ (t.ins.map Tx.encI).flatten) ++ Pk.int (Pk.toU (t.outs.length : Int)) = ((((([] : List UInt8) ++ Pk.int (Pk.toU (t.ins.length : Int))) ++ (t.ins.map Tx.encI).flatten) ++ Pk.int (Pk.toU (t.outs.length : Int))) ++ ((t.outs.take 0).map Tx.encO).flatten) := by simp
   rw [f0] at hc3 H
   refine sAs rfl rfl rfl rfl (l_nil (k_seq (k_seq (k_region (sAi rfl rfl rfl rfl (l_nil (k_block (k_loop 47 [5, 7] (fun mm sl W => ∃ i : Nat, ∃ A2 : Option Addr, ∃ d2 : Nat, t.outs.length - i = mm ∧ sl = [(7, .int .i64 (i : Int)), (5, .slice A2 ((((([] : List UInt8) ++ Pk.int (Pk.toU (t.ins.length : Int))) ++ (t.ins.map Tx.encI).flatten) ++ Pk.int (Pk.toU (t.outs.length : Int))) ++ ((t.outs.take i).map Tx.encO).flatten).length d2)] ∧ (i ≤ t.outs.length) ∧ (((((([] : List UInt8) ++ Pk.int (Pk.toU (t.ins.length : Int))) ++ (t.ins.map Tx.encI).flatten) ++ Pk.int (Pk.toU (t.outs.length : Int))) ++ ((t.outs.take i).map Tx.encO).flatten).length ≤ d2 ∧ d2 ≤ 9223372036854775807) ∧ St nT w W [Fact.row 5 1 (.slice A2 ((((([] : List UInt8) ++ Pk.int (Pk.toU (t.ins.length : Int))) ++ (t.ins.map Tx.encI).flatten) ++ Pk.int (Pk.toU (t.outs.length : Int))) ++ ((t.outs.take i).map Tx.encO).flatten).length d2) ((((([] : List UInt8) ++ Pk.int (Pk.toU (t.ins.length : Int))) ++ (t.ins.map Tx.encI).flatten) ++ Pk.int (Pk.toU (t.outs.length : Int))) ++ ((t.outs.take i).map Tx.encO).flatten).length (((((([] : List UInt8) ++ Pk.int (Pk.toU (t.ins.length : Int))) ++ (t.ins.map Tx.encI).flatten) ++ Pk.int (Pk.toU (t.outs.length : Int))) ++ ((t.outs.take i).map Tx.encO).flatten).map u8v), Fact.blk gm (txC A t.ins.length c B t.outs.length d t.lock) 26]) _ _ ⟨0, A3, c3, rfl, rfl, Nat.zero_le _, ⟨hc3, hd3⟩, H.sub (by repeat (first | exact .refl _ | exact List.nil_sublist _ | refine .cons_cons _ ?_ | refine .cons _ ?_))⟩ ⟨rfl, sl_eq (congrArg List.length f0), trivial⟩ (fun mm sl ρv W hJ => ?_)))))))))
   clear H; obtain ⟨i, A2, d2, rfl, rfl, hi, hd, H⟩ := hJ
   refine k_one (k_seq (k_seq (k_region (sMi rfl rfl rfl rfl (sR rfl rfl (d_fa rfl rfl tf26_1) (sR rfl rfl (d_ld rfl H rfl ta24 rfl) (sR rfl rfl (d_len rfl rfl tu24) (sR rfl rfl (d_lt rfl rfl rfl) (l_nil (k_cond rfl (fun hc51 => ?_) (fun hc51 => ?_)))))))))))
   ·replace hc51 := of_decide_eq_true hc51
    have hlt : i < t.outs.length := by omega
    obtain ⟨g0, o0, rfl, -⟩ := hs.2 (by omega)
    obtain ⟨x, hx⟩ := get_lt hlt
    obtain ⟨B3, d3, hL, hB, hn⟩ := out_of (hes i x hx)
    have hq7 := q7 x (List.mem_of_getElem? hx)
    have hfl := len_take_flat (f := Tx.encO) (k := 274) (fun y hy => Tx.len_encO (q7 y hy)) hi
    have hA : ((((([] : List UInt8) ++ Pk.int (Pk.toU (t.ins.length : Int))) ++ (t.ins.map Tx.encI).flatten) ++ Pk.int (Pk.toU (t.outs.length : Int))) ++ ((t.outs.take i).map Tx.encO).flatten).length ≤ 10000 := by rw [List.length_append, List.length_append, List.length_append, List.nil_append]; omega
    refine k_skip (k_seq (k_block (k_seq (k_region (sMs rfl rfl rfl rfl (sR rfl rfl (d_fa rfl rfl tf26_1) (sR rfl rfl (d_ld rfl H rfl ta24 rfl) (sMi rfl rfl rfl rfl (sR rfl rfl (d_iaG rfl (H.rd hs) rfl rfl (q := i) rfl hlt tu24 ts37) (sR rfl rfl (d_fa rfl rfl tf37_0) ?_))))))))))
    refine sR rfl rfl (d_ldE (off := 0) rfl (H.rd hs) hlt hL rfl rfl rfl (by omega) ta3) (sC rfl rfl rfl Tryz.func47 rfl rfl rfl (refInt (b := ((((([] : List UInt8) ++ Pk.int (Pk.toU (t.ins.length : Int))) ++ (t.ins.map Tx.encI).flatten) ++ Pk.int (Pk.toU (t.outs.length : Int))) ++ ((t.outs.take i).map Tx.encO).flatten)) x.value _ (H.rowbs (A := A2) rfl) hn (by omega)) ?_)
    rintro _ W ⟨A8, c8, rfl, hc8, hd8, hn⟩
    replace H := H.new hn
    clear hn
    refine sAs rfl rfl rfl rfl (l_nil (k_region (sMs rfl rfl rfl rfl (sR rfl rfl (d_fa rfl rfl tf26_1) (sR rfl rfl (d_ld rfl H rfl ta24 rfl) (sMi rfl rfl rfl rfl (sR rfl rfl (d_iaG rfl (H.rd hs) rfl rfl (q := i) rfl hlt tu24 ts37) (sR rfl rfl (d_fa rfl rfl tf37_1) (sR rfl rfl (d_ldE (off := 1) rfl (H.rd hs) hlt hL rfl rfl rfl (by omega) ta35) (sC rfl rfl rfl Tryz.func48 rfl rfl rfl (refBlob (b := ((((([] : List UInt8) ++ Pk.int (Pk.toU (t.ins.length : Int))) ++ (t.ins.map Tx.encI).flatten) ++ Pk.int (Pk.toU (t.outs.length : Int))) ++ ((t.outs.take i).map Tx.encO).flatten) ++ Pk.int (Pk.toU x.value)) (p := x.script) _ (H.rowbs (A := A8) rfl) (by have := Pk.len_int (Pk.toU x.value); rw [List.length_append]; omega) (H.bs hB) (by omega)) ?_))))))))))
    rintro _ W ⟨A9, c9, rfl, hc9, hd9, hn⟩
    replace H := H.new hn
    clear hn
    refine sAs rfl rfl rfl rfl (l_nil (k_nil (b_end (k_region (sMi rfl rfl rfl rfl (sR rfl rfl (d_add rfl rfl rfl (by omega)) (sAi rfl rfl rfl rfl (l_nil (k_nil (k_next ?_))))))))))
    have he : ((((([] : List UInt8) ++ Pk.int (Pk.toU (t.ins.length : Int))) ++ (t.ins.map Tx.encI).flatten) ++ Pk.int (Pk.toU (t.outs.length : Int))) ++ ((t.outs.take (i + 1)).map Tx.encO).flatten) = ((((([] : List UInt8) ++ Pk.int (Pk.toU (t.ins.length : Int))) ++ (t.ins.map Tx.encI).flatten) ++ Pk.int (Pk.toU (t.outs.length : Int))) ++ ((t.outs.take i).map Tx.encO).flatten) ++ Tx.encO x := by rw [flat_at hx]; simp only [List.append_assoc]
    have he2 : (((((([] : List UInt8) ++ Pk.int (Pk.toU (t.ins.length : Int))) ++ (t.ins.map Tx.encI).flatten) ++ Pk.int (Pk.toU (t.outs.length : Int))) ++ ((t.outs.take i).map Tx.encO).flatten) ++ Pk.int (Pk.toU x.value)) ++ (Pk.int x.script.length ++ x.script) = ((((([] : List UInt8) ++ Pk.int (Pk.toU (t.ins.length : Int))) ++ (t.ins.map Tx.encI).flatten) ++ Pk.int (Pk.toU (t.outs.length : Int))) ++ ((t.outs.take i).map Tx.encO).flatten) ++ Tx.encO x := by unfold Tx.encO Pk.blob; rw [List.append_assoc]
    refine ⟨_, _, _, ?_, rfl, ?_, ?_, ⟨i + 1, A9, c9, rfl, rfl, by omega, ⟨by rw [he, ← he2]; exact hc9, hd9⟩, by rw [he, ← he2]; exact H.sub (by repeat (first | exact .refl _ | exact List.nil_sublist _ | refine .cons_cons _ ?_ | refine .cons _ ?_))⟩⟩
    ·omega
    ·repeat (first | (with_reducible refine .updl _ .ovr ?_); exact rfl | (with_reducible refine .updl _ (.ovr2 ?_ ?_) ?_); rotate_left; exact rfl; exact rfl | (with_reducible refine .upd ?_ ?_); rotate_left; exact rfl)
    ·refine ⟨?_, ?_, trivial⟩
     ·exact vi (by omega)
     ·exact sl_eq (by rw [he, ← he2])
   ·replace hc51 := of_decide_eq_false hc51
    obtain rfl : i = t.outs.length := by omega
    rw [List.take_length] at hd H ⊢
    refine k_exit (x_then (x_then ?_))
    refine x_hit (k_seq (k_region (sMs rfl rfl rfl rfl (sR rfl rfl (d_fa rfl rfl tf26_2) (sR rfl rfl (d_ld rfl H rfl ta3 rfl) (sC rfl rfl rfl Tryz.func47 rfl rfl rfl (refInt (b := ((((([] : List UInt8) ++ Pk.int (Pk.toU (t.ins.length : Int))) ++ (t.ins.map Tx.encI).flatten) ++ Pk.int (Pk.toU (t.outs.length : Int))) ++ (t.outs.map Tx.encO).flatten)) t.lock _ (H.rowbs (A := A2) rfl) hk (by rw [List.length_append, List.length_append, List.length_append, List.nil_append]; omega)) ?_))))))
    rintro _ W ⟨A4, c4, rfl, hc4, hd4, hn⟩
    replace H := H.new hn
    clear hn
    refine sAs rfl rfl rfl rfl (sAi rfl rfl rfl rfl (l_nil (k_ret ?_)))
    repeat (first | refine r_then ?_ | refine r_blk ?_)
    have hp0 : ((((([] : List UInt8) ++ Pk.int (Pk.toU (t.ins.length : Int))) ++ (t.ins.map Tx.encI).flatten) ++ Pk.int (Pk.toU (t.outs.length : Int))) ++ (t.outs.map Tx.encO).flatten) ++ Pk.int (Pk.toU t.lock) = Tx.bare t := by unfold Tx.bare Tx.bareB encL; rw [if_pos hne, toU_cast' (by omega), toU_cast' (by omega)]; simp only [List.nil_append, List.append_assoc]
    rw [hp0] at hc4 H ⊢
    rw [hne]
    exact q_ret2 (v := .slice _ _ _) (x := .int _ _) rfl rfl rfl ⟨_, rfl, _, rfl, H.newB rfl rfl hc4 hd4⟩

set_option maxHeartbeats 4000000 in
theorem putTR {S : Nat → Prop} {cs : List Value} {t : DTx} (w : World) (ht : RTx w S cs t) : Calls Tryz.prog 17 [.agg cs.toArray].toArray w (Ret (fun v w' => ∃ x, v = .tuple #[x, .int .i64 (Tx.chk t)] ∧ NewB 5 w (Tx.put t) x w')) := by
 obtain ⟨A, c, B, d, rfl, hI, hO, hk⟩ := tx_of ht
 have hok := tx_ok ht
 have hIl := rl_len hI
 have hI0 := hI
 obtain ⟨A_, c_, xs, hv_, _, _, hr, hel⟩ := hI
 cases hv_
 refine k_enter (l := [_]) Tryz.func17 rfl rfl ?_
 have H := St.start nT w
 refine k_seq (k_region (s_eff (e_box (vs := (txC A t.ins.length c B t.outs.length d t.lock)) (w_none rfl) rfl rfl rfl rfl H ?_)))
 clear H; intro gm W H
 refine sAs rfl rfl rfl rfl (sAi rfl rfl rfl rfl (l_nil (k_seq (k_region (sR rfl rfl (d_ldXM (g := gm) (off := 0) rfl H (sub_all (a := txC A t.ins.length c B t.outs.length d t.lock) (m := 3) rfl) rfl rfl rfl rfl ta26 ts26) (sC rfl rfl rfl Tryz.func18 rfl rfl rfl (bareTR _ (keeps_Tx _ _ _ _ _ ht (fun g hg _ => H.fr.block g hg (fun h => h)))) ?_))))))
 rintro _ W ⟨_, rfl, A1, c1, rfl, hc1, hd1, hn⟩
 replace H := H.new hn
 clear hn
 refine sR rfl rfl (mv_t rfl rfl) (sR rfl rfl (d_ext rfl rfl rfl) (sR rfl rfl (d_ext rfl rfl rfl) (sAs rfl rfl rfl rfl (sAi rfl rfl rfl rfl (l_nil (k_seq (k_seq (k_region (sMi rfl rfl rfl rfl (sR rfl rfl (d_ne rfl rfl rfl) ?_))))))))))
 refine l_nil (k_cond rfl (fun hc14 => ?_) (fun hc14 => ?_))
 ·have hne : ¬ Tx.chk t = 0 := by simpa using hc14
  refine k_seq (k_region (sMi rfl rfl rfl rfl (sAs rfl rfl rfl rfl (sAi rfl rfl rfl rfl (l_nil (k_ret ?_))))))
  repeat (first | refine r_then ?_ | refine r_blk ?_)
  have hp0 : Tx.put t = [] := by unfold Tx.put; rw [if_neg hne]
  rw [hp0]
  replace H := H.nilrow 5 1
  exact q_ret2 (v := .slice _ _ _) (x := .int _ _) rfl rfl rfl ⟨_, rfl, _, rfl, H.newB (l := []) rfl rfl (Nat.le_refl _) (by omega)⟩
 ·have hne : Tx.chk t = 0 := by simpa using hc14
  have hch := Tx.chk_of hne
  obtain ⟨q1, q2, q3, q4, q5, q6, q7, q8⟩ := hch
  have hlb := Tx.len_bareB hne hok
  have e0 : Tx.bare t = (Tx.bareB t ++ ((t.ins.take 0).map Tx.encWI).flatten) := by unfold Tx.bare; rw [if_pos hne]; simp
  rw [e0] at hc1 H
  refine k_skip (k_seq (k_seq (k_region (sAi rfl rfl rfl rfl (l_nil (k_block (k_loop 16 [4, 6, 7] (fun mm sl W => ∃ i : Nat, ∃ A2 : Option Addr, ∃ d2 : Nat, t.ins.length - i = mm ∧ sl = [(6, .int .i64 (i : Int)), (4, .slice A2 (Tx.bareB t ++ ((t.ins.take i).map Tx.encWI).flatten).length d2)] ∧ (i ≤ t.ins.length) ∧ ((Tx.bareB t ++ ((t.ins.take i).map Tx.encWI).flatten).length ≤ d2 ∧ d2 ≤ 9223372036854775807) ∧ St nT w W [Fact.row 5 1 (.slice A2 (Tx.bareB t ++ ((t.ins.take i).map Tx.encWI).flatten).length d2) (Tx.bareB t ++ ((t.ins.take i).map Tx.encWI).flatten).length ((Tx.bareB t ++ ((t.ins.take i).map Tx.encWI).flatten).map u8v), Fact.blk gm (txC A t.ins.length c B t.outs.length d t.lock) 26]) _ _ ⟨0, A1, c1, rfl, rfl, Nat.zero_le _, ⟨hc1, hd1⟩, H⟩ ⟨rfl, sl_eq (by rw [e0]), trivial⟩ (fun mm sl ρv W hJ => ?_))))))))
  clear H; obtain ⟨i, A2, d2, rfl, rfl, hi, hd, H⟩ := hJ
  refine k_one (k_seq (k_seq (k_region (sMi rfl rfl rfl rfl (sR rfl rfl (d_fa rfl rfl tf26_0) (sR rfl rfl (d_ld rfl H rfl ta23 rfl) (sR rfl rfl (d_len rfl rfl tu23) (sR rfl rfl (d_lt rfl rfl rfl) (l_nil (k_cond rfl (fun hc20 => ?_) (fun hc20 => ?_)))))))))))
  ·replace hc20 := of_decide_eq_true hc20
   have hlt : i < t.ins.length := by omega
   obtain ⟨g0, o0, rfl, -⟩ := hr.2 (by omega)
   obtain ⟨x, hx⟩ := get_lt hlt
   obtain ⟨B3, d3, hL, hW, hp, hn⟩ := in_of (hel i x hx)
   have hwl := rl_len hW
   have hW0 := hW
   obtain ⟨A3_, c3_, zs, hv3_, _, _, hr3, hel3⟩ := hW
   cases hv3_
   have hq8 := q8 x (List.mem_of_getElem? hx)
   have hfl := len_take_flat (f := Tx.encWI) (k := 1177) (fun y hy => Tx.len_encW (q8 y hy).1 (q8 y hy).2) hi
   have hA : (Tx.bareB t ++ ((t.ins.take i).map Tx.encWI).flatten).length ≤ 100000 := by rw [List.length_append]; omega
   have hq1 := Pk.len_int (Pk.toU (x.wit.length : Int))
   refine k_skip (k_seq (k_block (k_seq (k_region (sMs rfl rfl rfl rfl (sR rfl rfl (d_fa rfl rfl tf26_0) (sR rfl rfl (d_ld rfl H rfl ta23 rfl) (sMi rfl rfl rfl rfl (sR rfl rfl (d_iaG rfl (H.rd hr) rfl rfl (q := i) rfl hlt tu23 ts34) (sR rfl rfl (d_fa rfl rfl tf34_1) ?_))))))))))
   refine sR rfl rfl (d_ldE (off := 33) rfl (H.rd hr) hlt hL (sub_in_w hp) rfl rfl (by omega) ta32) (sR rfl rfl (d_len rfl rfl tu32) (sC rfl rfl rfl Tryz.func47 rfl rfl rfl (refInt (b := (Tx.bareB t ++ ((t.ins.take i).map Tx.encWI).flatten)) (x.wit.length : Int) _ (H.rowbs (A := A2) rfl) (by omega) (by omega)) ?_))
   rintro _ W ⟨A8, c8, rfl, hc8, hd8, hn⟩
   replace H := H.new hn
   clear hn
   have f0 : (Tx.bareB t ++ ((t.ins.take i).map Tx.encWI).flatten) ++ Pk.int (Pk.toU (x.wit.length : Int)) = (((Tx.bareB t ++ ((t.ins.take i).map Tx.encWI).flatten) ++ Pk.int (Pk.toU (x.wit.length : Int))) ++ ((x.wit.take 0).map Pk.blob).flatten) := by simp
   rw [f0] at hc8 H
   refine sAs rfl rfl rfl rfl (l_nil (k_seq (k_region (sAi rfl rfl rfl rfl (l_nil (k_block (k_loop 32 [4, 7] (fun mm sl W => ∃ k : Nat, ∃ A5 : Option Addr, ∃ d5 : Nat, x.wit.length - k = mm ∧ sl = [(7, .int .i64 (k : Int)), (4, .slice A5 (((Tx.bareB t ++ ((t.ins.take i).map Tx.encWI).flatten) ++ Pk.int (Pk.toU (x.wit.length : Int))) ++ ((x.wit.take k).map Pk.blob).flatten).length d5)] ∧ (k ≤ x.wit.length) ∧ ((((Tx.bareB t ++ ((t.ins.take i).map Tx.encWI).flatten) ++ Pk.int (Pk.toU (x.wit.length : Int))) ++ ((x.wit.take k).map Pk.blob).flatten).length ≤ d5 ∧ d5 ≤ 9223372036854775807) ∧ St nT w W [Fact.row 5 1 (.slice A5 (((Tx.bareB t ++ ((t.ins.take i).map Tx.encWI).flatten) ++ Pk.int (Pk.toU (x.wit.length : Int))) ++ ((x.wit.take k).map Pk.blob).flatten).length d5) (((Tx.bareB t ++ ((t.ins.take i).map Tx.encWI).flatten) ++ Pk.int (Pk.toU (x.wit.length : Int))) ++ ((x.wit.take k).map Pk.blob).flatten).length ((((Tx.bareB t ++ ((t.ins.take i).map Tx.encWI).flatten) ++ Pk.int (Pk.toU (x.wit.length : Int))) ++ ((x.wit.take k).map Pk.blob).flatten).map u8v), Fact.blk gm (txC (some ⟨g0, o0, none⟩) t.ins.length c B t.outs.length d t.lock) 26]) _ _ ⟨0, A8, c8, rfl, rfl, Nat.zero_le _, ⟨hc8, hd8⟩, H.sub (by repeat (first | exact .refl _ | exact List.nil_sublist _ | refine .cons_cons _ ?_ | refine .cons _ ?_))⟩ ⟨rfl, sl_eq (congrArg List.length f0), trivial⟩ (fun mm sl ρv W hJ => ?_))))))))
   clear H; obtain ⟨k, A5, d5, rfl, rfl, hk_, hd5, H⟩ := hJ
   refine k_one (k_seq (k_seq (k_region (sMi rfl rfl rfl rfl (sR rfl rfl (d_fa rfl rfl tf26_0) (sR rfl rfl (d_ld rfl H rfl ta23 rfl) (sMi rfl rfl rfl rfl (sR rfl rfl (d_iaG rfl (H.rd hr) rfl rfl (q := i) rfl hlt tu23 ts34) (sR rfl rfl (d_fa rfl rfl tf34_1) (sR rfl rfl (d_ldE (off := 33) rfl (H.rd hr) hlt hL (sub_in_w hp) rfl rfl (by omega) ta32) ?_))))))))))
   refine sR rfl rfl (d_len rfl rfl tu32) (sR rfl rfl (d_lt rfl rfl rfl) (l_nil (k_cond rfl (fun hc40 => ?_) (fun hc40 => ?_))))
   ·replace hc40 := of_decide_eq_true hc40
    have hltk : k < x.wit.length := by omega
    obtain ⟨g3, o3, rfl, -⟩ := hr3.2 (by omega)
    obtain ⟨y, hy⟩ := get_lt hltk
    obtain ⟨B4, d4, hL3, hB4⟩ := rb_of (hel3 k y hy)
    have hyl := hq8.2 y (List.mem_of_getElem? hy)
    have hfk := len_take_flat (f := Pk.blob) (k := 73) (fun z hz => Tx.len_blob (hq8.2 z hz)) hk_
    have hA5 : (((Tx.bareB t ++ ((t.ins.take i).map Tx.encWI).flatten) ++ Pk.int (Pk.toU (x.wit.length : Int))) ++ ((x.wit.take k).map Pk.blob).flatten).length ≤ 200000 := by rw [List.length_append, List.length_append]; omega
    refine k_skip (k_seq (k_block (k_region (sMs rfl rfl rfl rfl (sR rfl rfl (d_fa rfl rfl tf26_0) (sR rfl rfl (d_ld rfl H rfl ta23 rfl) (sMi rfl rfl rfl rfl (sR rfl rfl (d_iaG rfl (H.rd hr) rfl rfl (q := i) rfl hlt tu23 ts34) (sR rfl rfl (d_fa rfl rfl tf34_1) (sR rfl rfl (d_ldE (off := 33) rfl (H.rd hr) hlt hL (sub_in_w hp) rfl rfl (by omega) ta32) ?_))))))))))
    refine sMi rfl rfl rfl rfl (sR rfl rfl (d_iaG rfl (H.rd hr3) rfl rfl (q := k) rfl hltk tu32 ts35) (sR rfl rfl (d_ldE (off := 0) rfl (H.rd hr3) hltk hL3 rfl rfl rfl (by omega) ta35) (sC rfl rfl rfl Tryz.func48 rfl rfl rfl (refBlob (b := (((Tx.bareB t ++ ((t.ins.take i).map Tx.encWI).flatten) ++ Pk.int (Pk.toU (x.wit.length : Int))) ++ ((x.wit.take k).map Pk.blob).flatten)) (p := y) _ (H.rowbs (A := A5) rfl) (by omega) (H.bs hB4) (by omega)) ?_)))
    rintro _ W ⟨A9, c9, rfl, hc9, hd9, hn⟩
    replace H := H.new hn
    clear hn
    refine sAs rfl rfl rfl rfl (l_nil (k_nil (b_end (k_region (sMi rfl rfl rfl rfl (sR rfl rfl (d_add rfl rfl rfl (by omega)) (sAi rfl rfl rfl rfl (l_nil (k_nil (k_next ?_))))))))))
    have hk1 : (((Tx.bareB t ++ ((t.ins.take i).map Tx.encWI).flatten) ++ Pk.int (Pk.toU (x.wit.length : Int))) ++ ((x.wit.take (k + 1)).map Pk.blob).flatten) = (((Tx.bareB t ++ ((t.ins.take i).map Tx.encWI).flatten) ++ Pk.int (Pk.toU (x.wit.length : Int))) ++ ((x.wit.take k).map Pk.blob).flatten) ++ Pk.blob y := by rw [flat_at hy]; simp only [List.append_assoc]
    refine ⟨_, _, _, ?_, rfl, ?_, ?_, ⟨k + 1, A9, c9, rfl, rfl, by omega, ⟨by rw [hk1]; exact hc9, hd9⟩, by rw [hk1]; exact H.sub (by repeat (first | exact .refl _ | exact List.nil_sublist _ | refine .cons_cons _ ?_ | refine .cons _ ?_))⟩⟩
    ·omega
    ·repeat (first | (with_reducible refine .updl _ .ovr ?_); exact rfl | (with_reducible refine .updl _ (.ovr2 ?_ ?_) ?_); rotate_left; exact rfl; exact rfl | (with_reducible refine .upd ?_ ?_); rotate_left; exact rfl)
    ·refine ⟨?_, ?_, trivial⟩
     ·exact vi (by omega)
     ·exact sl_eq (by first | (rw [hk1]; done) | (rw [hk1]; rfl))
   ·replace hc40 := of_decide_eq_false hc40
    refine k_exit (x_then (x_then ?_))
    refine x_hit (k_nil (b_end (k_region (sMi rfl rfl rfl rfl (sR rfl rfl (d_add rfl rfl rfl (by omega)) (sAi rfl rfl rfl rfl (l_nil (k_nil (k_next ?_)))))))))
    obtain rfl : k = x.wit.length := by omega
    have he : (Tx.bareB t ++ ((t.ins.take (i + 1)).map Tx.encWI).flatten) = (((Tx.bareB t ++ ((t.ins.take i).map Tx.encWI).flatten) ++ Pk.int (Pk.toU (x.wit.length : Int))) ++ ((x.wit.take x.wit.length).map Pk.blob).flatten) := by rw [flat_at hx, List.take_length]; unfold Tx.encWI Tx.encW encL; rw [toU_cast' hwl]; simp only [List.append_assoc]
    refine ⟨_, _, _, ?_, rfl, ?_, ?_, ⟨i + 1, A5, d5, rfl, rfl, by omega, ⟨by rw [he]; exact hd5.1, hd5.2⟩, by rw [he]; exact H⟩⟩
    ·omega
    ·repeat (first | (with_reducible refine .updl _ .ovr ?_); exact rfl | (with_reducible refine .updl _ (.ovr2 ?_ ?_) ?_); rotate_left; exact rfl; exact rfl | (with_reducible refine .upd ?_ ?_); rotate_left; exact rfl)
    ·refine ⟨?_, ?_, trivial⟩
     ·exact vi (by omega)
     ·exact sl_eq (by rw [he])
  ·replace hc20 := of_decide_eq_false hc20
   obtain rfl : i = t.ins.length := by omega
   have hE : (Tx.bareB t ++ ((t.ins.take t.ins.length).map Tx.encWI).flatten) = Tx.put t := by rw [List.take_length]; unfold Tx.put; rw [if_pos hne]; rfl
   rw [hE] at hd H ⊢
   refine k_exit (x_then (x_then ?_))
   refine x_hit (k_seq (k_region (sMs rfl rfl rfl rfl (sAs rfl rfl rfl rfl (sAi rfl rfl rfl rfl (l_nil (k_ret ?_)))))))
   repeat (first | refine r_then ?_ | refine r_blk ?_)
   rw [hne]
   exact q_ret2 (v := .slice _ _ _) (x := .int _ _) rfl rfl rfl ⟨_, rfl, _, rfl, H.newB rfl rfl hd.1 hd.2⟩

theorem taggedRB {S : Nat → Prop} {v : Value} {b : List UInt8} {s : ByteArray} (w : World) (hb : Bs w S v b) (hs : s.size ≤ 1000000000) (hbl : b.length ≤ 1000000000) : Calls Tryz.prog 93 [.string s, v].toArray w (Ret (Is w (.agg ((Old.Bl.tagged s.data.toList b).map u8v).toArray))) :=
 Calls.mono (Old.tagged_ref s v b w hb hs hbl) (fun e w' h => by
  obtain ⟨h1, h2⟩ := h
  exact ⟨_, h1, rfl, h2⟩)

set_option maxHeartbeats 4000000 in
theorem taggedTR {S : Nat → Prop} {cs : List Value} {t : DTx} {s : ByteArray} (w : World) (ht : RTx w S cs t) (hs : s.size ≤ 1000) : Calls Tryz.prog 63 [.string s, .agg cs.toArray].toArray w (Ret (Is w (.agg ((Tx.dig s t).map u8v).toArray))) := by
 obtain ⟨A, c, B, d, rfl, hI, hO, hk⟩ := tx_of ht
 have hok := tx_ok ht
 refine k_enter (l := [_, _]) Tryz.func63 rfl rfl ?_
 have H := St.start nT w
 refine k_seq (k_region (s_eff (e_box (vs := (txC A t.ins.length c B t.outs.length d t.lock)) (w_none rfl) rfl rfl rfl rfl H ?_)))
 clear H; intro gm W H
 refine s_eff (e_alloc (w_none rfl) rfl rfl (List.replicate 32 (u8v 0)) tz29 H ?_)
 clear H; intro go W H
 refine l_nil (k_seq (k_region (sR rfl rfl (d_ldXM (g := gm) (off := 0) rfl H (sub_all (a := txC A t.ins.length c B t.outs.length d t.lock) (m := 3) rfl) rfl rfl rfl rfl ta26 ts26) (sC rfl rfl rfl Tryz.func18 rfl rfl rfl (bareTR _ (keeps_Tx _ _ _ _ _ ht (fun g hg _ => H.fr.block g hg (fun h => h)))) ?_))))
 rintro _ W ⟨_, rfl, A1, c1, rfl, hc1, hd1, hn⟩
 replace H := H.new hn
 clear hn
 refine sR rfl rfl (mv_t rfl rfl) (sR rfl rfl (d_ext rfl rfl rfl) (sR rfl rfl (d_ext rfl rfl rfl) (sAs rfl rfl rfl rfl (sAi rfl rfl rfl rfl (l_nil (k_seq (k_seq (k_region (sMi rfl rfl rfl rfl (sR rfl rfl (d_ne rfl rfl rfl) ?_))))))))))
 refine l_nil (k_cond rfl (fun hc13 => ?_) (fun hc13 => ?_))
 ·have hne : ¬ Tx.chk t = 0 := by simpa using hc13
  have e1 : Tx.dig s t = List.replicate 32 0 := by unfold Tx.dig; rw [if_neg hne]
  refine k_seq (k_region (sR rfl rfl (d_build (vs := (List.replicate 32 (0 : UInt8)).map u8v) rfl (by kernel_rfl)) ?_))
  refine s_eff (e_stoK ((List.replicate 32 (0 : UInt8)).map u8v) (w_none rfl) rfl rfl rfl rfl rfl ts29 (by simp) (all_u8L _) H (by decide) (spl_all (by simp)) ?_)
  clear H; intro W H
  refine l_nil (k_ret ?_)
  repeat (first | refine r_then ?_ | refine r_blk ?_)
  rw [e1]
  exact q_retc rfl (c := (List.replicate 32 (0 : UInt8)).map u8v) (g := go) H rfl ta29 ts29 ⟨_, rfl, rfl, H.under⟩
 ·have hne : Tx.chk t = 0 := by simpa using hc13
  have e1 : Tx.dig s t = Old.Bl.tagged s.data.toList (Tx.bare t) := by unfold Tx.dig Tx.bare; rw [if_pos hne, if_pos hne]
  have hlb := Tx.len_bare hok
  refine k_skip (k_seq (k_region (sR rfl rfl (mv_str rfl rfl) (sMs rfl rfl rfl rfl (sC rfl rfl rfl Tryz.func93 rfl rfl rfl (taggedRB _ (H.rowbs (A := A1) (l := Tx.bare t) rfl) (by omega) (by omega)) ?_)))))
  rintro _ W ⟨rfl, hb⟩
  replace H := H.below hb
  clear hb
  refine s_eff (e_stoK ((Old.Bl.tagged s.data.toList (Tx.bare t)).map u8v) (w_none rfl) rfl rfl rfl rfl rfl ts29 (by rw [List.length_map]; exact Old.Bl.len_tagged _ _) (all_u8L _) H (by decide) (spl_all (by rw [List.length_map, List.length_replicate]; exact Old.Bl.len_tagged _ _)) ?_)
  clear H; intro W H
  refine l_nil (k_ret ?_)
  repeat (first | refine r_then ?_ | refine r_blk ?_)
  rw [e1]
  exact q_retc rfl (c := (Old.Bl.tagged s.data.toList (Tx.bare t)).map u8v) (g := go) H rfl ta29 (by rw [List.length_map, Old.Bl.len_tagged]; exact ts29) ⟨_, rfl, rfl, H.under⟩

set_option maxHeartbeats 4000000 in
theorem idTR {S : Nat → Prop} {cs : List Value} {t : DTx} (w : World) (ht : RTx w S cs t) : Calls Tryz.prog 23 [.agg cs.toArray].toArray w (Ret (Is w (.agg ((Tx.dig Tx.tTx t).map u8v).toArray))) := by
 obtain ⟨A, c, B, d, rfl, hI, hO, hk⟩ := tx_of ht
 have hok := tx_ok ht
 refine k_enter (l := [_]) Tryz.func23 rfl rfl ?_
 have H := St.start nT w
 refine k_seq (k_region (s_eff (e_box (vs := (txC A t.ins.length c B t.outs.length d t.lock)) (w_none rfl) rfl rfl rfl rfl H ?_)))
 clear H; intro gm W H
 refine s_eff (e_alloc (w_none rfl) rfl rfl (List.replicate 32 (u8v 0)) tz29 H ?_)
 clear H; intro go W H
 refine l_nil (k_seq (k_region (sR rfl rfl (d_ldXM (g := gm) (off := 0) rfl H (sub_all (a := txC A t.ins.length c B t.outs.length d t.lock) (m := 3) rfl) rfl rfl rfl rfl ta26 ts26) (sC rfl rfl rfl Tryz.func63 rfl rfl rfl (taggedTR (s := Tx.tTx) _ (keeps_Tx _ _ _ _ _ ht (fun g hg _ => H.fr.block g hg (fun h => h))) (by decide)) ?_))))
 rintro _ W ⟨rfl, hb⟩
 replace H := H.below hb
 clear hb
 refine s_eff (e_stoK ((Tx.dig Tx.tTx t).map u8v) (w_none rfl) rfl rfl rfl rfl rfl ts29 (by rw [List.length_map]; exact Tx.len_dig) (all_u8L _) H (by decide) (spl_all (by rw [List.length_map, List.length_replicate]; exact Tx.len_dig)) ?_)
 clear H; intro W H
 refine l_nil (k_ret ?_)
 repeat (first | refine r_then ?_ | refine r_blk ?_)
 exact q_retc rfl (c := (Tx.dig Tx.tTx t).map u8v) (g := go) H rfl ta29 (by rw [List.length_map, Tx.len_dig]; exact ts29) ⟨_, rfl, rfl, H.under⟩

set_option maxHeartbeats 4000000 in
theorem digestTR {S : Nat → Prop} {cs : List Value} {t : DTx} (w : World) (ht : RTx w S cs t) : Calls Tryz.prog 25 [.agg cs.toArray].toArray w (Ret (Is w (.agg ((Tx.dig Tx.tSign t).map u8v).toArray))) := by
 obtain ⟨A, c, B, d, rfl, hI, hO, hk⟩ := tx_of ht
 have hok := tx_ok ht
 refine k_enter (l := [_]) Tryz.func25 rfl rfl ?_
 have H := St.start nT w
 refine k_seq (k_region (s_eff (e_box (vs := (txC A t.ins.length c B t.outs.length d t.lock)) (w_none rfl) rfl rfl rfl rfl H ?_)))
 clear H; intro gm W H
 refine s_eff (e_alloc (w_none rfl) rfl rfl (List.replicate 32 (u8v 0)) tz29 H ?_)
 clear H; intro go W H
 refine l_nil (k_seq (k_region (sR rfl rfl (d_ldXM (g := gm) (off := 0) rfl H (sub_all (a := txC A t.ins.length c B t.outs.length d t.lock) (m := 3) rfl) rfl rfl rfl rfl ta26 ts26) (sC rfl rfl rfl Tryz.func63 rfl rfl rfl (taggedTR (s := Tx.tSign) _ (keeps_Tx _ _ _ _ _ ht (fun g hg _ => H.fr.block g hg (fun h => h))) (by decide)) ?_))))
 rintro _ W ⟨rfl, hb⟩
 replace H := H.below hb
 clear hb
 refine s_eff (e_stoK ((Tx.dig Tx.tSign t).map u8v) (w_none rfl) rfl rfl rfl rfl rfl ts29 (by rw [List.length_map]; exact Tx.len_dig) (all_u8L _) H (by decide) (spl_all (by rw [List.length_map, List.length_replicate]; exact Tx.len_dig)) ?_)
 clear H; intro W H
 refine l_nil (k_ret ?_)
 repeat (first | refine r_then ?_ | refine r_blk ?_)
 exact q_retc rfl (c := (Tx.dig Tx.tSign t).map u8v) (g := go) H rfl ta29 (by rw [List.length_map, Tx.len_dig]; exact ts29) ⟨_, rfl, rfl, H.under⟩

set_option maxHeartbeats 4000000 in
theorem weightTR {S : Nat → Prop} {cs : List Value} {t : DTx} (w : World) (ht : RTx w S cs t) : Calls Tryz.prog 27 [.agg cs.toArray].toArray w (Ret (Is w (.int .i64 (Tx.weight t)))) := by
 obtain ⟨A, c, B, d, rfl, hI, hO, hk⟩ := tx_of ht
 have hok := tx_ok ht
 have hl1 := Tx.len_bare hok
 have hl2 := Tx.len_put hok
 refine k_enter (l := [_]) Tryz.func27 rfl rfl ?_
 have H := St.start nT w
 refine k_seq (k_region (s_eff (e_box (vs := (txC A t.ins.length c B t.outs.length d t.lock)) (w_none rfl) rfl rfl rfl rfl H ?_)))
 clear H; intro gm W H
 refine sAi rfl rfl rfl rfl (l_nil (k_seq (k_region (sR rfl rfl (d_ldXM (g := gm) (off := 0) rfl H (sub_all (a := txC A t.ins.length c B t.outs.length d t.lock) (m := 3) rfl) rfl rfl rfl rfl ta26 ts26) (sC rfl rfl rfl Tryz.func18 rfl rfl rfl (bareTR _ (keeps_Tx _ _ _ _ _ ht (fun g hg _ => H.fr.block g hg (fun h => h)))) ?_)))))
 rintro _ W ⟨_, rfl, A1, c1, rfl, hc1, hd1, hn⟩
 replace H := H.new hn
 clear hn
 refine sR rfl rfl (mv_t rfl rfl) (sR rfl rfl (d_ext rfl rfl rfl) (sR rfl rfl (d_ext rfl rfl rfl) (sAs rfl rfl rfl rfl (sAi rfl rfl rfl rfl (l_nil (k_seq (k_region (sR rfl rfl (d_ldXM (g := gm) (off := 0) rfl H (sub_all (a := txC A t.ins.length c B t.outs.length d t.lock) (m := 3) rfl) rfl rfl rfl rfl ta26 ts26) (sC rfl rfl rfl Tryz.func17 rfl rfl rfl (putTR _ (keeps_Tx _ _ _ _ _ ht (fun g hg _ => H.fr.block g hg (fun h => h)))) ?_)))))))))
 rintro _ W ⟨_, rfl, A2, c2, rfl, hc2, hd2, hn⟩
 replace H := H.new hn
 clear hn
 refine sR rfl rfl (mv_t rfl rfl) (sR rfl rfl (d_ext rfl rfl rfl) (sR rfl rfl (d_ext rfl rfl rfl) (sAs rfl rfl rfl rfl (sAi rfl rfl rfl rfl (l_nil (k_seq (k_region (sMs rfl rfl rfl rfl (sR rfl rfl (d_len rfl rfl tu35) (sR rfl rfl (d_mul rfl rfl rfl (by omega)) ?_))))))))))
 refine sMs rfl rfl rfl rfl (sR rfl rfl (d_len rfl rfl tu35) (sR rfl rfl (d_add rfl rfl rfl (by omega)) (sAi rfl rfl rfl rfl (l_nil (k_ret ?_)))))
 repeat (first | refine r_then ?_ | refine r_blk ?_)
 exact q_ret (v := .int _ _) rfl rfl ⟨_, rfl, rfl, H.under⟩
end Go.Proofs.YteakkflhndifbaaGreatDoor

namespace Go.Proofs.YteakkflhndifbaaGreatDoor
open Go Go.RowKit
attribute [local irreducible] wpList

set_option maxHeartbeats 4000000 in
theorem txPuts {S : Nat → Prop} {cs : List Value} {t : DTx} (w : World) (hG : Gat w 0 formsC) (hB : Old.Gl w) (ht : RTx w S cs t) (hz : Tx.Szd t) : Calls Tryz.prog 5 [.agg cs.toArray].toArray w (Ret (Is w (.bool true))) := by
 obtain ⟨A, c, B, d, rfl, hI, hO, hk⟩ := tx_of ht
 have hok := tx_ok ht
 have hl1 := Tx.len_bare hok
 have hl2 := Tx.len_put hok
 refine k_enter (l := [_]) Tryz.func5 rfl rfl ?_
 have H := St.start nT w
 refine k_seq (k_region (s_eff (e_box (vs := (txC A t.ins.length c B t.outs.length d t.lock)) (w_none rfl) rfl rfl rfl rfl H ?_)))
 clear H; intro gm W H
 refine sAb rfl rfl rfl rfl (l_nil (k_seq (k_seq (k_region (sR rfl rfl (d_ldXM (g := gm) (off := 0) rfl H (sub_all (a := txC A t.ins.length c B t.outs.length d t.lock) (m := 3) rfl) rfl rfl rfl rfl ta26 ts26) (sC rfl rfl rfl Tryz.func14 rfl rfl rfl (bigTx (rows := 40) (bytes := 8192) _ (keeps_Tx _ _ _ _ _ ht (fun g hg _ => H.fr.block g hg (fun h => h))) hz) ?_))))))
 rintro _ W ⟨rfl, hb⟩
 replace H := H.below hb
 clear hb
 refine l_nil (k_cond rfl (fun hc15 => ?_) (fun hc15 => ?_))
 ·skip
  refine k_seq (k_region (sC rfl rfl rfl Tryz.func13 rfl rfl rfl (works07 _ (H.gat hG) (H.gl hB)) ?_))
  rintro _ W ⟨rfl, hb⟩
  replace H := H.below hb
  clear hb
  refine sAb rfl rfl rfl rfl (l_nil (k_ret ?_))
  repeat (first | refine r_then ?_ | refine r_blk ?_)
  exact q_ret (v := .bool _) rfl rfl ⟨_, rfl, rfl, H.under⟩
 ·have hsm := Tx.not_big hc15 (by decide)
  refine k_skip (k_seq (k_region (sR rfl rfl (d_ldXM (g := gm) (off := 0) rfl H (sub_all (a := txC A t.ins.length c B t.outs.length d t.lock) (m := 3) rfl) rfl rfl rfl rfl ta26 ts26) (sC rfl rfl rfl Tryz.func15 rfl rfl rfl (copyTx _ (keeps_Tx _ _ _ _ _ ht (fun g hg _ => H.fr.block g hg (fun h => h))) (Tx.fits hsm (by decide) (by decide))) ?_))))
  rintro _ W hs_
  obtain ⟨Sn1, An1, cn1, Bn1, dn1, rfl, H1_⟩ := NewTx.rep hs_ H hk
  clear H hs_
  have H := H1_
  clear H1_
  refine s_eff (e_alloc (w_none rfl) rfl rfl [.slice none 0 0, .slice none 0 0, .int .i64 0] tz26 H ?_)
  clear H; intro gx W H
  refine s_eff (e_stoK (txC An1 t.ins.length cn1 Bn1 t.outs.length dn1 t.lock) (w_none rfl) rfl rfl rfl rfl rfl ts26 rfl rfl H (by decide) rfl ?_)
  clear H; intro W H
  refine l_nil (k_seq (k_region (sR rfl rfl (d_ldXM (g := gx) (off := 0) rfl H (sub_all (a := txC An1 t.ins.length cn1 Bn1 t.outs.length dn1 t.lock) (m := 3) rfl) rfl rfl rfl rfl ta26 ts26) (sC rfl rfl rfl Tryz.func9 rfl rfl rfl (putTP _ (H.rep1 (R := RTx) (S := Sn1) (cs := txC An1 t.ins.length cn1 Bn1 t.outs.length dn1 t.lock) (a := t)) (H.gat hG)) ?_))))
  rintro _ W ⟨_, rfl, A1, c1, rfl, hc1, hd1, hn⟩
  replace H := H.new hn
  clear hn
  refine sR rfl rfl (mv_t rfl rfl) (sR rfl rfl (d_ext rfl rfl rfl) (sR rfl rfl (d_ext rfl rfl rfl) (sAs rfl rfl rfl rfl (sAi rfl rfl rfl rfl (l_nil (k_seq (k_region (sR rfl rfl (d_ldXM (g := gx) (off := 0) rfl H (sub_all (a := txC An1 t.ins.length cn1 Bn1 t.outs.length dn1 t.lock) (m := 3) rfl) rfl rfl rfl rfl ta26 ts26) (sC rfl rfl rfl Tryz.func9 rfl rfl rfl (putTP _ (H.rep1 (R := RTx) (S := Sn1) (cs := txC An1 t.ins.length cn1 Bn1 t.outs.length dn1 t.lock) (a := t)) (H.gat hG)) ?_)))))))))
  rintro _ W ⟨_, rfl, A2, c2, rfl, hc2, hd2, hn⟩
  replace H := H.new hn
  clear hn
  refine sR rfl rfl (mv_t rfl rfl) (sR rfl rfl (d_ext rfl rfl rfl) (sR rfl rfl (d_ext rfl rfl rfl) (sAs rfl rfl rfl rfl (sAi rfl rfl rfl rfl (l_nil (k_seq (k_region (sR rfl rfl (d_ldXM (g := gx) (off := 0) rfl H (sub_all (a := txC An1 t.ins.length cn1 Bn1 t.outs.length dn1 t.lock) (m := 3) rfl) rfl rfl rfl rfl ta26 ts26) (sC rfl rfl rfl Tryz.func16 rfl rfl rfl (bareTP _ (H.rep1 (R := RTx) (S := Sn1) (cs := txC An1 t.ins.length cn1 Bn1 t.outs.length dn1 t.lock) (a := t)) (H.gat hG)) ?_)))))))))
  rintro _ W ⟨_, rfl, A3, c3, rfl, hc3, hd3, hn⟩
  replace H := H.new hn
  clear hn
  refine sR rfl rfl (mv_t rfl rfl) (sR rfl rfl (d_ext rfl rfl rfl) (sR rfl rfl (d_ext rfl rfl rfl) (sAs rfl rfl rfl rfl (sAi rfl rfl rfl rfl (l_nil (k_seq (k_region (sR rfl rfl (d_ldXM (g := gm) (off := 0) rfl H (sub_all (a := txC A t.ins.length c B t.outs.length d t.lock) (m := 3) rfl) rfl rfl rfl rfl ta26 ts26) (sC rfl rfl rfl Tryz.func17 rfl rfl rfl (putTR _ (keeps_Tx _ _ _ _ _ ht (fun g hg _ => H.fr.block g hg (fun h => h)))) ?_)))))))))
  rintro _ W ⟨_, rfl, A4, c4, rfl, hc4, hd4, hn⟩
  replace H := H.new hn
  clear hn
  refine sR rfl rfl (mv_t rfl rfl) (sR rfl rfl (d_ext rfl rfl rfl) (sR rfl rfl (d_ext rfl rfl rfl) (sAs rfl rfl rfl rfl (sAi rfl rfl rfl rfl (l_nil (k_seq (k_region (sR rfl rfl (d_ldXM (g := gm) (off := 0) rfl H (sub_all (a := txC A t.ins.length c B t.outs.length d t.lock) (m := 3) rfl) rfl rfl rfl rfl ta26 ts26) (sC rfl rfl rfl Tryz.func18 rfl rfl rfl (bareTR _ (keeps_Tx _ _ _ _ _ ht (fun g hg _ => H.fr.block g hg (fun h => h)))) ?_)))))))))
  rintro _ W ⟨_, rfl, A5, c5, rfl, hc5, hd5, hn⟩
  replace H := H.new hn
  clear hn
  refine sR rfl rfl (mv_t rfl rfl) (sR rfl rfl (d_ext rfl rfl rfl) (sR rfl rfl (d_ext rfl rfl rfl) (sAs rfl rfl rfl rfl (sAi rfl rfl rfl rfl (l_nil (k_seq (k_seq (k_region (sR rfl rfl (d_ldXM (g := gx) (off := 0) rfl H (sub_all (a := txC An1 t.ins.length cn1 Bn1 t.outs.length dn1 t.lock) (m := 3) rfl) rfl rfl rfl rfl ta26 ts26) (sC rfl rfl rfl Tryz.func19 rfl rfl rfl (checkTP _ (H.rep1 (R := RTx) (S := Sn1) (cs := txC An1 t.ins.length cn1 Bn1 t.outs.length dn1 t.lock) (a := t))) ?_))))))))))
  rintro _ W ⟨rfl, hb⟩
  replace H := H.below hb
  clear hb
  refine sMi rfl rfl rfl rfl (sR rfl rfl (d_ne rfl rfl rfl) (sR rfl rfl (mv_bx (c := false) rfl rfl (by simp)) ?_))
  refine s_run (w_g rfl rfl rfl rfl) rfl (mv_i rfl rfl) (s_run (w_g rfl rfl rfl rfl) rfl (mv_i rfl rfl) (s_run (w_g rfl rfl rfl rfl) rfl (d_ne rfl rfl rfl) (sR rfl rfl (d_pickF rfl rfl rfl) (sR rfl rfl (mv_bx (c := false) rfl rfl (by simp)) ?_))))
  refine s_run (w_g rfl rfl rfl rfl) rfl (mv_i rfl rfl) (s_run (w_g rfl rfl rfl rfl) rfl (mv_i rfl rfl) (s_run (w_g rfl rfl rfl rfl) rfl (d_ne rfl rfl rfl) (sR rfl rfl (d_pickF rfl rfl rfl) (sR rfl rfl (mv_bx (c := false) rfl rfl (by simp)) ?_))))
  refine s_run (w_g rfl rfl rfl rfl) rfl (mv_s rfl rfl) (s_run (w_g rfl rfl rfl rfl) rfl (mv_s rfl rfl) (s_eff (e_call (w_g rfl rfl rfl rfl) rfl rfl Tryz.func20 rfl rfl rfl (sameBytes _ _ (Tx.put t) (Tx.put t) _ (H.rowbs (A := A1) rfl) (H.rowbs (A := A4) rfl)) ?_)))
  rintro _ W ⟨rfl, hb⟩
  replace H := H.below hb
  clear hb
  refine s_run (w_g rfl rfl rfl rfl) rfl (d_not rfl rfl) (sR rfl rfl (d_pickF rfl rfl rfl) (sR rfl rfl (mv_bx (c := false) rfl rfl (by simp)) ?_))
  refine s_run (w_g rfl rfl rfl rfl) rfl (mv_s rfl rfl) (s_run (w_g rfl rfl rfl rfl) rfl (mv_s rfl rfl) (s_eff (e_call (w_g rfl rfl rfl rfl) rfl rfl Tryz.func20 rfl rfl rfl (sameBytes _ _ (Tx.bare t) (Tx.bare t) _ (H.rowbs (A := A3) rfl) (H.rowbs (A := A5) rfl)) ?_)))
  rintro _ W ⟨rfl, hb⟩
  replace H := H.below hb
  clear hb
  refine s_run (w_g rfl rfl rfl rfl) rfl (d_not rfl rfl) (sR rfl rfl (d_pickF rfl rfl rfl) (l_nil (k_condF rfl (by simp) ?_)))
  refine k_skip (k_seq (k_region (sMs rfl rfl rfl rfl (sC rfl rfl rfl Tryz.func21 rfl rfl rfl (spoilAll _ (H.get (f := Fact.row 5 1 (.slice A1 (Tx.put t).length c1) (Tx.put t).length ((Tx.put t).map u8v))) (by omega)) ?_))))
  rintro _ W ⟨rfl, ⟨ys1, hr_⟩, hf_⟩
  replace H := H.mut (f := Fact.row 5 1 (.slice A1 (Tx.put t).length c1) (Tx.put t).length ((Tx.put t).map u8v)) (f' := Fact.row 5 1 (.slice A1 (Tx.put t).length c1) (Tx.put t).length ((ys1).map u8v)) hf_ hr_ (fun _ h => h)
  clear hr_ hf_
  refine l_nil (k_seq (k_region (sMs rfl rfl rfl rfl (sC rfl rfl rfl Tryz.func21 rfl rfl rfl (spoilAll _ (H.get (f := Fact.row 5 1 (.slice A3 (Tx.bare t).length c3) (Tx.bare t).length ((Tx.bare t).map u8v))) (by omega)) ?_))))
  rintro _ W ⟨rfl, ⟨ys3, hr_⟩, hf_⟩
  replace H := H.mut (f := Fact.row 5 1 (.slice A3 (Tx.bare t).length c3) (Tx.bare t).length ((Tx.bare t).map u8v)) (f' := Fact.row 5 1 (.slice A3 (Tx.bare t).length c3) (Tx.bare t).length ((ys3).map u8v)) hf_ hr_ (fun _ h => h)
  clear hr_ hf_
  refine l_nil (k_seq (k_draw [(0, true), (1, true), (2, false), (3, true), (4, true), (6, true), (5, false), (7, false), (8, true), (9, true), (10, true), (11, true), (13, true), (12, false), (14, false), (15, true), (16, true), (17, true), (18, true), (20, true), (19, false), (21, false), (22, true), (23, true), (24, true), (25, true), (26, true), (27, false), (28, true), (29, true), (30, false), (31, true), (32, true)] [Fact.blk gx (txC An1 t.ins.length cn1 Bn1 t.outs.length dn1 t.lock) 26, Fact.blk gm (txC A t.ins.length c B t.outs.length d t.lock) 26] (by kernel_rfl) (by kernel_rfl) H (by repeat (first | exact .refl _ | exact List.nil_sublist _ | refine .cons_cons _ ?_ | refine .cons _ ?_)) ?_))
  clear H; intro W H
  refine cR rfl rfl rfl (fun W H => mv_s rfl rfl) (cR rfl rfl rfl (fun W H => mv_s rfl rfl) (c_eff rfl (e_call (w_none rfl) rfl rfl Tryz.func20 rfl rfl rfl (sameBytes _ _ (Tx.put t) (Tx.put t) _ (H.rowbs (A := A2) rfl) (H.rowbs (A := A4) rfl)) ?_)))
  rintro _ W ⟨rfl, hb⟩
  replace H := H.below hb
  clear hb
  refine ⟨H.sub (by repeat (first | exact .refl _ | exact List.nil_sublist _ | refine .cons_cons _ ?_ | refine .cons _ ?_)), ?_⟩
  refine cR rfl rfl rfl (fun W H => mv_bx (c := true) rfl rfl (by simp)) ?_
  refine c_run rfl (w_g rfl rfl rfl rfl) rfl (fun W H => d_ldXM (g := gx) (off := 0) rfl H (sub_all (a := txC An1 t.ins.length cn1 Bn1 t.outs.length dn1 t.lock) (m := 3) rfl) rfl rfl rfl rfl ta26 ts26) (c_run rfl (w_g rfl rfl rfl rfl) rfl (fun W H => d_ldXM (g := gm) (off := 0) rfl H (sub_all (a := txC A t.ins.length c B t.outs.length d t.lock) (m := 3) rfl) rfl rfl rfl rfl ta26 ts26) (c_eff rfl (e_call (w_g rfl rfl rfl rfl) rfl rfl Tryz.func22 rfl rfl rfl (idTP _ (H.rep1 (R := RTx) (S := Sn1) (cs := txC An1 t.ins.length cn1 Bn1 t.outs.length dn1 t.lock) (a := t)) (H.gat hG) (H.gl hB)) ?_)))
  rintro _ W ⟨rfl, hb⟩
  replace H := H.below hb
  clear hb
  refine ⟨H.sub (by repeat (first | exact .refl _ | exact List.nil_sublist _ | refine .cons_cons _ ?_ | refine .cons _ ?_)), ?_⟩
  refine c_eff rfl (e_call (w_g rfl rfl rfl rfl) rfl rfl Tryz.func23 rfl rfl rfl (idTR _ (keeps_Tx _ _ _ _ _ ht (fun g hg _ => H.fr.block g hg (fun h => h)))) ?_)
  rintro _ W ⟨rfl, hb⟩
  replace H := H.below hb
  clear hb
  refine ⟨H.sub (by repeat (first | exact .refl _ | exact List.nil_sublist _ | refine .cons_cons _ ?_ | refine .cons _ ?_)), ?_⟩
  refine c_run rfl (w_g rfl rfl rfl rfl) rfl (fun W H => d_eqarr rfl rfl rfl tu29 tu5 ts5 Tx.len_dig Tx.len_dig (by kernel_rfl)) ?_
  refine cR rfl rfl rfl (fun W H => d_pickT rfl rfl rfl) (cR rfl rfl rfl (fun W H => mv_bx (c := true) rfl rfl (by simp)) ?_)
  refine c_run rfl (w_g rfl rfl rfl rfl) rfl (fun W H => d_ldXM (g := gx) (off := 0) rfl H (sub_all (a := txC An1 t.ins.length cn1 Bn1 t.outs.length dn1 t.lock) (m := 3) rfl) rfl rfl rfl rfl ta26 ts26) (c_run rfl (w_g rfl rfl rfl rfl) rfl (fun W H => d_ldXM (g := gm) (off := 0) rfl H (sub_all (a := txC A t.ins.length c B t.outs.length d t.lock) (m := 3) rfl) rfl rfl rfl rfl ta26 ts26) (c_eff rfl (e_call (w_g rfl rfl rfl rfl) rfl rfl Tryz.func24 rfl rfl rfl (digestTP _ (H.rep1 (R := RTx) (S := Sn1) (cs := txC An1 t.ins.length cn1 Bn1 t.outs.length dn1 t.lock) (a := t)) (H.gat hG) (H.gl hB)) ?_)))
  rintro _ W ⟨rfl, hb⟩
  replace H := H.below hb
  clear hb
  refine ⟨H.sub (by repeat (first | exact .refl _ | exact List.nil_sublist _ | refine .cons_cons _ ?_ | refine .cons _ ?_)), ?_⟩
  refine c_eff rfl (e_call (w_g rfl rfl rfl rfl) rfl rfl Tryz.func25 rfl rfl rfl (digestTR _ (keeps_Tx _ _ _ _ _ ht (fun g hg _ => H.fr.block g hg (fun h => h)))) ?_)
  rintro _ W ⟨rfl, hb⟩
  replace H := H.below hb
  clear hb
  refine ⟨H.sub (by repeat (first | exact .refl _ | exact List.nil_sublist _ | refine .cons_cons _ ?_ | refine .cons _ ?_)), ?_⟩
  refine c_run rfl (w_g rfl rfl rfl rfl) rfl (fun W H => d_eqarr rfl rfl rfl tu29 tu5 ts5 Tx.len_dig Tx.len_dig (by kernel_rfl)) ?_
  refine cR rfl rfl rfl (fun W H => d_pickT rfl rfl rfl) (cR rfl rfl rfl (fun W H => mv_bx (c := true) rfl rfl (by simp)) ?_)
  refine c_run rfl (w_g rfl rfl rfl rfl) rfl (fun W H => d_ldXM (g := gx) (off := 0) rfl H (sub_all (a := txC An1 t.ins.length cn1 Bn1 t.outs.length dn1 t.lock) (m := 3) rfl) rfl rfl rfl rfl ta26 ts26) (c_run rfl (w_g rfl rfl rfl rfl) rfl (fun W H => d_ldXM (g := gm) (off := 0) rfl H (sub_all (a := txC A t.ins.length c B t.outs.length d t.lock) (m := 3) rfl) rfl rfl rfl rfl ta26 ts26) (c_eff rfl (e_call (w_g rfl rfl rfl rfl) rfl rfl Tryz.func26 rfl rfl rfl (weightTP _ (H.rep1 (R := RTx) (S := Sn1) (cs := txC An1 t.ins.length cn1 Bn1 t.outs.length dn1 t.lock) (a := t)) (H.gat hG)) ?_)))
  rintro _ W ⟨rfl, hb⟩
  replace H := H.below hb
  clear hb
  refine ⟨H.sub (by repeat (first | exact .refl _ | exact List.nil_sublist _ | refine .cons_cons _ ?_ | refine .cons _ ?_)), ?_⟩
  refine c_eff rfl (e_call (w_g rfl rfl rfl rfl) rfl rfl Tryz.func27 rfl rfl rfl (weightTR _ (keeps_Tx _ _ _ _ _ ht (fun g hg _ => H.fr.block g hg (fun h => h)))) ?_)
  rintro _ W ⟨rfl, hb⟩
  replace H := H.below hb
  clear hb
  refine ⟨H.sub (by repeat (first | exact .refl _ | exact List.nil_sublist _ | refine .cons_cons _ ?_ | refine .cons _ ?_)), ?_⟩
  refine c_run rfl (w_g rfl rfl rfl rfl) rfl (fun W H => d_eq rfl rfl rfl) (cR rfl rfl rfl (fun W H => d_pickT rfl rfl rfl) (cR rfl rfl rfl (fun W H => mv_bx (c := true) rfl rfl (by simp)) ?_))
  refine c_run rfl (w_g rfl rfl rfl rfl) rfl (fun W H => d_ldXM (g := gx) (off := 0) rfl H (sub_all (a := txC An1 t.ins.length cn1 Bn1 t.outs.length dn1 t.lock) (m := 3) rfl) rfl rfl rfl rfl ta26 ts26) (c_run rfl (w_g rfl rfl rfl rfl) rfl (fun W H => d_ldXM (g := gm) (off := 0) rfl H (sub_all (a := txC A t.ins.length c B t.outs.length d t.lock) (m := 3) rfl) rfl rfl rfl rfl ta26 ts26) (c_eff rfl (e_call (w_g rfl rfl rfl rfl) rfl rfl Tryz.func28 rfl rfl rfl (sameTx _ (H.rep1 (R := RTx) (S := Sn1) (cs := txC An1 t.ins.length cn1 Bn1 t.outs.length dn1 t.lock) (a := t)) (keeps_Tx _ _ _ _ _ ht (fun g hg _ => H.fr.block g hg (fun h => h)))) ?_)))
  rintro _ W ⟨rfl, hb⟩
  replace H := H.below hb
  clear hb
  refine ⟨H.sub (by repeat (first | exact .refl _ | exact List.nil_sublist _ | refine .cons_cons _ ?_ | refine .cons _ ?_)), ?_⟩
  refine cR rfl rfl rfl (fun W H => d_pickT rfl rfl rfl) (cR rfl rfl rfl (fun W H => mv_bx (c := true) rfl rfl (by simp)) ?_)
  refine c_eff rfl (e_call (w_g rfl rfl rfl rfl) rfl rfl Tryz.func13 rfl rfl rfl (works07 _ (H.gat hG) (H.gl hB)) ?_)
  rintro _ W ⟨rfl, hb⟩
  replace H := H.below hb
  clear hb
  refine ⟨H.sub (by repeat (first | exact .refl _ | exact List.nil_sublist _ | refine .cons_cons _ ?_ | refine .cons _ ?_)), ?_⟩
  refine cR rfl rfl rfl (fun W H => d_pickT rfl rfl rfl) (cR rfl rfl rfl (fun W H => as_b rfl rfl) (c_nil (k_ret ?_)))
  repeat (first | refine r_then ?_ | refine r_blk ?_)
  exact q_ret (v := .bool _) rfl rfl ⟨_, rfl, rfl, H.under⟩
end Go.Proofs.YteakkflhndifbaaGreatDoor
