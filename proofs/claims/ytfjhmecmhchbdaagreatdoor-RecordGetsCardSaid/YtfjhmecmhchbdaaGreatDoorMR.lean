/- Texts of this claim, laid together: K50, K51. -/
import Derived.Test.YtfjhmecmhchbdaaGreatDoorMZ
set_option linter.unusedVariables false
set_option linter.unusedSimpArgs false

namespace Go.Proofs.YtfjhmecmhchbdaaGreatDoor
open Go Go.RowKit
attribute [local irreducible] wpList

def Tx.pts (l : List DIn) : List DPoint := l.map (·.point)
theorem Tx.pts_at {l : List DIn} {i : Nat} {x : DIn} (h : l[i]? = some x) : (Tx.pts l)[i]? = some x.point := by unfold Tx.pts; rw [List.getElem?_map, h]; rfl
/-- Up to i no point is twice. -/
def Tx.Apart (l : List DPoint) (i : Nat) : Prop := ∀ k j p, k < j → j < i → l[k]? = some p → l[j]? ≠ some p
theorem Tx.apart_end {l : List DPoint} (h : Tx.Apart l l.length) : Tx.twice l = false := by
  cases ht : Tx.twice l with
  | false => rfl
  | true =>
    obtain ⟨k, i, p, h1, h2, h3⟩ := Tx.twice_iff.1 ht
    exact absurd h3 (h k i p h1 (List.getElem?_eq_some_iff.1 h3).1 h2)
theorem Tx.apart_step {l : List DPoint} {i : Nat} {p : DPoint} (h : Tx.Apart l i) (hp : l[i]? = some p) (hk : ∀ k, k < i → l[k]? ≠ some p) : Tx.Apart l (i + 1) := fun k j q h1 h2 h3 h4 => by
  rcases Nat.lt_or_ge j i with h5 | h5
  · exact h k j q h1 h5 h3 h4
  · obtain rfl : j = i := by omega
    rw [hp] at h4
    cases h4
    exact hk k h1 h3

set_option maxHeartbeats 4000000 in
theorem twiceR {S : Nat → Prop} {v : Value} {l : List DIn} (w : World) (hl : RL 34 RIn w S [v] l) : Calls Tryz.prog 69 [v].toArray w (Ret (Is w (.bool (Tx.twice (l.map (·.point)))))) := by
  have hll := rl_len hl
  obtain ⟨A, c, xs, hv_, hcA_, hcmA_, hr, hel⟩ := hl
  obtain rfl : v = .slice A l.length c := by cases hv_; rfl
  refine k_enter (l := [_]) Tryz.func69 rfl rfl ?_
  have H := St.start nT w
  refine k_seq ?_
  refine k_region ?_
  refine s_run (w_none rfl) rfl (as_b rfl rfl) ?_
  refine l_nil ?_
  refine k_seq ?_
  refine k_seq ?_
  refine k_region ?_
  refine s_run (w_none rfl) rfl (as_i rfl rfl) ?_
  refine l_nil ?_
  refine k_block ?_
  refine k_loop 2 [] (fun mm sl W => ∃ i : Nat, l.length - i = mm ∧ sl = [(3, .int .i64 (i : Int))] ∧ (i ≤ l.length) ∧ (Tx.Apart (l.map (·.point)) i) ∧ St nT w W []) _ _ ⟨0, rfl, rfl, Nat.zero_le _, fun k j p h1 h2 => by omega, H⟩ ⟨rfl, trivial⟩ (fun mm sl ρv W hJ => ?_)
  clear H; obtain ⟨i, rfl, rfl, hi_, hap, H⟩ := hJ
  refine k_one ?_
  refine k_seq ?_
  refine k_seq ?_
  refine k_region ?_
  refine s_run (w_none rfl) rfl (mv_i rfl rfl) ?_
  refine s_run (w_none rfl) rfl (mv_s rfl rfl) ?_
  refine s_run (w_none rfl) rfl (d_len rfl rfl tu28) ?_
  refine s_run (w_none rfl) rfl (d_lt rfl rfl rfl) ?_
  refine l_nil ?_
  refine k_cond rfl (fun hc8 => ?_) (fun hc8 => ?_)
  · replace hc8 := of_decide_eq_true hc8
    have hlt : i < l.length := by omega
    obtain ⟨g0, o0, rfl, -⟩ := hr.2 (by omega)
    obtain ⟨x, hx⟩ := get_lt hlt
    obtain ⟨B2, d2, hL, hW, hp, hn⟩ := in_of (hel i x hx)
    refine k_skip ?_
    refine k_seq ?_
    refine k_block ?_
    refine k_seq ?_
    refine k_region ?_
    refine s_run (w_none rfl) rfl (as_i rfl rfl) ?_
    refine l_nil ?_
    refine k_block ?_
    refine k_loop 11 [2, 4] (fun mm sl W => ∃ k : Nat, i - k = mm ∧ sl = [(4, .int .i64 (k : Int))] ∧ (k ≤ i) ∧ (∀ j, j < k → (l.map (·.point))[j]? ≠ some x.point) ∧ St nT w W []) _ _ ⟨0, rfl, rfl, Nat.zero_le _, fun j hj => by omega, H⟩ ⟨rfl, trivial⟩ (fun mm sl ρv W hJ => ?_)
    clear H; obtain ⟨k, rfl, rfl, hk_, hno, H⟩ := hJ
    refine k_one ?_
    refine k_seq ?_
    refine k_seq ?_
    refine k_region ?_
    refine s_run (w_none rfl) rfl (mv_i rfl rfl) ?_
    refine s_run (w_none rfl) rfl (mv_i rfl rfl) ?_
    refine s_run (w_none rfl) rfl (d_lt rfl rfl rfl) ?_
    refine l_nil ?_
    refine k_cond rfl (fun hc13 => ?_) (fun hc13 => ?_)
    · replace hc13 := of_decide_eq_true hc13
      have hltk : k < l.length := by omega
      obtain ⟨y, hy⟩ := get_lt hltk
      obtain ⟨B3, d3, hL2, hW2, hp2, hn2⟩ := in_of (hel k y hy)
      refine k_skip ?_
      refine k_seq ?_
      refine k_block ?_
      refine k_seq ?_
      refine k_draw [(0, true), (1, true), (2, true), (3, true), (4, true), (5, true), (6, true), (7, true), (8, true), (9, true), (10, true)] [] (by kernel_rfl) (by kernel_rfl) H (.refl _) ?_
      clear H; intro W H
      refine c_run rfl (w_none rfl) rfl (fun W H => mv_s rfl rfl) ?_
      refine c_run rfl (w_none rfl) rfl (fun W H => mv_i rfl rfl) ?_
      refine c_run rfl (w_none rfl) rfl (fun W H => d_iaG rfl (H.rd hr) rfl rfl (q := i) rfl hlt tu28 ts56) ?_
      refine c_run rfl (w_none rfl) rfl (fun W H => d_fa rfl rfl tf56_0) ?_
      refine c_run rfl (w_none rfl) rfl (fun W H => d_ldEM (off := 0) rfl (H.rd hr) hlt hL (sub_in_p hp) rfl rfl (by omega) ta53 ts53) ?_
      refine c_run rfl (w_none rfl) rfl (fun W H => mv_s rfl rfl) ?_
      refine c_run rfl (w_none rfl) rfl (fun W H => mv_i rfl rfl) ?_
      refine c_run rfl (w_none rfl) rfl (fun W H => d_iaG rfl (H.rd hr) rfl rfl (q := k) rfl hltk tu28 ts56) ?_
      refine c_run rfl (w_none rfl) rfl (fun W H => d_fa rfl rfl tf56_0) ?_
      refine c_run rfl (w_none rfl) rfl (fun W H => d_ldEM (off := 0) rfl (H.rd hr) hltk hL2 (sub_in_p hp2) rfl rfl (by omega) ta53 ts53) ?_
      refine c_run rfl (w_none rfl) rfl (fun W H => d_eqst (r := beqPoint x.point y.point) rfl rfl rfl (eq_Point (d := 9997) (point_rep (W := w) (S := nT) hp hn) (point_rep (W := w) (S := nT) hp2 hn2)) (by kernel_rfl)) ?_
      refine c_nil ?_
      refine k_cond rfl (fun hc26 => ?_) (fun hc26 => ?_)
      · skip
        refine k_seq ?_
        refine k_region ?_
        refine s_run (w_none rfl) rfl (as_b rfl rfl) ?_
        refine l_nil ?_
        refine k_ret ?_
        repeat (first | refine r_then ?_ | refine r_blk ?_)
        exact q_ret (v := .bool _) rfl rfl ⟨_, rfl, vb ((Tx.twice_iff.2 ⟨k, i, y.point, by omega, Tx.pts_at hy, by rw [← beqPoint_iff.1 hc26]; exact Tx.pts_at hx⟩).symm), H.under⟩
      · skip
        refine k_skip ?_
        refine k_nil ?_
        refine b_end ?_
        refine k_region ?_
        refine s_run (w_none rfl) rfl (mv_i rfl rfl) ?_
        refine s_run (w_none rfl) rfl (d_add rfl rfl rfl (by omega)) ?_
        refine s_run (w_none rfl) rfl (as_i rfl rfl) ?_
        refine l_nil ?_
        refine k_nil ?_
        refine k_next ?_
        refine ⟨_, _, _, ?_, rfl, ?_, ?_, ⟨k + 1, rfl, rfl, by omega, (fun j hj => by
            rcases Nat.lt_or_ge j k with h | h
            · exact hno j h
            · obtain rfl : j = k := by omega
              intro e
              rw [show (l.map (·.point))[j]? = some y.point from Tx.pts_at hy] at e
              have e2 := Option.some.inj e
              rw [← e2, beqPoint_iff.2 rfl] at hc26
              cases hc26), H⟩⟩
        · omega
        · repeat (first | ((with_reducible refine Eqo.updl _ Eqo.ovr ?_); exact rfl) | ((with_reducible refine Eqo.updl _ (Eqo.ovr2 ?_ ?_) ?_); rotate_left; exact rfl; exact rfl) | ((with_reducible refine Eqo.upd ?_ ?_); rotate_left; exact rfl))
        · refine ⟨?_, trivial⟩
          · exact vi (by omega)
    · replace hc13 := of_decide_eq_false hc13
      refine k_exit ?_
      refine x_then (x_then ?_)
      refine x_hit ?_
      refine k_nil ?_
      refine b_end ?_
      refine k_region ?_
      refine s_run (w_none rfl) rfl (mv_i rfl rfl) ?_
      refine s_run (w_none rfl) rfl (d_add rfl rfl rfl (by omega)) ?_
      refine s_run (w_none rfl) rfl (as_i rfl rfl) ?_
      refine l_nil ?_
      refine k_nil ?_
      refine k_next ?_
      obtain rfl : i = k := by omega
      refine ⟨_, _, _, ?_, rfl, ?_, ?_, ⟨i + 1, rfl, rfl, by omega, Tx.apart_step hap (Tx.pts_at hx) hno, H⟩⟩
      · omega
      · repeat (first | ((with_reducible refine Eqo.updl _ Eqo.ovr ?_); exact rfl) | ((with_reducible refine Eqo.updl _ (Eqo.ovr2 ?_ ?_) ?_); rotate_left; exact rfl; exact rfl) | ((with_reducible refine Eqo.upd ?_ ?_); rotate_left; exact rfl))
      · refine ⟨?_, trivial⟩
        · exact vi (by omega)
  · replace hc8 := of_decide_eq_false hc8
    refine k_exit ?_
    refine x_then (x_then ?_)
    refine x_hit ?_
    refine k_seq ?_
    obtain rfl : i = l.length := by omega
    rw [show l.length = (l.map (·.point)).length by simp] at hap
    refine k_region ?_
    refine s_run (w_none rfl) rfl (as_b rfl rfl) ?_
    refine l_nil ?_
    refine k_ret ?_
    repeat (first | refine r_then ?_ | refine r_blk ?_)
    exact q_ret (v := .bool _) rfl rfl ⟨_, rfl, vb ((Tx.apart_end hap).symm), H.under⟩

set_option maxHeartbeats 4000000 in
theorem rangedR {S : Nat → Prop} {v : Value} {l : List DOut} (w : World) (hl : RL 2 ROut w S [v] l) (hn8 : l.length ≤ 1000) : Calls Tryz.prog 70 [v].toArray w (Ret (Is w (.bool (Tx.valOk l)))) := by
  obtain ⟨A, c, xs, hv_, hcA_, hcmA_, hr, hel⟩ := hl
  obtain rfl : v = .slice A l.length c := by cases hv_; rfl
  refine k_enter (l := [_]) Tryz.func70 rfl rfl ?_
  have H := St.start nT w
  refine k_seq ?_
  refine k_region ?_
  refine s_run (w_none rfl) rfl (as_b rfl rfl) ?_
  refine l_nil ?_
  refine k_seq ?_
  refine k_region ?_
  refine s_run (w_none rfl) rfl (as_i rfl rfl) ?_
  refine l_nil ?_
  refine k_seq ?_
  refine k_seq ?_
  refine k_region ?_
  refine s_run (w_none rfl) rfl (as_i rfl rfl) ?_
  refine l_nil ?_
  refine k_block ?_
  refine k_loop 2 [] (fun mm sl W => ∃ i : Nat, l.length - i = mm ∧ sl = [(4, .int .i64 (i : Int)), (3, .int .i64 (Tx.sum (l.take i)))] ∧ (i ≤ l.length) ∧ (∀ o ∈ l.take i, 1 ≤ o.value ∧ o.value ≤ 1125899906842624) ∧ St nT w W []) _ _ ⟨0, rfl, rfl, Nat.zero_le _, fun o h => by simp at h, H⟩ ⟨rfl, rfl, trivial⟩ (fun mm sl ρv W hJ => ?_)
  clear H; obtain ⟨i, rfl, rfl, hi_, hv, H⟩ := hJ
  refine k_one ?_
  refine k_seq ?_
  refine k_seq ?_
  refine k_region ?_
  refine s_run (w_none rfl) rfl (mv_i rfl rfl) ?_
  refine s_run (w_none rfl) rfl (mv_s rfl rfl) ?_
  refine s_run (w_none rfl) rfl (d_len rfl rfl tu29) ?_
  refine s_run (w_none rfl) rfl (d_lt rfl rfl rfl) ?_
  refine l_nil ?_
  refine k_cond rfl (fun hc8 => ?_) (fun hc8 => ?_)
  · replace hc8 := of_decide_eq_true hc8
    have hlt : i < l.length := by omega
    obtain ⟨g0, o0, rfl, -⟩ := hr.2 (by omega)
    obtain ⟨x, hx⟩ := get_lt hlt
    obtain ⟨B2, d2, hL, hB, hn⟩ := out_of (hel i x hx)
    have hsp := Tx.sum_pos (fun o ho => (hv o ho).1)
    have hsl := Tx.sum_le (fun o ho => (hv o ho).2)
    have htl : (l.take i).length ≤ 1000 := by rw [List.length_take]; omega
    refine k_skip ?_
    refine k_seq ?_
    refine k_block ?_
    refine k_seq ?_
    refine k_seq ?_
    rcases Int.lt_or_le x.value 1 with h1 | h1
    · skip
      refine k_region ?_
      refine s_run (w_none rfl) rfl (mv_s rfl rfl) ?_
      refine s_run (w_none rfl) rfl (mv_i rfl rfl) ?_
      refine s_run (w_none rfl) rfl (d_iaG rfl (H.rd hr) rfl rfl (q := i) rfl hlt tu29 ts58) ?_
      refine s_run (w_none rfl) rfl (d_fa rfl rfl tf58_0) ?_
      refine s_run (w_none rfl) rfl (d_ldE (off := 0) rfl (H.rd hr) hlt hL rfl rfl rfl (by omega) ta3) ?_
      refine s_run (w_none rfl) rfl (d_lt rfl rfl rfl) ?_
      refine s_run (w_none rfl) rfl (mv_bx (c := true) rfl rfl (by simp; omega)) ?_
      refine s_skip (w_gno rfl rfl rfl rfl rfl) rfl ?_
      refine s_skip (w_gno rfl rfl rfl rfl rfl) rfl ?_
      refine s_skip (w_gno rfl rfl rfl rfl rfl) rfl ?_
      refine s_skip (w_gno rfl rfl rfl rfl rfl) rfl ?_
      refine s_skip (w_gno rfl rfl rfl rfl rfl) rfl ?_
      refine s_skip (w_gno rfl rfl rfl rfl rfl) rfl ?_
      refine s_run (w_none rfl) rfl (d_pickT rfl rfl rfl) ?_
      refine l_nil ?_
      refine k_condT rfl rfl ?_
      refine k_seq ?_
      refine k_region ?_
      refine s_run (w_none rfl) rfl (as_b rfl rfl) ?_
      refine l_nil ?_
      refine k_ret ?_
      repeat (first | refine r_then ?_ | refine r_blk ?_)
      exact q_ret (v := .bool _) rfl rfl ⟨_, rfl, vb ((Tx.val_out hx (.inl h1)).symm), H.under⟩
    · skip
      refine k_region ?_
      refine s_run (w_none rfl) rfl (mv_s rfl rfl) ?_
      refine s_run (w_none rfl) rfl (mv_i rfl rfl) ?_
      refine s_run (w_none rfl) rfl (d_iaG rfl (H.rd hr) rfl rfl (q := i) rfl hlt tu29 ts58) ?_
      refine s_run (w_none rfl) rfl (d_fa rfl rfl tf58_0) ?_
      refine s_run (w_none rfl) rfl (d_ldE (off := 0) rfl (H.rd hr) hlt hL rfl rfl rfl (by omega) ta3) ?_
      refine s_run (w_none rfl) rfl (d_lt rfl rfl rfl) ?_
      refine s_run (w_none rfl) rfl (mv_bx (c := false) rfl rfl (by simp; omega)) ?_
      refine s_run (w_g rfl rfl rfl rfl) rfl (mv_s rfl rfl) ?_
      refine s_run (w_g rfl rfl rfl rfl) rfl (mv_i rfl rfl) ?_
      refine s_run (w_g rfl rfl rfl rfl) rfl (d_iaG rfl (H.rd hr) rfl rfl (q := i) rfl hlt tu29 ts58) ?_
      refine s_run (w_g rfl rfl rfl rfl) rfl (d_fa rfl rfl tf58_0) ?_
      refine s_run (w_g rfl rfl rfl rfl) rfl (d_ldE (off := 0) rfl (H.rd hr) hlt hL rfl rfl rfl (by omega) ta3) ?_
      refine s_run (w_g rfl rfl rfl rfl) rfl (d_gt rfl rfl rfl) ?_
      refine s_run (w_none rfl) rfl (d_pickF rfl rfl rfl) ?_
      refine l_nil ?_
      refine k_cond rfl (fun hc24 => ?_) (fun hc24 => ?_)
      · replace hc24 := of_decide_eq_true hc24
        refine k_seq ?_
        refine k_region ?_
        refine s_run (w_none rfl) rfl (as_b rfl rfl) ?_
        refine l_nil ?_
        refine k_ret ?_
        repeat (first | refine r_then ?_ | refine r_blk ?_)
        exact q_ret (v := .bool _) rfl rfl ⟨_, rfl, vb ((Tx.val_out hx (.inr (by omega))).symm), H.under⟩
      · replace hc24 := of_decide_eq_false hc24
        refine k_skip ?_
        refine k_region ?_
        refine s_run (w_none rfl) rfl (mv_i rfl rfl) ?_
        refine s_run (w_none rfl) rfl (mv_s rfl rfl) ?_
        refine s_run (w_none rfl) rfl (mv_i rfl rfl) ?_
        refine s_run (w_none rfl) rfl (d_iaG rfl (H.rd hr) rfl rfl (q := i) rfl hlt tu29 ts58) ?_
        refine s_run (w_none rfl) rfl (d_fa rfl rfl tf58_0) ?_
        refine s_run (w_none rfl) rfl (d_ldE (off := 0) rfl (H.rd hr) hlt hL rfl rfl rfl (by omega) ta3) ?_
        refine s_run (w_none rfl) rfl (d_add rfl rfl rfl (by omega)) ?_
        refine s_run (w_none rfl) rfl (as_i rfl rfl) ?_
        refine l_nil ?_
        refine k_nil ?_
        refine b_end ?_
        refine k_region ?_
        refine s_run (w_none rfl) rfl (mv_i rfl rfl) ?_
        refine s_run (w_none rfl) rfl (d_add rfl rfl rfl (by omega)) ?_
        refine s_run (w_none rfl) rfl (as_i rfl rfl) ?_
        refine l_nil ?_
        refine k_nil ?_
        refine k_next ?_
        have hst := Tx.sum_step hx
        refine ⟨_, _, _, ?_, rfl, ?_, ?_, ⟨i + 1, rfl, rfl, by omega, fun o ho => by
            rw [take_get hx] at ho
            rcases List.mem_append.1 ho with h | h
            · exact hv o h
            · obtain rfl : o = x := by simpa using h
              omega, H⟩⟩
        · omega
        · repeat (first | ((with_reducible refine Eqo.updl _ Eqo.ovr ?_); exact rfl) | ((with_reducible refine Eqo.updl _ (Eqo.ovr2 ?_ ?_) ?_); rotate_left; exact rfl; exact rfl) | ((with_reducible refine Eqo.upd ?_ ?_); rotate_left; exact rfl))
        · refine ⟨?_, ?_, trivial⟩
          · exact vi (by omega)
          · exact vi (by omega)
  · replace hc8 := of_decide_eq_false hc8
    refine k_exit ?_
    refine x_then (x_then ?_)
    refine x_hit ?_
    refine k_seq ?_
    obtain rfl : i = l.length := by omega
    rw [List.take_length] at hv ⊢
    refine k_region ?_
    refine s_run (w_none rfl) rfl (mv_i rfl rfl) ?_
    refine s_run (w_none rfl) rfl (d_le rfl rfl rfl) ?_
    refine s_run (w_none rfl) rfl (as_b rfl rfl) ?_
    refine l_nil ?_
    refine k_ret ?_
    repeat (first | refine r_then ?_ | refine r_blk ?_)
    exact q_ret (v := .bool _) rfl rfl ⟨_, rfl, vb ((Tx.val_sum hv).symm), H.under⟩

set_option maxHeartbeats 4000000 in
theorem longR {S : Nat → Prop} {cs : List Value} {t : DTx} (w : World) (ht : RTx w S cs t) : Calls Tryz.prog 71 [.agg cs.toArray].toArray w (Ret (Is w (.bool (Tx.long t)))) := by
  obtain ⟨A, c, B, d, rfl, hI, hO, hk⟩ := tx_of ht
  have hIl := rl_len hI
  have hOl := rl_len hO
  have hI0 := hI
  obtain ⟨A_, c_, xs, hv_, _, _, hr, hel⟩ := hI
  cases hv_
  have hO0 := hO
  obtain ⟨A_, c_, ys, hv_, _, _, hs, hes⟩ := hO
  cases hv_
  refine k_enter (l := [_]) Tryz.func71 rfl rfl ?_
  have H := St.start nT w
  refine k_seq ?_
  refine k_region ?_
  refine s_eff (e_box (vs := (txC A t.ins.length c B t.outs.length d t.lock)) (w_none rfl) rfl rfl rfl rfl H ?_)
  clear H; intro gm W H
  refine s_run (w_none rfl) rfl (as_b rfl rfl) ?_
  refine l_nil ?_
  refine k_seq ?_
  refine k_seq ?_
  refine k_region ?_
  refine s_run (w_none rfl) rfl (as_i rfl rfl) ?_
  refine l_nil ?_
  refine k_block ?_
  refine k_loop 6 [2, 3] (fun mm sl W => ∃ i : Nat, t.outs.length - i = mm ∧ sl = [(3, .int .i64 (i : Int))] ∧ (i ≤ t.outs.length) ∧ ((t.outs.take i).any (fun o => decide (256 < o.script.length)) = false) ∧ St nT w W [Fact.blk gm (txC A t.ins.length c B t.outs.length d t.lock) 31]) _ _ ⟨0, rfl, rfl, Nat.zero_le _, rfl, H⟩ ⟨rfl, trivial⟩ (fun mm sl ρv W hJ => ?_)
  clear H; obtain ⟨i, rfl, rfl, hi_, hno, H⟩ := hJ
  refine k_one ?_
  refine k_seq ?_
  refine k_seq ?_
  refine k_region ?_
  refine s_run (w_none rfl) rfl (mv_i rfl rfl) ?_
  refine s_run (w_none rfl) rfl (d_fa rfl rfl tf31_1) ?_
  refine s_run (w_none rfl) rfl (d_ld rfl H rfl ta29 rfl) ?_
  refine s_run (w_none rfl) rfl (d_len rfl rfl tu29) ?_
  refine s_run (w_none rfl) rfl (d_lt rfl rfl rfl) ?_
  refine l_nil ?_
  refine k_cond rfl (fun hc10 => ?_) (fun hc10 => ?_)
  · replace hc10 := of_decide_eq_true hc10
    have hlt : i < t.outs.length := by omega
    obtain ⟨g0, o0, rfl, -⟩ := hs.2 (by omega)
    obtain ⟨x, hx⟩ := get_lt hlt
    obtain ⟨B2, d2, hL, hB, hn⟩ := out_of (hes i x hx)
    refine k_skip ?_
    refine k_seq ?_
    refine k_block ?_
    refine k_seq ?_
    refine k_region ?_
    refine s_run (w_none rfl) rfl (d_fa rfl rfl tf31_1) ?_
    refine s_run (w_none rfl) rfl (d_ld rfl H rfl ta29 rfl) ?_
    refine s_run (w_none rfl) rfl (mv_i rfl rfl) ?_
    refine s_run (w_none rfl) rfl (d_iaG rfl (H.rd hs) rfl rfl (q := i) rfl hlt tu29 ts58) ?_
    refine s_run (w_none rfl) rfl (d_fa rfl rfl tf58_1) ?_
    refine s_run (w_none rfl) rfl (d_ldE (off := 1) rfl (H.rd hs) hlt hL rfl rfl rfl (by omega) ta37) ?_
    refine s_run (w_none rfl) rfl (d_len rfl rfl tu37) ?_
    refine s_run (w_none rfl) rfl (d_gt rfl rfl rfl) ?_
    refine l_nil ?_
    refine k_cond rfl (fun hc20 => ?_) (fun hc20 => ?_)
    · replace hc20 := of_decide_eq_true hc20
      refine k_seq ?_
      refine k_region ?_
      refine s_run (w_none rfl) rfl (as_b rfl rfl) ?_
      refine l_nil ?_
      refine k_ret ?_
      repeat (first | refine r_then ?_ | refine r_blk ?_)
      exact q_ret (v := .bool _) rfl rfl ⟨_, rfl, vb (by unfold Tx.long; rw [any_yes hx (decide_eq_true (by omega))]; rfl), H.under⟩
    · replace hc20 : ¬ 256 < x.script.length := by have := of_decide_eq_false hc20; omega
      refine k_skip ?_
      refine k_nil ?_
      refine b_end ?_
      refine k_region ?_
      refine s_run (w_none rfl) rfl (mv_i rfl rfl) ?_
      refine s_run (w_none rfl) rfl (d_add rfl rfl rfl (by omega)) ?_
      refine s_run (w_none rfl) rfl (as_i rfl rfl) ?_
      refine l_nil ?_
      refine k_nil ?_
      refine k_next ?_
      refine ⟨_, _, _, ?_, rfl, ?_, ?_, ⟨i + 1, rfl, rfl, by omega, any_no hx hno (decide_eq_false hc20), H⟩⟩
      · omega
      · repeat (first | ((with_reducible refine Eqo.updl _ Eqo.ovr ?_); exact rfl) | ((with_reducible refine Eqo.updl _ (Eqo.ovr2 ?_ ?_) ?_); rotate_left; exact rfl; exact rfl) | ((with_reducible refine Eqo.upd ?_ ?_); rotate_left; exact rfl))
      · refine ⟨?_, trivial⟩
        · exact vi (by omega)
  · replace hc10 := of_decide_eq_false hc10
    obtain rfl : i = t.outs.length := by omega
    rw [List.take_length] at hno
    refine k_exit ?_
    refine x_then (x_then ?_)
    refine x_hit ?_
    refine k_seq ?_
    refine k_seq ?_
    refine k_region ?_
    refine s_run (w_none rfl) rfl (as_i rfl rfl) ?_
    refine l_nil ?_
    refine k_block ?_
    refine k_loop 21 [2, 4, 5] (fun mm sl W => ∃ i : Nat, t.ins.length - i = mm ∧ sl = [(4, .int .i64 (i : Int))] ∧ (i ≤ t.ins.length) ∧ ((t.ins.take i).any Tx.longX = false) ∧ St nT w W [Fact.blk gm (txC A t.ins.length c B t.outs.length d t.lock) 31]) _ _ ⟨0, rfl, rfl, Nat.zero_le _, rfl, H⟩ ⟨rfl, trivial⟩ (fun mm sl ρv W hJ => ?_)
    clear H; obtain ⟨i, rfl, rfl, hi_, hni, H⟩ := hJ
    refine k_one ?_
    refine k_seq ?_
    refine k_seq ?_
    refine k_region ?_
    refine s_run (w_none rfl) rfl (mv_i rfl rfl) ?_
    refine s_run (w_none rfl) rfl (d_fa rfl rfl tf31_0) ?_
    refine s_run (w_none rfl) rfl (d_ld rfl H rfl ta28 rfl) ?_
    refine s_run (w_none rfl) rfl (d_len rfl rfl tu28) ?_
    refine s_run (w_none rfl) rfl (d_lt rfl rfl rfl) ?_
    refine l_nil ?_
    refine k_cond rfl (fun hc25 => ?_) (fun hc25 => ?_)
    · replace hc25 := of_decide_eq_true hc25
      have hlt : i < t.ins.length := by omega
      obtain ⟨g0, o0, rfl, -⟩ := hr.2 (by omega)
      obtain ⟨x, hx⟩ := get_lt hlt
      obtain ⟨B2, d2, hL, hW, hp, hn⟩ := in_of (hel i x hx)
      have hwl := rl_len hW
      have hW0 := hW
      obtain ⟨A3_, c3_, zs, hv3_, _, _, hr3, hel3⟩ := hW
      cases hv3_
      refine k_skip ?_
      refine k_seq ?_
      refine k_block ?_
      refine k_seq ?_
      refine k_seq ?_
      refine k_region ?_
      refine s_run (w_none rfl) rfl (d_fa rfl rfl tf31_0) ?_
      refine s_run (w_none rfl) rfl (d_ld rfl H rfl ta28 rfl) ?_
      refine s_run (w_none rfl) rfl (mv_i rfl rfl) ?_
      refine s_run (w_none rfl) rfl (d_iaG rfl (H.rd hr) rfl rfl (q := i) rfl hlt tu28 ts56) ?_
      refine s_run (w_none rfl) rfl (d_fa rfl rfl tf56_1) ?_
      refine s_run (w_none rfl) rfl (d_ldE (off := 33) rfl (H.rd hr) hlt hL (sub_in_w hp) rfl rfl (by omega) ta54) ?_
      refine s_run (w_none rfl) rfl (d_len rfl rfl tu54) ?_
      refine s_run (w_none rfl) rfl (d_gt rfl rfl rfl) ?_
      refine l_nil ?_
      refine k_cond rfl (fun hc35 => ?_) (fun hc35 => ?_)
      · replace hc35 := of_decide_eq_true hc35
        refine k_seq ?_
        refine k_region ?_
        refine s_run (w_none rfl) rfl (as_b rfl rfl) ?_
        refine l_nil ?_
        refine k_ret ?_
        repeat (first | refine r_then ?_ | refine r_blk ?_)
        exact q_ret (v := .bool _) rfl rfl ⟨_, rfl, vb (by unfold Tx.long; rw [any_yes (f := Tx.longX) hx (by unfold Tx.longX; rw [decide_eq_true (by omega)]; rfl), Bool.or_true]), H.under⟩
      · replace hc35 := of_decide_eq_false hc35
        refine k_skip ?_
        refine k_seq ?_
        refine k_region ?_
        refine s_run (w_none rfl) rfl (as_i rfl rfl) ?_
        refine l_nil ?_
        refine k_block ?_
        refine k_loop 36 [2, 5] (fun mm sl W => ∃ k : Nat, x.wit.length - k = mm ∧ sl = [(5, .int .i64 (k : Int))] ∧ (k ≤ x.wit.length) ∧ ((x.wit.take k).any (fun b => decide (64 < b.length)) = false) ∧ St nT w W [Fact.blk gm (txC (some ⟨g0, o0, none⟩) t.ins.length c B t.outs.length d t.lock) 31]) _ _ ⟨0, rfl, rfl, Nat.zero_le _, rfl, H⟩ ⟨rfl, trivial⟩ (fun mm sl ρv W hJ => ?_)
        clear H; obtain ⟨k, rfl, rfl, hk_, hnw, H⟩ := hJ
        refine k_one ?_
        refine k_seq ?_
        refine k_seq ?_
        refine k_region ?_
        refine s_run (w_none rfl) rfl (mv_i rfl rfl) ?_
        refine s_run (w_none rfl) rfl (d_fa rfl rfl tf31_0) ?_
        refine s_run (w_none rfl) rfl (d_ld rfl H rfl ta28 rfl) ?_
        refine s_run (w_none rfl) rfl (mv_i rfl rfl) ?_
        refine s_run (w_none rfl) rfl (d_iaG rfl (H.rd hr) rfl rfl (q := i) rfl hlt tu28 ts56) ?_
        refine s_run (w_none rfl) rfl (d_fa rfl rfl tf56_1) ?_
        refine s_run (w_none rfl) rfl (d_ldE (off := 33) rfl (H.rd hr) hlt hL (sub_in_w hp) rfl rfl (by omega) ta54) ?_
        refine s_run (w_none rfl) rfl (d_len rfl rfl tu54) ?_
        refine s_run (w_none rfl) rfl (d_lt rfl rfl rfl) ?_
        refine l_nil ?_
        refine k_cond rfl (fun hc44 => ?_) (fun hc44 => ?_)
        · replace hc44 := of_decide_eq_true hc44
          have hltk : k < x.wit.length := by omega
          obtain ⟨g3, o3, rfl, -⟩ := hr3.2 (by omega)
          obtain ⟨y, hy⟩ := get_lt hltk
          obtain ⟨B4, d4, hL3, hB4⟩ := rb_of (hel3 k y hy)
          refine k_skip ?_
          refine k_seq ?_
          refine k_block ?_
          refine k_seq ?_
          refine k_region ?_
          refine s_run (w_none rfl) rfl (d_fa rfl rfl tf31_0) ?_
          refine s_run (w_none rfl) rfl (d_ld rfl H rfl ta28 rfl) ?_
          refine s_run (w_none rfl) rfl (mv_i rfl rfl) ?_
          refine s_run (w_none rfl) rfl (d_iaG rfl (H.rd hr) rfl rfl (q := i) rfl hlt tu28 ts56) ?_
          refine s_run (w_none rfl) rfl (d_fa rfl rfl tf56_1) ?_
          refine s_run (w_none rfl) rfl (d_ldE (off := 33) rfl (H.rd hr) hlt hL (sub_in_w hp) rfl rfl (by omega) ta54) ?_
          refine s_run (w_none rfl) rfl (mv_i rfl rfl) ?_
          refine s_run (w_none rfl) rfl (d_iaG rfl (H.rd hr3) rfl rfl (q := k) rfl hltk tu54 ts37) ?_
          refine s_run (w_none rfl) rfl (d_ldE (off := 0) rfl (H.rd hr3) hltk hL3 rfl rfl rfl (by omega) ta37) ?_
          refine s_run (w_none rfl) rfl (d_len rfl rfl tu37) ?_
          refine s_run (w_none rfl) rfl (d_gt rfl rfl rfl) ?_
          refine l_nil ?_
          refine k_cond rfl (fun hc57 => ?_) (fun hc57 => ?_)
          · replace hc57 := of_decide_eq_true hc57
            refine k_seq ?_
            refine k_region ?_
            refine s_run (w_none rfl) rfl (as_b rfl rfl) ?_
            refine l_nil ?_
            refine k_ret ?_
            repeat (first | refine r_then ?_ | refine r_blk ?_)
            exact q_ret (v := .bool _) rfl rfl ⟨_, rfl, vb (by unfold Tx.long; rw [any_yes (f := Tx.longX) hx (by unfold Tx.longX; rw [any_yes hy (decide_eq_true (by omega)), Bool.or_true]), Bool.or_true]), H.under⟩
          · replace hc57 : ¬ 64 < y.length := by have := of_decide_eq_false hc57; omega
            refine k_skip ?_
            refine k_nil ?_
            refine b_end ?_
            refine k_region ?_
            refine s_run (w_none rfl) rfl (mv_i rfl rfl) ?_
            refine s_run (w_none rfl) rfl (d_add rfl rfl rfl (by omega)) ?_
            refine s_run (w_none rfl) rfl (as_i rfl rfl) ?_
            refine l_nil ?_
            refine k_nil ?_
            refine k_next ?_
            refine ⟨_, _, _, ?_, rfl, ?_, ?_, ⟨k + 1, rfl, rfl, by omega, any_no hy hnw (decide_eq_false hc57), H⟩⟩
            · omega
            · repeat (first | ((with_reducible refine Eqo.updl _ Eqo.ovr ?_); exact rfl) | ((with_reducible refine Eqo.updl _ (Eqo.ovr2 ?_ ?_) ?_); rotate_left; exact rfl; exact rfl) | ((with_reducible refine Eqo.upd ?_ ?_); rotate_left; exact rfl))
            · refine ⟨?_, trivial⟩
              · exact vi (by omega)
        · replace hc44 := of_decide_eq_false hc44
          refine k_exit ?_
          refine x_then (x_then ?_)
          refine x_hit ?_
          refine k_nil ?_
          refine b_end ?_
          refine k_region ?_
          refine s_run (w_none rfl) rfl (mv_i rfl rfl) ?_
          refine s_run (w_none rfl) rfl (d_add rfl rfl rfl (by omega)) ?_
          refine s_run (w_none rfl) rfl (as_i rfl rfl) ?_
          refine l_nil ?_
          refine k_nil ?_
          refine k_next ?_
          obtain rfl : k = x.wit.length := by omega
          rw [List.take_length] at hnw
          refine ⟨_, _, _, ?_, rfl, ?_, ?_, ⟨i + 1, rfl, rfl, by omega, any_no hx hni (by unfold Tx.longX; rw [hnw, decide_eq_false (by omega)]; rfl), H⟩⟩
          · omega
          · repeat (first | ((with_reducible refine Eqo.updl _ Eqo.ovr ?_); exact rfl) | ((with_reducible refine Eqo.updl _ (Eqo.ovr2 ?_ ?_) ?_); rotate_left; exact rfl; exact rfl) | ((with_reducible refine Eqo.upd ?_ ?_); rotate_left; exact rfl))
          · refine ⟨?_, trivial⟩
            · exact vi (by omega)
    · replace hc25 := of_decide_eq_false hc25
      refine k_exit ?_
      refine x_then (x_then ?_)
      refine x_hit ?_
      refine k_seq ?_
      obtain rfl : i = t.ins.length := by omega
      rw [List.take_length] at hni
      refine k_region ?_
      refine s_run (w_none rfl) rfl (as_b rfl rfl) ?_
      refine l_nil ?_
      refine k_ret ?_
      repeat (first | refine r_then ?_ | refine r_blk ?_)
      exact q_ret (v := .bool _) rfl rfl ⟨_, rfl, vb (by unfold Tx.long; rw [hno, hni]; rfl), H.under⟩
end Go.Proofs.YtfjhmecmhchbdaaGreatDoor

namespace Go.Proofs.YtfjhmecmhchbdaaGreatDoor
open Go Go.RowKit
attribute [local irreducible] wpList

set_option maxHeartbeats 4000000 in
theorem checkTR {S : Nat → Prop} {cs : List Value} {t : DTx} (w : World) (ht : RTx w S cs t) : Calls Tryz.prog 38 [.agg cs.toArray].toArray w (Ret (Is w (.int .i64 (Tx.chk t)))) := by
  obtain ⟨A, c, B, d, rfl, hI, hO, hk⟩ := tx_of ht
  have hIl := rl_len hI
  have hOl := rl_len hO
  have hI0 := hI
  obtain ⟨A_, c_, xs, hv_, _, _, hr, hel⟩ := hI
  cases hv_
  have hO0 := hO
  obtain ⟨A_, c_, ys, hv_, _, _, hs, hes⟩ := hO
  cases hv_
  refine k_enter (l := [_]) Tryz.func38 rfl rfl ?_
  have H := St.start nT w
  refine k_seq ?_
  refine k_region ?_
  refine s_eff (e_box (vs := (txC A t.ins.length c B t.outs.length d t.lock)) (w_none rfl) rfl rfl rfl rfl H ?_)
  clear H; intro gm W H
  refine s_run (w_none rfl) rfl (as_i rfl rfl) ?_
  refine l_nil ?_
  refine k_seq ?_
  refine k_seq ?_
  rcases (show t.ins.length < 1 ∨ 8 < t.ins.length ∨ (1 ≤ t.ins.length ∧ t.ins.length ≤ 8 ∧ t.outs.length < 1) ∨ (1 ≤ t.ins.length ∧ t.ins.length ≤ 8 ∧ 8 < t.outs.length) ∨ (1 ≤ t.ins.length ∧ t.ins.length ≤ 8 ∧ 1 ≤ t.outs.length ∧ t.outs.length ≤ 8) by omega) with h1 | h1 | h1 | h1 | h1
  · skip
    refine k_region ?_
    refine s_run (w_none rfl) rfl (d_fa rfl rfl tf31_0) ?_
    refine s_run (w_none rfl) rfl (d_ld rfl H rfl ta28 rfl) ?_
    refine s_run (w_none rfl) rfl (d_len rfl rfl tu28) ?_
    refine s_run (w_none rfl) rfl (d_lt rfl rfl rfl) ?_
    refine s_run (w_none rfl) rfl (mv_bx (c := true) rfl rfl (by simp; omega)) ?_
    refine s_skip (w_gno rfl rfl rfl rfl rfl) rfl ?_
    refine s_skip (w_gno rfl rfl rfl rfl rfl) rfl ?_
    refine s_skip (w_gno rfl rfl rfl rfl rfl) rfl ?_
    refine s_skip (w_gno rfl rfl rfl rfl rfl) rfl ?_
    refine s_run (w_none rfl) rfl (d_pickT rfl rfl rfl) ?_
    refine s_run (w_none rfl) rfl (mv_bx (c := true) rfl rfl (by first | rfl | (simp; omega))) ?_
    refine s_skip (w_gno rfl rfl rfl rfl rfl) rfl ?_
    refine s_skip (w_gno rfl rfl rfl rfl rfl) rfl ?_
    refine s_skip (w_gno rfl rfl rfl rfl rfl) rfl ?_
    refine s_skip (w_gno rfl rfl rfl rfl rfl) rfl ?_
    refine s_run (w_none rfl) rfl (d_pickT rfl rfl rfl) ?_
    refine s_run (w_none rfl) rfl (mv_bx (c := true) rfl rfl (by first | rfl | (simp; omega))) ?_
    refine s_skip (w_gno rfl rfl rfl rfl rfl) rfl ?_
    refine s_skip (w_gno rfl rfl rfl rfl rfl) rfl ?_
    refine s_skip (w_gno rfl rfl rfl rfl rfl) rfl ?_
    refine s_skip (w_gno rfl rfl rfl rfl rfl) rfl ?_
    refine s_run (w_none rfl) rfl (d_pickT rfl rfl rfl) ?_
    refine l_nil ?_
    refine k_condT rfl (by first | rfl | (simp; omega)) ?_
    refine k_seq ?_
    refine k_region ?_
    refine s_run (w_none rfl) rfl (as_i rfl rfl) ?_
    refine l_nil ?_
    refine k_ret ?_
    repeat (first | refine r_then ?_ | refine r_blk ?_)
    exact q_ret (v := .int _ _) rfl rfl ⟨_, rfl, vi (by unfold Tx.chk; rw [if_pos (by omega)]), H.under⟩
  · skip
    refine k_region ?_
    refine s_run (w_none rfl) rfl (d_fa rfl rfl tf31_0) ?_
    refine s_run (w_none rfl) rfl (d_ld rfl H rfl ta28 rfl) ?_
    refine s_run (w_none rfl) rfl (d_len rfl rfl tu28) ?_
    refine s_run (w_none rfl) rfl (d_lt rfl rfl rfl) ?_
    refine s_run (w_none rfl) rfl (mv_bx (c := false) rfl rfl (by simp; omega)) ?_
    refine s_run (w_g rfl rfl rfl rfl) rfl (d_fa rfl rfl tf31_0) ?_
    refine s_run (w_g rfl rfl rfl rfl) rfl (d_ld rfl H rfl ta28 rfl) ?_
    refine s_run (w_g rfl rfl rfl rfl) rfl (d_len rfl rfl tu28) ?_
    refine s_run (w_g rfl rfl rfl rfl) rfl (d_gt rfl rfl rfl) ?_
    refine s_run (w_none rfl) rfl (d_pickF rfl rfl rfl) ?_
    refine s_run (w_none rfl) rfl (mv_bx (c := true) rfl rfl (by first | rfl | (simp; omega))) ?_
    refine s_skip (w_gno rfl rfl rfl rfl rfl) rfl ?_
    refine s_skip (w_gno rfl rfl rfl rfl rfl) rfl ?_
    refine s_skip (w_gno rfl rfl rfl rfl rfl) rfl ?_
    refine s_skip (w_gno rfl rfl rfl rfl rfl) rfl ?_
    refine s_run (w_none rfl) rfl (d_pickT rfl rfl rfl) ?_
    refine s_run (w_none rfl) rfl (mv_bx (c := true) rfl rfl (by first | rfl | (simp; omega))) ?_
    refine s_skip (w_gno rfl rfl rfl rfl rfl) rfl ?_
    refine s_skip (w_gno rfl rfl rfl rfl rfl) rfl ?_
    refine s_skip (w_gno rfl rfl rfl rfl rfl) rfl ?_
    refine s_skip (w_gno rfl rfl rfl rfl rfl) rfl ?_
    refine s_run (w_none rfl) rfl (d_pickT rfl rfl rfl) ?_
    refine l_nil ?_
    refine k_condT rfl (by first | rfl | (simp; omega)) ?_
    refine k_seq ?_
    refine k_region ?_
    refine s_run (w_none rfl) rfl (as_i rfl rfl) ?_
    refine l_nil ?_
    refine k_ret ?_
    repeat (first | refine r_then ?_ | refine r_blk ?_)
    exact q_ret (v := .int _ _) rfl rfl ⟨_, rfl, vi (by unfold Tx.chk; rw [if_pos (by omega)]), H.under⟩
  · skip
    refine k_region ?_
    refine s_run (w_none rfl) rfl (d_fa rfl rfl tf31_0) ?_
    refine s_run (w_none rfl) rfl (d_ld rfl H rfl ta28 rfl) ?_
    refine s_run (w_none rfl) rfl (d_len rfl rfl tu28) ?_
    refine s_run (w_none rfl) rfl (d_lt rfl rfl rfl) ?_
    refine s_run (w_none rfl) rfl (mv_bx (c := false) rfl rfl (by simp; omega)) ?_
    refine s_run (w_g rfl rfl rfl rfl) rfl (d_fa rfl rfl tf31_0) ?_
    refine s_run (w_g rfl rfl rfl rfl) rfl (d_ld rfl H rfl ta28 rfl) ?_
    refine s_run (w_g rfl rfl rfl rfl) rfl (d_len rfl rfl tu28) ?_
    refine s_run (w_g rfl rfl rfl rfl) rfl (d_gt rfl rfl rfl) ?_
    refine s_run (w_none rfl) rfl (d_pickF rfl rfl rfl) ?_
    refine s_run (w_none rfl) rfl (mv_bx (c := false) rfl rfl (by first | rfl | (simp; omega))) ?_
    refine s_run (w_g rfl rfl rfl rfl) rfl (d_fa rfl rfl tf31_1) ?_
    refine s_run (w_g rfl rfl rfl rfl) rfl (d_ld rfl H rfl ta29 rfl) ?_
    refine s_run (w_g rfl rfl rfl rfl) rfl (d_len rfl rfl tu29) ?_
    refine s_run (w_g rfl rfl rfl rfl) rfl (d_lt rfl rfl rfl) ?_
    refine s_run (w_none rfl) rfl (d_pickF rfl rfl rfl) ?_
    refine s_run (w_none rfl) rfl (mv_bx (c := true) rfl rfl (by first | rfl | (simp; omega))) ?_
    refine s_skip (w_gno rfl rfl rfl rfl rfl) rfl ?_
    refine s_skip (w_gno rfl rfl rfl rfl rfl) rfl ?_
    refine s_skip (w_gno rfl rfl rfl rfl rfl) rfl ?_
    refine s_skip (w_gno rfl rfl rfl rfl rfl) rfl ?_
    refine s_run (w_none rfl) rfl (d_pickT rfl rfl rfl) ?_
    refine l_nil ?_
    refine k_condT rfl (by first | rfl | (simp; omega)) ?_
    refine k_seq ?_
    refine k_region ?_
    refine s_run (w_none rfl) rfl (as_i rfl rfl) ?_
    refine l_nil ?_
    refine k_ret ?_
    repeat (first | refine r_then ?_ | refine r_blk ?_)
    exact q_ret (v := .int _ _) rfl rfl ⟨_, rfl, vi (by unfold Tx.chk; rw [if_pos (by omega)]), H.under⟩
  · skip
    refine k_region ?_
    refine s_run (w_none rfl) rfl (d_fa rfl rfl tf31_0) ?_
    refine s_run (w_none rfl) rfl (d_ld rfl H rfl ta28 rfl) ?_
    refine s_run (w_none rfl) rfl (d_len rfl rfl tu28) ?_
    refine s_run (w_none rfl) rfl (d_lt rfl rfl rfl) ?_
    refine s_run (w_none rfl) rfl (mv_bx (c := false) rfl rfl (by simp; omega)) ?_
    refine s_run (w_g rfl rfl rfl rfl) rfl (d_fa rfl rfl tf31_0) ?_
    refine s_run (w_g rfl rfl rfl rfl) rfl (d_ld rfl H rfl ta28 rfl) ?_
    refine s_run (w_g rfl rfl rfl rfl) rfl (d_len rfl rfl tu28) ?_
    refine s_run (w_g rfl rfl rfl rfl) rfl (d_gt rfl rfl rfl) ?_
    refine s_run (w_none rfl) rfl (d_pickF rfl rfl rfl) ?_
    refine s_run (w_none rfl) rfl (mv_bx (c := false) rfl rfl (by first | rfl | (simp; omega))) ?_
    refine s_run (w_g rfl rfl rfl rfl) rfl (d_fa rfl rfl tf31_1) ?_
    refine s_run (w_g rfl rfl rfl rfl) rfl (d_ld rfl H rfl ta29 rfl) ?_
    refine s_run (w_g rfl rfl rfl rfl) rfl (d_len rfl rfl tu29) ?_
    refine s_run (w_g rfl rfl rfl rfl) rfl (d_lt rfl rfl rfl) ?_
    refine s_run (w_none rfl) rfl (d_pickF rfl rfl rfl) ?_
    refine s_run (w_none rfl) rfl (mv_bx (c := false) rfl rfl (by first | rfl | (simp; omega))) ?_
    refine s_run (w_g rfl rfl rfl rfl) rfl (d_fa rfl rfl tf31_1) ?_
    refine s_run (w_g rfl rfl rfl rfl) rfl (d_ld rfl H rfl ta29 rfl) ?_
    refine s_run (w_g rfl rfl rfl rfl) rfl (d_len rfl rfl tu29) ?_
    refine s_run (w_g rfl rfl rfl rfl) rfl (d_gt rfl rfl rfl) ?_
    refine s_run (w_none rfl) rfl (d_pickF rfl rfl rfl) ?_
    refine l_nil ?_
    refine k_condT rfl (by first | rfl | (simp; omega)) ?_
    refine k_seq ?_
    refine k_region ?_
    refine s_run (w_none rfl) rfl (as_i rfl rfl) ?_
    refine l_nil ?_
    refine k_ret ?_
    repeat (first | refine r_then ?_ | refine r_blk ?_)
    exact q_ret (v := .int _ _) rfl rfl ⟨_, rfl, vi (by unfold Tx.chk; rw [if_pos (by omega)]), H.under⟩
  · skip
    refine k_region ?_
    refine s_run (w_none rfl) rfl (d_fa rfl rfl tf31_0) ?_
    refine s_run (w_none rfl) rfl (d_ld rfl H rfl ta28 rfl) ?_
    refine s_run (w_none rfl) rfl (d_len rfl rfl tu28) ?_
    refine s_run (w_none rfl) rfl (d_lt rfl rfl rfl) ?_
    refine s_run (w_none rfl) rfl (mv_bx (c := false) rfl rfl (by simp; omega)) ?_
    refine s_run (w_g rfl rfl rfl rfl) rfl (d_fa rfl rfl tf31_0) ?_
    refine s_run (w_g rfl rfl rfl rfl) rfl (d_ld rfl H rfl ta28 rfl) ?_
    refine s_run (w_g rfl rfl rfl rfl) rfl (d_len rfl rfl tu28) ?_
    refine s_run (w_g rfl rfl rfl rfl) rfl (d_gt rfl rfl rfl) ?_
    refine s_run (w_none rfl) rfl (d_pickF rfl rfl rfl) ?_
    refine s_run (w_none rfl) rfl (mv_bx (c := false) rfl rfl (by first | rfl | (simp; omega))) ?_
    refine s_run (w_g rfl rfl rfl rfl) rfl (d_fa rfl rfl tf31_1) ?_
    refine s_run (w_g rfl rfl rfl rfl) rfl (d_ld rfl H rfl ta29 rfl) ?_
    refine s_run (w_g rfl rfl rfl rfl) rfl (d_len rfl rfl tu29) ?_
    refine s_run (w_g rfl rfl rfl rfl) rfl (d_lt rfl rfl rfl) ?_
    refine s_run (w_none rfl) rfl (d_pickF rfl rfl rfl) ?_
    refine s_run (w_none rfl) rfl (mv_bx (c := false) rfl rfl (by first | rfl | (simp; omega))) ?_
    refine s_run (w_g rfl rfl rfl rfl) rfl (d_fa rfl rfl tf31_1) ?_
    refine s_run (w_g rfl rfl rfl rfl) rfl (d_ld rfl H rfl ta29 rfl) ?_
    refine s_run (w_g rfl rfl rfl rfl) rfl (d_len rfl rfl tu29) ?_
    refine s_run (w_g rfl rfl rfl rfl) rfl (d_gt rfl rfl rfl) ?_
    refine s_run (w_none rfl) rfl (d_pickF rfl rfl rfl) ?_
    refine l_nil ?_
    refine k_condF rfl (by first | rfl | (simp; omega)) ?_
    refine k_skip ?_
    refine k_seq ?_
    refine k_seq ?_
    refine k_region ?_
    refine s_run (w_none rfl) rfl (as_i rfl rfl) ?_
    refine l_nil ?_
    refine k_block ?_
    refine k_loop 26 [2, 3] (fun mm sl W => ∃ i : Nat, t.ins.length - i = mm ∧ sl = [(3, .int .i64 (i : Int))] ∧ (i ≤ t.ins.length) ∧ ((t.ins.take i).any Tx.far = false) ∧ St nT w W [Fact.blk gm (txC A t.ins.length c B t.outs.length d t.lock) 31]) _ _ ⟨0, rfl, rfl, Nat.zero_le _, rfl, H⟩ ⟨rfl, trivial⟩ (fun mm sl ρv W hJ => ?_)
    clear H; obtain ⟨i, rfl, rfl, hi_, hno, H⟩ := hJ
    refine k_one ?_
    refine k_seq ?_
    refine k_seq ?_
    refine k_region ?_
    refine s_run (w_none rfl) rfl (mv_i rfl rfl) ?_
    refine s_run (w_none rfl) rfl (d_fa rfl rfl tf31_0) ?_
    refine s_run (w_none rfl) rfl (d_ld rfl H rfl ta28 rfl) ?_
    refine s_run (w_none rfl) rfl (d_len rfl rfl tu28) ?_
    refine s_run (w_none rfl) rfl (d_lt rfl rfl rfl) ?_
    refine l_nil ?_
    refine k_cond rfl (fun hc30 => ?_) (fun hc30 => ?_)
    · replace hc30 := of_decide_eq_true hc30
      have hlt : i < t.ins.length := by omega
      obtain ⟨g0, o0, rfl, -⟩ := hr.2 (by omega)
      obtain ⟨x, hx⟩ := get_lt hlt
      obtain ⟨B2, d2, hL, hW, hp, hn⟩ := in_of (hel i x hx)
      refine k_skip ?_
      refine k_seq ?_
      refine k_block ?_
      refine k_seq ?_
      rcases Int.lt_or_le x.point.n 0 with h2 | h2
      · skip
        refine k_region ?_
        refine s_run (w_none rfl) rfl (d_fa rfl rfl tf31_0) ?_
        refine s_run (w_none rfl) rfl (d_ld rfl H rfl ta28 rfl) ?_
        refine s_run (w_none rfl) rfl (mv_i rfl rfl) ?_
        refine s_run (w_none rfl) rfl (d_iaG rfl (H.rd hr) rfl rfl (q := i) rfl hlt tu28 ts56) ?_
        refine s_run (w_none rfl) rfl (d_fa rfl rfl tf56_0) ?_
        refine s_run (w_none rfl) rfl (d_fa rfl rfl tf53_1) ?_
        refine s_run (w_none rfl) rfl (d_ldE (off := 32) rfl (H.rd hr) hlt hL (sub_in_n hp) rfl rfl (by omega) ta3) ?_
        refine s_run (w_none rfl) rfl (d_lt rfl rfl rfl) ?_
        refine s_run (w_none rfl) rfl (mv_bx (c := true) rfl rfl (by simp; omega)) ?_
        refine s_skip (w_gno rfl rfl rfl rfl rfl) rfl ?_
        refine s_skip (w_gno rfl rfl rfl rfl rfl) rfl ?_
        refine s_skip (w_gno rfl rfl rfl rfl rfl) rfl ?_
        refine s_skip (w_gno rfl rfl rfl rfl rfl) rfl ?_
        refine s_skip (w_gno rfl rfl rfl rfl rfl) rfl ?_
        refine s_skip (w_gno rfl rfl rfl rfl rfl) rfl ?_
        refine s_skip (w_gno rfl rfl rfl rfl rfl) rfl ?_
        refine s_skip (w_gno rfl rfl rfl rfl rfl) rfl ?_
        refine s_run (w_none rfl) rfl (d_pickT rfl rfl rfl) ?_
        refine l_nil ?_
        refine k_condT rfl rfl ?_
        refine k_seq ?_
        refine k_region ?_
        refine s_run (w_none rfl) rfl (as_i rfl rfl) ?_
        refine l_nil ?_
        refine k_ret ?_
        repeat (first | refine r_then ?_ | refine r_blk ?_)
        exact q_ret (v := .int _ _) rfl rfl ⟨_, rfl, vi (by unfold Tx.chk; rw [if_neg (show ¬ (t.ins.length < 1 ∨ 8 < t.ins.length ∨ t.outs.length < 1 ∨ 8 < t.outs.length) by omega), if_pos (.inl (any_yes hx (by unfold Tx.far; simp; omega)))]), H.under⟩
      · skip
        refine k_region ?_
        refine s_run (w_none rfl) rfl (d_fa rfl rfl tf31_0) ?_
        refine s_run (w_none rfl) rfl (d_ld rfl H rfl ta28 rfl) ?_
        refine s_run (w_none rfl) rfl (mv_i rfl rfl) ?_
        refine s_run (w_none rfl) rfl (d_iaG rfl (H.rd hr) rfl rfl (q := i) rfl hlt tu28 ts56) ?_
        refine s_run (w_none rfl) rfl (d_fa rfl rfl tf56_0) ?_
        refine s_run (w_none rfl) rfl (d_fa rfl rfl tf53_1) ?_
        refine s_run (w_none rfl) rfl (d_ldE (off := 32) rfl (H.rd hr) hlt hL (sub_in_n hp) rfl rfl (by omega) ta3) ?_
        refine s_run (w_none rfl) rfl (d_lt rfl rfl rfl) ?_
        refine s_run (w_none rfl) rfl (mv_bx (c := false) rfl rfl (by simp; omega)) ?_
        refine s_run (w_g rfl rfl rfl rfl) rfl (d_fa rfl rfl tf31_0) ?_
        refine s_run (w_g rfl rfl rfl rfl) rfl (d_ld rfl H rfl ta28 rfl) ?_
        refine s_run (w_g rfl rfl rfl rfl) rfl (mv_i rfl rfl) ?_
        refine s_run (w_g rfl rfl rfl rfl) rfl (d_iaG rfl (H.rd hr) rfl rfl (q := i) rfl hlt tu28 ts56) ?_
        refine s_run (w_g rfl rfl rfl rfl) rfl (d_fa rfl rfl tf56_0) ?_
        refine s_run (w_g rfl rfl rfl rfl) rfl (d_fa rfl rfl tf53_1) ?_
        refine s_run (w_g rfl rfl rfl rfl) rfl (d_ldE (off := 32) rfl (H.rd hr) hlt hL (sub_in_n hp) rfl rfl (by omega) ta3) ?_
        refine s_run (w_g rfl rfl rfl rfl) rfl (d_gt rfl rfl rfl) ?_
        refine s_run (w_none rfl) rfl (d_pickF rfl rfl rfl) ?_
        refine l_nil ?_
        refine k_cond rfl (fun hc50 => ?_) (fun hc50 => ?_)
        · replace hc50 := of_decide_eq_true hc50
          refine k_seq ?_
          refine k_region ?_
          refine s_run (w_none rfl) rfl (as_i rfl rfl) ?_
          refine l_nil ?_
          refine k_ret ?_
          repeat (first | refine r_then ?_ | refine r_blk ?_)
          exact q_ret (v := .int _ _) rfl rfl ⟨_, rfl, vi (by unfold Tx.chk; rw [if_neg (show ¬ (t.ins.length < 1 ∨ 8 < t.ins.length ∨ t.outs.length < 1 ∨ 8 < t.outs.length) by omega), if_pos (.inl (any_yes hx (by unfold Tx.far; simp; omega)))]), H.under⟩
        · replace hc50 : ¬ x.point.n > 8 := of_decide_eq_false hc50
          refine k_skip ?_
          refine k_nil ?_
          refine b_end ?_
          refine k_region ?_
          refine s_run (w_none rfl) rfl (mv_i rfl rfl) ?_
          refine s_run (w_none rfl) rfl (d_add rfl rfl rfl (by omega)) ?_
          refine s_run (w_none rfl) rfl (as_i rfl rfl) ?_
          refine l_nil ?_
          refine k_nil ?_
          refine k_next ?_
          refine ⟨_, _, _, ?_, rfl, ?_, ?_, ⟨i + 1, rfl, rfl, by omega, any_no hx hno (by unfold Tx.far; simp; omega), H⟩⟩
          · omega
          · repeat (first | ((with_reducible refine Eqo.updl _ Eqo.ovr ?_); exact rfl) | ((with_reducible refine Eqo.updl _ (Eqo.ovr2 ?_ ?_) ?_); rotate_left; exact rfl; exact rfl) | ((with_reducible refine Eqo.upd ?_ ?_); rotate_left; exact rfl))
          · refine ⟨?_, trivial⟩
            · exact vi (by omega)
    · replace hc30 := of_decide_eq_false hc30
      obtain rfl : i = t.ins.length := by omega
      rw [List.take_length] at hno
      have hf := hno
      refine k_exit ?_
      refine x_then (x_then ?_)
      refine x_hit ?_
      refine k_seq ?_
      refine k_seq ?_
      rcases Int.lt_or_le t.lock 0 with h3 | h3
      · skip
        refine k_region ?_
        refine s_run (w_none rfl) rfl (d_fa rfl rfl tf31_2) ?_
        refine s_run (w_none rfl) rfl (d_ld rfl H rfl ta3 rfl) ?_
        refine s_run (w_none rfl) rfl (d_lt rfl rfl rfl) ?_
        refine s_run (w_none rfl) rfl (mv_bx (c := true) rfl rfl (by simp; omega)) ?_
        refine s_skip (w_gno rfl rfl rfl rfl rfl) rfl ?_
        refine s_skip (w_gno rfl rfl rfl rfl rfl) rfl ?_
        refine s_skip (w_gno rfl rfl rfl rfl rfl) rfl ?_
        refine s_run (w_none rfl) rfl (d_pickT rfl rfl rfl) ?_
        refine l_nil ?_
        refine k_condT rfl rfl ?_
        refine k_seq ?_
        refine k_region ?_
        refine s_run (w_none rfl) rfl (as_i rfl rfl) ?_
        refine l_nil ?_
        refine k_ret ?_
        repeat (first | refine r_then ?_ | refine r_blk ?_)
        exact q_ret (v := .int _ _) rfl rfl ⟨_, rfl, vi (by unfold Tx.chk; rw [if_neg (show ¬ (t.ins.length < 1 ∨ 8 < t.ins.length ∨ t.outs.length < 1 ∨ 8 < t.outs.length) by omega), if_pos (by omega)]), H.under⟩
      · skip
        refine k_region ?_
        refine s_run (w_none rfl) rfl (d_fa rfl rfl tf31_2) ?_
        refine s_run (w_none rfl) rfl (d_ld rfl H rfl ta3 rfl) ?_
        refine s_run (w_none rfl) rfl (d_lt rfl rfl rfl) ?_
        refine s_run (w_none rfl) rfl (mv_bx (c := false) rfl rfl (by simp; omega)) ?_
        refine s_run (w_g rfl rfl rfl rfl) rfl (d_fa rfl rfl tf31_2) ?_
        refine s_run (w_g rfl rfl rfl rfl) rfl (d_ld rfl H rfl ta3 rfl) ?_
        refine s_run (w_g rfl rfl rfl rfl) rfl (d_gt rfl rfl rfl) ?_
        refine s_run (w_none rfl) rfl (d_pickF rfl rfl rfl) ?_
        refine l_nil ?_
        refine k_cond rfl (fun hc58 => ?_) (fun hc58 => ?_)
        · replace hc58 := of_decide_eq_true hc58
          refine k_seq ?_
          refine k_region ?_
          refine s_run (w_none rfl) rfl (as_i rfl rfl) ?_
          refine l_nil ?_
          refine k_ret ?_
          repeat (first | refine r_then ?_ | refine r_blk ?_)
          exact q_ret (v := .int _ _) rfl rfl ⟨_, rfl, vi (by unfold Tx.chk; rw [if_neg (show ¬ (t.ins.length < 1 ∨ 8 < t.ins.length ∨ t.outs.length < 1 ∨ 8 < t.outs.length) by omega), if_pos (by omega)]), H.under⟩
        · replace hc58 := of_decide_eq_false hc58
          refine k_skip ?_
          refine k_seq ?_
          refine k_seq ?_
          refine k_region ?_
          refine s_run (w_none rfl) rfl (d_fa rfl rfl tf31_0) ?_
          refine s_run (w_none rfl) rfl (d_ld rfl H rfl ta28 rfl) ?_
          refine s_eff (e_call (w_none rfl) rfl rfl Tryz.func69 rfl rfl rfl (twiceR _ (keeps_L keeps_In _ _ _ _ _ hI0 (fun g hg _ => H.fr.block g hg (fun h => h)))) ?_)
          rintro _ W ⟨rfl, hb⟩
          replace H := H.below hb
          clear hb
          refine l_nil ?_
          refine k_cond rfl (fun hc61 => ?_) (fun hc61 => ?_)
          · have htw : Tx.twice (t.ins.map (·.point)) = true := hc61
            refine k_seq ?_
            refine k_region ?_
            refine s_run (w_none rfl) rfl (as_i rfl rfl) ?_
            refine l_nil ?_
            refine k_ret ?_
            repeat (first | refine r_then ?_ | refine r_blk ?_)
            exact q_ret (v := .int _ _) rfl rfl ⟨_, rfl, vi (by unfold Tx.chk; rw [if_neg (show ¬ (t.ins.length < 1 ∨ 8 < t.ins.length ∨ t.outs.length < 1 ∨ 8 < t.outs.length) by omega), if_neg (show ¬ (t.ins.any Tx.far = true ∨ t.lock < 0 ∨ 1073741824 < t.lock) by rw [hf]; simp; omega), if_pos htw]), H.under⟩
          · have htw : Tx.twice (t.ins.map (·.point)) = false := hc61
            refine k_skip ?_
            refine k_seq ?_
            refine k_seq ?_
            refine k_region ?_
            refine s_run (w_none rfl) rfl (d_fa rfl rfl tf31_1) ?_
            refine s_run (w_none rfl) rfl (d_ld rfl H rfl ta29 rfl) ?_
            refine s_eff (e_call (w_none rfl) rfl rfl Tryz.func70 rfl rfl rfl (rangedR _ (keeps_L keeps_Out _ _ _ _ _ hO0 (fun g hg _ => H.fr.block g hg (fun h => h))) (by omega)) ?_)
            rintro _ W ⟨rfl, hb⟩
            replace H := H.below hb
            clear hb
            refine s_run (w_none rfl) rfl (d_not rfl rfl) ?_
            refine l_nil ?_
            refine k_cond rfl (fun hc65 => ?_) (fun hc65 => ?_)
            · have hvo : Tx.valOk t.outs = false := by simpa using hc65
              refine k_seq ?_
              refine k_region ?_
              refine s_run (w_none rfl) rfl (as_i rfl rfl) ?_
              refine l_nil ?_
              refine k_ret ?_
              repeat (first | refine r_then ?_ | refine r_blk ?_)
              exact q_ret (v := .int _ _) rfl rfl ⟨_, rfl, vi (by unfold Tx.chk; rw [if_neg (show ¬ (t.ins.length < 1 ∨ 8 < t.ins.length ∨ t.outs.length < 1 ∨ 8 < t.outs.length) by omega), if_neg (show ¬ (t.ins.any Tx.far = true ∨ t.lock < 0 ∨ 1073741824 < t.lock) by rw [hf]; simp; omega), if_neg (show ¬ Tx.twice (t.ins.map (·.point)) = true by rw [htw]; simp), if_pos hvo]), H.under⟩
            · have hvo : Tx.valOk t.outs = true := by simpa using hc65
              refine k_skip ?_
              refine k_seq ?_
              refine k_seq ?_
              refine k_region ?_
              refine s_run (w_none rfl) rfl (d_ldXM (g := gm) (off := 0) rfl H (sub_all (a := txC A t.ins.length c B t.outs.length d t.lock) (m := 3) rfl) rfl rfl rfl rfl ta31 ts31) ?_
              refine s_eff (e_call (w_none rfl) rfl rfl Tryz.func71 rfl rfl rfl (longR _ (keeps_Tx _ _ _ _ _ ht (fun g hg _ => H.fr.block g hg (fun h => h)))) ?_)
              rintro _ W ⟨rfl, hb⟩
              replace H := H.below hb
              clear hb
              refine l_nil ?_
              refine k_cond rfl (fun hc67 => ?_) (fun hc67 => ?_)
              · skip
                refine k_seq ?_
                refine k_region ?_
                refine s_run (w_none rfl) rfl (as_i rfl rfl) ?_
                refine l_nil ?_
                refine k_ret ?_
                repeat (first | refine r_then ?_ | refine r_blk ?_)
                exact q_ret (v := .int _ _) rfl rfl ⟨_, rfl, vi (by unfold Tx.chk; rw [if_neg (show ¬ (t.ins.length < 1 ∨ 8 < t.ins.length ∨ t.outs.length < 1 ∨ 8 < t.outs.length) by omega), if_neg (show ¬ (t.ins.any Tx.far = true ∨ t.lock < 0 ∨ 1073741824 < t.lock) by rw [hf]; simp; omega), if_neg (show ¬ Tx.twice (t.ins.map (·.point)) = true by rw [htw]; simp), if_neg (show ¬ Tx.valOk t.outs = false by rw [hvo]; simp), if_pos hc67]), H.under⟩
              · skip
                refine k_skip ?_
                refine k_seq ?_
                refine k_region ?_
                refine s_run (w_none rfl) rfl (as_i rfl rfl) ?_
                refine l_nil ?_
                refine k_ret ?_
                repeat (first | refine r_then ?_ | refine r_blk ?_)
                exact q_ret (v := .int _ _) rfl rfl ⟨_, rfl, vi (by unfold Tx.chk; rw [if_neg (show ¬ (t.ins.length < 1 ∨ 8 < t.ins.length ∨ t.outs.length < 1 ∨ 8 < t.outs.length) by omega), if_neg (show ¬ (t.ins.any Tx.far = true ∨ t.lock < 0 ∨ 1073741824 < t.lock) by rw [hf]; simp; omega), if_neg (show ¬ Tx.twice (t.ins.map (·.point)) = true by rw [htw]; simp), if_neg (show ¬ Tx.valOk t.outs = false by rw [hvo]; simp), if_neg (by rw [hc67]; simp)]), H.under⟩

end Go.Proofs.YtfjhmecmhchbdaaGreatDoor
