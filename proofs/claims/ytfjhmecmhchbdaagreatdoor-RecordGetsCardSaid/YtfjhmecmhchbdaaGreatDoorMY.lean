/- Texts of this claim, laid together: K40, K41, K42. -/
import Derived.Test.YtfjhmecmhchbdaaGreatDoorMX
import Derived.Test.YtfjhmecmhchbdaaGreatDoorMB
import Derived.Test.YtfjhmecmhchbdaaGreatDoorML
set_option linter.unusedVariables false
set_option linter.unusedSimpArgs false

namespace Go.Proofs.YtfjhmecmhchbdaaGreatDoor
open Go Go.RowKit
attribute [local irreducible] wpList

theorem rb_of {W : World} {S : Nat → Prop} {xs : List Value} {b : List UInt8} {i : Nat} (h : RB W S (sub xs (i * 1) 1) b) : ∃ A c, sub xs (i * 1) 1 = [.slice A b.length c] ∧ Bs W S (.slice A b.length c) b := by
  obtain ⟨v, h1, hb⟩ := h
  have hb0 := hb
  obtain ⟨A, c, rfl, _⟩ := hb.op
  exact ⟨A, c, h1, hb0⟩

set_option maxHeartbeats 4000000 in
theorem sameNested {S S1 : Nat → Prop} {v u : Value} {l r : List (List UInt8)} (w : World) (hl : RL 1 RB w S [v] l) (hr : RL 1 RB w S1 [u] r) : Calls Tryz.prog 110 [v, u].toArray w (Ret (Is w (.bool (decide (l = r))))) := by
  have hll := rl_len hl
  obtain ⟨A, c, xs, hv_, hcA_, hcmA_, hr1, hel⟩ := hl
  obtain rfl : v = .slice A l.length c := by cases hv_; rfl
  obtain ⟨B, d, ys, hv_, hcB_, hcmB_, hr, hes⟩ := hr
  obtain rfl : u = .slice B r.length d := by cases hv_; rfl
  refine k_enter (l := [_, _]) Tryz.func110 rfl rfl ?_
  have H := St.start nT w
  refine k_seq ?_
  refine k_region ?_
  refine s_run (w_none rfl) rfl (as_b rfl rfl) ?_
  refine l_nil ?_
  refine k_seq ?_
  refine k_seq ?_
  refine k_region ?_
  refine s_run (w_none rfl) rfl (mv_s rfl rfl) ?_
  refine s_run (w_none rfl) rfl (d_len rfl rfl tu54) ?_
  refine s_run (w_none rfl) rfl (mv_s rfl rfl) ?_
  refine s_run (w_none rfl) rfl (d_len rfl rfl tu54) ?_
  refine s_run (w_none rfl) rfl (d_ne rfl rfl rfl) ?_
  refine l_nil ?_
  refine k_cond rfl (fun hc10 => ?_) (fun hc10 => ?_)
  · have hc10 : ¬ l.length = r.length := by simp at hc10; omega
    refine k_seq ?_
    refine k_region ?_
    refine s_run (w_none rfl) rfl (as_b rfl rfl) ?_
    refine l_nil ?_
    refine k_ret ?_
    repeat (first | refine r_then ?_ | refine r_blk ?_)
    exact q_ret (v := .bool _) rfl rfl ⟨_, rfl, vb (decide_eq_false (fun e => by rw [e] at hc10; exact hc10 rfl)).symm, H.under⟩
  · have hc10 : l.length = r.length := by simp at hc10; omega
    refine k_skip ?_
    refine k_seq ?_
    refine k_seq ?_
    refine k_region ?_
    refine s_run (w_none rfl) rfl (as_i rfl rfl) ?_
    refine l_nil ?_
    refine k_block ?_
    refine k_loop 11 [4, 5] (fun mm sl W => ∃ i : Nat, l.length - i = mm ∧ sl = [(5, .int .i64 (i : Int))] ∧ (i ≤ l.length) ∧ (l.take i = r.take i) ∧ St nT w W []) _ _ ⟨0, rfl, rfl, Nat.zero_le _, rfl, H⟩ ⟨rfl, trivial⟩ (fun mm sl ρv W hJ => ?_)
    clear H; obtain ⟨i, rfl, rfl, hi, ht, H⟩ := hJ
    refine k_one ?_
    refine k_seq ?_
    refine k_seq ?_
    refine k_region ?_
    refine s_run (w_none rfl) rfl (mv_i rfl rfl) ?_
    refine s_run (w_none rfl) rfl (mv_s rfl rfl) ?_
    refine s_run (w_none rfl) rfl (d_len rfl rfl tu54) ?_
    refine s_run (w_none rfl) rfl (d_lt rfl rfl rfl) ?_
    refine l_nil ?_
    refine k_cond rfl (fun hc14 => ?_) (fun hc14 => ?_)
    · replace hc14 := of_decide_eq_true hc14
      have hlt : i < l.length := by omega
      have hlt2 : i < r.length := by omega
      obtain ⟨g0, o0, rfl, -⟩ := hr1.2 (by omega)
      obtain ⟨x, hx⟩ := get_lt hlt
      obtain ⟨E, e, hL, hB⟩ := rb_of (hel i x hx)
      obtain ⟨g1, o1, rfl, -⟩ := hr.2 (by omega)
      obtain ⟨y, hy⟩ := get_lt hlt2
      obtain ⟨F, f, hL2, hB2⟩ := rb_of (hes i y hy)
      refine k_skip ?_
      refine k_seq ?_
      refine k_block ?_
      refine k_seq ?_
      refine k_draw [(0, true), (1, true), (2, true), (3, true), (4, true), (5, true), (6, true), (7, true), (8, false), (9, true)] _ (by kernel_rfl) (by kernel_rfl) H (.refl _) ?_
      clear H; intro W H
      refine c_run rfl (w_none rfl) rfl (fun W H => mv_s rfl rfl) ?_
      refine c_run rfl (w_none rfl) rfl (fun W H => mv_i rfl rfl) ?_
      refine c_run rfl (w_none rfl) rfl (fun W H => d_iaG rfl (H.rd hr1) rfl rfl (q := i) rfl hlt tu54 ts37) ?_
      refine c_run rfl (w_none rfl) rfl (fun W H => d_ldE (off := 0) rfl (H.rd hr1) hlt hL rfl rfl rfl (by omega) ta37) ?_
      refine c_run rfl (w_none rfl) rfl (fun W H => mv_s rfl rfl) ?_
      refine c_run rfl (w_none rfl) rfl (fun W H => mv_i rfl rfl) ?_
      refine c_run rfl (w_none rfl) rfl (fun W H => d_iaG rfl (H.rd hr) rfl rfl (q := i) rfl hlt2 tu54 ts37) ?_
      refine c_run rfl (w_none rfl) rfl (fun W H => d_ldE (off := 0) rfl (H.rd hr) hlt2 hL2 rfl rfl rfl (by omega) ta37) ?_
      refine c_eff rfl (e_call (w_none rfl) rfl rfl Tryz.func14 rfl rfl rfl (sameBytes _ _ x y _ (H.bs hB) (H.bs hB2)) ?_)
      rintro _ W ⟨rfl, hb⟩
      replace H := H.below hb
      clear hb
      refine ⟨H.sub (by repeat (first | exact List.Sublist.refl _ | exact List.nil_sublist _ | refine List.Sublist.cons_cons _ ?_ | refine List.Sublist.cons _ ?_)), ?_⟩
      refine c_run rfl (w_none rfl) rfl (fun W H => d_not rfl rfl) ?_
      refine c_nil ?_
      refine k_cond rfl (fun hc26 => ?_) (fun hc26 => ?_)
      · replace hc26 : ¬ x = y := by simpa using hc26
        refine k_seq ?_
        refine k_region ?_
        refine s_run (w_none rfl) rfl (as_b rfl rfl) ?_
        refine l_nil ?_
        refine k_ret ?_
        repeat (first | refine r_then ?_ | refine r_blk ?_)
        exact q_ret (v := .bool _) rfl rfl ⟨_, rfl, vb (decide_eq_false (ne_at hx hy hc26)).symm, H.under⟩
      · replace hc26 : x = y := by simpa using hc26
        refine k_skip ?_
        refine k_nil ?_
        refine b_end ?_
        refine k_region ?_
        refine s_run (w_none rfl) rfl (mv_i rfl rfl) ?_
        refine s_run (w_none rfl) rfl (d_add rfl rfl rfl (by omega)) ?_
        refine s_run (w_none rfl) rfl (as_i rfl rfl) ?_
        refine l_nil ?_
        refine k_nil ?_
        refine k_next ?_
        refine ⟨_, _, _, ?_, rfl, ?_, ?_, ⟨i + 1, rfl, rfl, by omega, take_eq_step ht hx (hc26 ▸ hy), H⟩⟩
        · omega
        · repeat (first | ((with_reducible refine Eqo.updl _ Eqo.ovr ?_); exact rfl) | ((with_reducible refine Eqo.updl _ (Eqo.ovr2 ?_ ?_) ?_); rotate_left; exact rfl; exact rfl) | ((with_reducible refine Eqo.upd ?_ ?_); rotate_left; exact rfl))
        · refine ⟨?_, trivial⟩
          · exact vi (by omega)
    · replace hc14 := of_decide_eq_false hc14
      refine k_exit ?_
      refine x_then (x_then ?_)
      refine x_hit ?_
      refine k_seq ?_
      refine k_region ?_
      refine s_run (w_none rfl) rfl (as_b rfl rfl) ?_
      refine l_nil ?_
      refine k_ret ?_
      repeat (first | refine r_then ?_ | refine r_blk ?_)
      obtain rfl : i = l.length := by omega
      exact q_ret (v := .bool _) rfl rfl ⟨_, rfl, vb (decide_eq_true (all_take (by omega) ht)).symm, H.under⟩

set_option maxHeartbeats 4000000 in
theorem sameIns {S S1 : Nat → Prop} {v u : Value} {l r : List DIn} (w : World) (hl : RL 34 RIn w S [v] l) (hr : RL 34 RIn w S1 [u] r) : Calls Tryz.prog 72 [v, u].toArray w (Ret (Is w (.bool (decide (l = r))))) := by
  have hll := rl_len hl
  obtain ⟨A, c, xs, hv_, hcA_, hcmA_, hr1, hel⟩ := hl
  obtain rfl : v = .slice A l.length c := by cases hv_; rfl
  obtain ⟨B, d, ys, hv_, hcB_, hcmB_, hr, hes⟩ := hr
  obtain rfl : u = .slice B r.length d := by cases hv_; rfl
  refine k_enter (l := [_, _]) Tryz.func72 rfl rfl ?_
  have H := St.start nT w
  refine k_seq ?_
  refine k_region ?_
  refine s_run (w_none rfl) rfl (as_b rfl rfl) ?_
  refine l_nil ?_
  refine k_seq ?_
  refine k_seq ?_
  refine k_region ?_
  refine s_run (w_none rfl) rfl (mv_s rfl rfl) ?_
  refine s_run (w_none rfl) rfl (d_len rfl rfl tu28) ?_
  refine s_run (w_none rfl) rfl (mv_s rfl rfl) ?_
  refine s_run (w_none rfl) rfl (d_len rfl rfl tu28) ?_
  refine s_run (w_none rfl) rfl (d_ne rfl rfl rfl) ?_
  refine l_nil ?_
  refine k_cond rfl (fun hc10 => ?_) (fun hc10 => ?_)
  · have hc10 : ¬ l.length = r.length := by simp at hc10; omega
    refine k_seq ?_
    refine k_region ?_
    refine s_run (w_none rfl) rfl (as_b rfl rfl) ?_
    refine l_nil ?_
    refine k_ret ?_
    repeat (first | refine r_then ?_ | refine r_blk ?_)
    exact q_ret (v := .bool _) rfl rfl ⟨_, rfl, vb (decide_eq_false (fun e => by rw [e] at hc10; exact hc10 rfl)).symm, H.under⟩
  · have hc10 : l.length = r.length := by simp at hc10; omega
    refine k_skip ?_
    refine k_seq ?_
    refine k_seq ?_
    refine k_region ?_
    refine s_run (w_none rfl) rfl (as_i rfl rfl) ?_
    refine l_nil ?_
    refine k_block ?_
    refine k_loop 11 [4, 5] (fun mm sl W => ∃ i : Nat, l.length - i = mm ∧ sl = [(5, .int .i64 (i : Int))] ∧ (i ≤ l.length) ∧ (l.take i = r.take i) ∧ St nT w W []) _ _ ⟨0, rfl, rfl, Nat.zero_le _, rfl, H⟩ ⟨rfl, trivial⟩ (fun mm sl ρv W hJ => ?_)
    clear H; obtain ⟨i, rfl, rfl, hi, ht, H⟩ := hJ
    refine k_one ?_
    refine k_seq ?_
    refine k_seq ?_
    refine k_region ?_
    refine s_run (w_none rfl) rfl (mv_i rfl rfl) ?_
    refine s_run (w_none rfl) rfl (mv_s rfl rfl) ?_
    refine s_run (w_none rfl) rfl (d_len rfl rfl tu28) ?_
    refine s_run (w_none rfl) rfl (d_lt rfl rfl rfl) ?_
    refine l_nil ?_
    refine k_cond rfl (fun hc14 => ?_) (fun hc14 => ?_)
    · replace hc14 := of_decide_eq_true hc14
      have hlt : i < l.length := by omega
      have hlt2 : i < r.length := by omega
      obtain ⟨g0, o0, rfl, -⟩ := hr1.2 (by omega)
      obtain ⟨x, hx⟩ := get_lt hlt
      obtain ⟨E, e, hL, hW, hp, hn⟩ := in_of (hel i x hx)
      obtain ⟨g1, o1, rfl, -⟩ := hr.2 (by omega)
      obtain ⟨y, hy⟩ := get_lt hlt2
      obtain ⟨F, f, hL2, hW2, hp2, hn2⟩ := in_of (hes i y hy)
      refine k_skip ?_
      refine k_seq ?_
      refine k_block ?_
      refine k_seq ?_
      rcases hb1 : beqPoint x.point y.point with _ | _
      · skip
        refine k_draw [(0, true), (1, true), (2, true), (3, true), (4, true), (5, true), (6, true), (7, true), (8, true), (9, true), (10, true), (11, true), (12, true), (13, true), (14, true), (15, true), (16, true), (17, true), (18, true), (19, true), (20, true), (21, true), (22, true), (23, true), (24, true)] [] (by kernel_rfl) (by kernel_rfl) H (.refl _) ?_
        clear H; intro W H
        refine c_run rfl (w_none rfl) rfl (fun W H => mv_s rfl rfl) ?_
        refine c_run rfl (w_none rfl) rfl (fun W H => mv_i rfl rfl) ?_
        refine c_run rfl (w_none rfl) rfl (fun W H => d_iaG rfl (H.rd hr1) rfl rfl (q := i) rfl hlt tu28 ts56) ?_
        refine c_run rfl (w_none rfl) rfl (fun W H => d_fa rfl rfl tf56_0) ?_
        refine c_run rfl (w_none rfl) rfl (fun W H => d_ldEM (off := 0) rfl (H.rd hr1) hlt hL (sub_in_p hp) rfl rfl (by omega) ta53 ts53) ?_
        refine c_run rfl (w_none rfl) rfl (fun W H => mv_s rfl rfl) ?_
        refine c_run rfl (w_none rfl) rfl (fun W H => mv_i rfl rfl) ?_
        refine c_run rfl (w_none rfl) rfl (fun W H => d_iaG rfl (H.rd hr) rfl rfl (q := i) rfl hlt2 tu28 ts56) ?_
        refine c_run rfl (w_none rfl) rfl (fun W H => d_fa rfl rfl tf56_0) ?_
        refine c_run rfl (w_none rfl) rfl (fun W H => d_ldEM (off := 0) rfl (H.rd hr) hlt2 hL2 (sub_in_p hp2) rfl rfl (by omega) ta53 ts53) ?_
        refine c_run rfl (w_none rfl) rfl (fun W H => d_eqst (r := beqPoint x.point y.point) rfl rfl rfl (eq_Point (d := 9997) (point_rep (W := w) (S := nT) hp hn) (point_rep (W := w) (S := nT) hp2 hn2)) (by kernel_rfl)) ?_
        refine c_run rfl (w_none rfl) rfl (fun W H => mv_bx (c := false) rfl rfl (by rw [hb1])) ?_
        refine c_skip rfl (w_gno rfl rfl rfl rfl rfl) rfl ?_
        refine c_skip rfl (w_gno rfl rfl rfl rfl rfl) rfl ?_
        refine c_skip rfl (w_gno rfl rfl rfl rfl rfl) rfl ?_
        refine c_skip rfl (w_gno rfl rfl rfl rfl rfl) rfl ?_
        refine c_skip rfl (w_gno rfl rfl rfl rfl rfl) rfl ?_
        refine c_skip rfl (w_gno rfl rfl rfl rfl rfl) rfl ?_
        refine c_skip rfl (w_gno rfl rfl rfl rfl rfl) rfl ?_
        refine c_skip rfl (w_gno rfl rfl rfl rfl rfl) rfl ?_
        refine c_skip rfl (w_gno rfl rfl rfl rfl rfl) rfl ?_
        refine c_skip rfl (w_gno rfl rfl rfl rfl rfl) rfl ?_
        refine c_skip rfl (w_gno rfl rfl rfl rfl rfl) rfl ?_
        refine c_run rfl (w_none rfl) rfl (fun W H => d_pickF rfl rfl rfl) ?_
        refine c_run rfl (w_none rfl) rfl (fun W H => d_not rfl rfl) ?_
        refine c_nil ?_
        refine k_condT rfl rfl ?_
        refine k_seq ?_
        refine k_region ?_
        refine s_run (w_none rfl) rfl (as_b rfl rfl) ?_
        refine l_nil ?_
        refine k_ret ?_
        repeat (first | refine r_then ?_ | refine r_blk ?_)
        have hxy : ¬ x = y := fun e => by rw [e, beqPoint_iff.2 rfl] at hb1; cases hb1
        exact q_ret (v := .bool _) rfl rfl ⟨_, rfl, vb (decide_eq_false (ne_at hx hy hxy)).symm, H.under⟩
      · skip
        refine k_draw [(0, true), (1, true), (2, true), (3, true), (4, true), (5, true), (6, true), (7, true), (8, true), (9, true), (10, true), (11, true), (12, true), (13, true), (14, true), (15, true), (16, true), (17, true), (18, true), (19, true), (20, true), (21, true), (22, false), (23, true), (24, true)] [] (by kernel_rfl) (by kernel_rfl) H (.refl _) ?_
        clear H; intro W H
        refine c_run rfl (w_none rfl) rfl (fun W H => mv_s rfl rfl) ?_
        refine c_run rfl (w_none rfl) rfl (fun W H => mv_i rfl rfl) ?_
        refine c_run rfl (w_none rfl) rfl (fun W H => d_iaG rfl (H.rd hr1) rfl rfl (q := i) rfl hlt tu28 ts56) ?_
        refine c_run rfl (w_none rfl) rfl (fun W H => d_fa rfl rfl tf56_0) ?_
        refine c_run rfl (w_none rfl) rfl (fun W H => d_ldEM (off := 0) rfl (H.rd hr1) hlt hL (sub_in_p hp) rfl rfl (by omega) ta53 ts53) ?_
        refine c_run rfl (w_none rfl) rfl (fun W H => mv_s rfl rfl) ?_
        refine c_run rfl (w_none rfl) rfl (fun W H => mv_i rfl rfl) ?_
        refine c_run rfl (w_none rfl) rfl (fun W H => d_iaG rfl (H.rd hr) rfl rfl (q := i) rfl hlt2 tu28 ts56) ?_
        refine c_run rfl (w_none rfl) rfl (fun W H => d_fa rfl rfl tf56_0) ?_
        refine c_run rfl (w_none rfl) rfl (fun W H => d_ldEM (off := 0) rfl (H.rd hr) hlt2 hL2 (sub_in_p hp2) rfl rfl (by omega) ta53 ts53) ?_
        refine c_run rfl (w_none rfl) rfl (fun W H => d_eqst (r := beqPoint x.point y.point) rfl rfl rfl (eq_Point (d := 9997) (point_rep (W := w) (S := nT) hp hn) (point_rep (W := w) (S := nT) hp2 hn2)) (by kernel_rfl)) ?_
        refine c_run rfl (w_none rfl) rfl (fun W H => mv_bx (c := true) rfl rfl (by rw [hb1])) ?_
        refine c_run rfl (w_g rfl rfl rfl rfl) rfl (fun W H => mv_s rfl rfl) ?_
        refine c_run rfl (w_g rfl rfl rfl rfl) rfl (fun W H => mv_i rfl rfl) ?_
        refine c_run rfl (w_g rfl rfl rfl rfl) rfl (fun W H => d_iaG rfl (H.rd hr1) rfl rfl (q := i) rfl hlt tu28 ts56) ?_
        refine c_run rfl (w_g rfl rfl rfl rfl) rfl (fun W H => d_fa rfl rfl tf56_1) ?_
        refine c_run rfl (w_g rfl rfl rfl rfl) rfl (fun W H => d_ldE (off := 33) rfl (H.rd hr1) hlt hL (sub_in_w hp) rfl rfl (by omega) ta54) ?_
        refine c_run rfl (w_g rfl rfl rfl rfl) rfl (fun W H => mv_s rfl rfl) ?_
        refine c_run rfl (w_g rfl rfl rfl rfl) rfl (fun W H => mv_i rfl rfl) ?_
        refine c_run rfl (w_g rfl rfl rfl rfl) rfl (fun W H => d_iaG rfl (H.rd hr) rfl rfl (q := i) rfl hlt2 tu28 ts56) ?_
        refine c_run rfl (w_g rfl rfl rfl rfl) rfl (fun W H => d_fa rfl rfl tf56_1) ?_
        refine c_run rfl (w_g rfl rfl rfl rfl) rfl (fun W H => d_ldE (off := 33) rfl (H.rd hr) hlt2 hL2 (sub_in_w hp2) rfl rfl (by omega) ta54) ?_
        refine c_eff rfl (e_call (w_g rfl rfl rfl rfl) rfl rfl Tryz.func110 rfl rfl rfl (sameNested _ (keeps_L keeps_B _ _ _ _ _ hW (fun g hg _ => H.fr.block g hg (fun h => h))) (keeps_L keeps_B _ _ _ _ _ hW2 (fun g hg _ => H.fr.block g hg (fun h => h)))) ?_)
        rintro _ W ⟨rfl, hb⟩
        replace H := H.below hb
        clear hb
        refine ⟨H.sub (by repeat (first | exact List.Sublist.refl _ | exact List.nil_sublist _ | refine List.Sublist.cons_cons _ ?_ | refine List.Sublist.cons _ ?_)), ?_⟩
        refine c_run rfl (w_none rfl) rfl (fun W H => d_pickT rfl rfl rfl) ?_
        refine c_run rfl (w_none rfl) rfl (fun W H => d_not rfl rfl) ?_
        refine c_nil ?_
        refine k_cond rfl (fun hc41 => ?_) (fun hc41 => ?_)
        · replace hc41 : ¬ x.wit = y.wit := by simpa using hc41
          have hxy : ¬ x = y := fun e => hc41 (by rw [e])
          refine k_seq ?_
          refine k_region ?_
          refine s_run (w_none rfl) rfl (as_b rfl rfl) ?_
          refine l_nil ?_
          refine k_ret ?_
          repeat (first | refine r_then ?_ | refine r_blk ?_)
          exact q_ret (v := .bool _) rfl rfl ⟨_, rfl, vb (decide_eq_false (ne_at hx hy hxy)).symm, H.under⟩
        · replace hc41 : x.wit = y.wit := by simpa using hc41
          have hxy : x = y := by
            have h1 := beqPoint_iff.1 hb1
            cases x; cases y
            simp_all
          refine k_skip ?_
          refine k_nil ?_
          refine b_end ?_
          refine k_region ?_
          refine s_run (w_none rfl) rfl (mv_i rfl rfl) ?_
          refine s_run (w_none rfl) rfl (d_add rfl rfl rfl (by omega)) ?_
          refine s_run (w_none rfl) rfl (as_i rfl rfl) ?_
          refine l_nil ?_
          refine k_nil ?_
          refine k_next ?_
          refine ⟨_, _, _, ?_, rfl, ?_, ?_, ⟨i + 1, rfl, rfl, by omega, take_eq_step ht hx (hxy ▸ hy), H⟩⟩
          · omega
          · repeat (first | ((with_reducible refine Eqo.updl _ Eqo.ovr ?_); exact rfl) | ((with_reducible refine Eqo.updl _ (Eqo.ovr2 ?_ ?_) ?_); rotate_left; exact rfl; exact rfl) | ((with_reducible refine Eqo.upd ?_ ?_); rotate_left; exact rfl))
          · refine ⟨?_, trivial⟩
            · exact vi (by omega)
    · replace hc14 := of_decide_eq_false hc14
      refine k_exit ?_
      refine x_then (x_then ?_)
      refine x_hit ?_
      refine k_seq ?_
      refine k_region ?_
      refine s_run (w_none rfl) rfl (as_b rfl rfl) ?_
      refine l_nil ?_
      refine k_ret ?_
      repeat (first | refine r_then ?_ | refine r_blk ?_)
      obtain rfl : i = l.length := by omega
      exact q_ret (v := .bool _) rfl rfl ⟨_, rfl, vb (decide_eq_true (all_take (by omega) ht)).symm, H.under⟩

set_option maxHeartbeats 4000000 in
theorem sameOuts {S S1 : Nat → Prop} {v u : Value} {l r : List DOut} (w : World) (hl : RL 2 ROut w S [v] l) (hr : RL 2 ROut w S1 [u] r) : Calls Tryz.prog 73 [v, u].toArray w (Ret (Is w (.bool (decide (l = r))))) := by
  have hll := rl_len hl
  obtain ⟨A, c, xs, hv_, hcA_, hcmA_, hr1, hel⟩ := hl
  obtain rfl : v = .slice A l.length c := by cases hv_; rfl
  obtain ⟨B, d, ys, hv_, hcB_, hcmB_, hr, hes⟩ := hr
  obtain rfl : u = .slice B r.length d := by cases hv_; rfl
  refine k_enter (l := [_, _]) Tryz.func73 rfl rfl ?_
  have H := St.start nT w
  refine k_seq ?_
  refine k_region ?_
  refine s_run (w_none rfl) rfl (as_b rfl rfl) ?_
  refine l_nil ?_
  refine k_seq ?_
  refine k_seq ?_
  refine k_region ?_
  refine s_run (w_none rfl) rfl (mv_s rfl rfl) ?_
  refine s_run (w_none rfl) rfl (d_len rfl rfl tu29) ?_
  refine s_run (w_none rfl) rfl (mv_s rfl rfl) ?_
  refine s_run (w_none rfl) rfl (d_len rfl rfl tu29) ?_
  refine s_run (w_none rfl) rfl (d_ne rfl rfl rfl) ?_
  refine l_nil ?_
  refine k_cond rfl (fun hc10 => ?_) (fun hc10 => ?_)
  · have hc10 : ¬ l.length = r.length := by simp at hc10; omega
    refine k_seq ?_
    refine k_region ?_
    refine s_run (w_none rfl) rfl (as_b rfl rfl) ?_
    refine l_nil ?_
    refine k_ret ?_
    repeat (first | refine r_then ?_ | refine r_blk ?_)
    exact q_ret (v := .bool _) rfl rfl ⟨_, rfl, vb (decide_eq_false (fun e => by rw [e] at hc10; exact hc10 rfl)).symm, H.under⟩
  · have hc10 : l.length = r.length := by simp at hc10; omega
    refine k_skip ?_
    refine k_seq ?_
    refine k_seq ?_
    refine k_region ?_
    refine s_run (w_none rfl) rfl (as_i rfl rfl) ?_
    refine l_nil ?_
    refine k_block ?_
    refine k_loop 11 [4, 5] (fun mm sl W => ∃ i : Nat, l.length - i = mm ∧ sl = [(5, .int .i64 (i : Int))] ∧ (i ≤ l.length) ∧ (l.take i = r.take i) ∧ St nT w W []) _ _ ⟨0, rfl, rfl, Nat.zero_le _, rfl, H⟩ ⟨rfl, trivial⟩ (fun mm sl ρv W hJ => ?_)
    clear H; obtain ⟨i, rfl, rfl, hi, ht, H⟩ := hJ
    refine k_one ?_
    refine k_seq ?_
    refine k_seq ?_
    refine k_region ?_
    refine s_run (w_none rfl) rfl (mv_i rfl rfl) ?_
    refine s_run (w_none rfl) rfl (mv_s rfl rfl) ?_
    refine s_run (w_none rfl) rfl (d_len rfl rfl tu29) ?_
    refine s_run (w_none rfl) rfl (d_lt rfl rfl rfl) ?_
    refine l_nil ?_
    refine k_cond rfl (fun hc14 => ?_) (fun hc14 => ?_)
    · replace hc14 := of_decide_eq_true hc14
      have hlt : i < l.length := by omega
      have hlt2 : i < r.length := by omega
      obtain ⟨g0, o0, rfl, -⟩ := hr1.2 (by omega)
      obtain ⟨x, hx⟩ := get_lt hlt
      obtain ⟨E, e, hL, hB, hn⟩ := out_of (hel i x hx)
      obtain ⟨g1, o1, rfl, -⟩ := hr.2 (by omega)
      obtain ⟨y, hy⟩ := get_lt hlt2
      obtain ⟨F, f, hL2, hB2, hn2⟩ := out_of (hes i y hy)
      refine k_skip ?_
      refine k_seq ?_
      refine k_block ?_
      refine k_seq ?_
      rcases hb1 : (x.value == y.value) with _ | _
      · skip
        refine k_draw [(0, true), (1, true), (2, true), (3, true), (4, true), (5, true), (6, true), (7, true), (8, true), (9, true), (10, true), (11, true), (12, true), (13, true), (14, true), (15, true), (16, true), (17, true), (18, true), (19, true), (20, true), (21, true), (22, true), (23, true), (24, true)] [] (by kernel_rfl) (by kernel_rfl) H (.refl _) ?_
        clear H; intro W H
        refine c_run rfl (w_none rfl) rfl (fun W H => mv_s rfl rfl) ?_
        refine c_run rfl (w_none rfl) rfl (fun W H => mv_i rfl rfl) ?_
        refine c_run rfl (w_none rfl) rfl (fun W H => d_iaG rfl (H.rd hr1) rfl rfl (q := i) rfl hlt tu29 ts58) ?_
        refine c_run rfl (w_none rfl) rfl (fun W H => d_fa rfl rfl tf58_0) ?_
        refine c_run rfl (w_none rfl) rfl (fun W H => d_ldE (off := 0) rfl (H.rd hr1) hlt hL rfl rfl rfl (by omega) ta3) ?_
        refine c_run rfl (w_none rfl) rfl (fun W H => mv_s rfl rfl) ?_
        refine c_run rfl (w_none rfl) rfl (fun W H => mv_i rfl rfl) ?_
        refine c_run rfl (w_none rfl) rfl (fun W H => d_iaG rfl (H.rd hr) rfl rfl (q := i) rfl hlt2 tu29 ts58) ?_
        refine c_run rfl (w_none rfl) rfl (fun W H => d_fa rfl rfl tf58_0) ?_
        refine c_run rfl (w_none rfl) rfl (fun W H => d_ldE (off := 0) rfl (H.rd hr) hlt2 hL2 rfl rfl rfl (by omega) ta3) ?_
        refine c_run rfl (w_none rfl) rfl (fun W H => d_eq rfl rfl rfl) ?_
        refine c_run rfl (w_none rfl) rfl (fun W H => mv_bx (c := false) rfl rfl (by rw [hb1])) ?_
        refine c_skip rfl (w_gno rfl rfl rfl rfl rfl) rfl ?_
        refine c_skip rfl (w_gno rfl rfl rfl rfl rfl) rfl ?_
        refine c_skip rfl (w_gno rfl rfl rfl rfl rfl) rfl ?_
        refine c_skip rfl (w_gno rfl rfl rfl rfl rfl) rfl ?_
        refine c_skip rfl (w_gno rfl rfl rfl rfl rfl) rfl ?_
        refine c_skip rfl (w_gno rfl rfl rfl rfl rfl) rfl ?_
        refine c_skip rfl (w_gno rfl rfl rfl rfl rfl) rfl ?_
        refine c_skip rfl (w_gno rfl rfl rfl rfl rfl) rfl ?_
        refine c_skip rfl (w_gno rfl rfl rfl rfl rfl) rfl ?_
        refine c_skip rfl (w_gno rfl rfl rfl rfl rfl) rfl ?_
        refine c_skip rfl (w_gno rfl rfl rfl rfl rfl) rfl ?_
        refine c_run rfl (w_none rfl) rfl (fun W H => d_pickF rfl rfl rfl) ?_
        refine c_run rfl (w_none rfl) rfl (fun W H => d_not rfl rfl) ?_
        refine c_nil ?_
        refine k_condT rfl rfl ?_
        refine k_seq ?_
        refine k_region ?_
        refine s_run (w_none rfl) rfl (as_b rfl rfl) ?_
        refine l_nil ?_
        refine k_ret ?_
        repeat (first | refine r_then ?_ | refine r_blk ?_)
        have hxy : ¬ x = y := fun e => by rw [e] at hb1; simp at hb1
        exact q_ret (v := .bool _) rfl rfl ⟨_, rfl, vb (decide_eq_false (ne_at hx hy hxy)).symm, H.under⟩
      · skip
        refine k_draw [(0, true), (1, true), (2, true), (3, true), (4, true), (5, true), (6, true), (7, true), (8, true), (9, true), (10, true), (11, true), (12, true), (13, true), (14, true), (15, true), (16, true), (17, true), (18, true), (19, true), (20, true), (21, true), (22, false), (23, true), (24, true)] [] (by kernel_rfl) (by kernel_rfl) H (.refl _) ?_
        clear H; intro W H
        refine c_run rfl (w_none rfl) rfl (fun W H => mv_s rfl rfl) ?_
        refine c_run rfl (w_none rfl) rfl (fun W H => mv_i rfl rfl) ?_
        refine c_run rfl (w_none rfl) rfl (fun W H => d_iaG rfl (H.rd hr1) rfl rfl (q := i) rfl hlt tu29 ts58) ?_
        refine c_run rfl (w_none rfl) rfl (fun W H => d_fa rfl rfl tf58_0) ?_
        refine c_run rfl (w_none rfl) rfl (fun W H => d_ldE (off := 0) rfl (H.rd hr1) hlt hL rfl rfl rfl (by omega) ta3) ?_
        refine c_run rfl (w_none rfl) rfl (fun W H => mv_s rfl rfl) ?_
        refine c_run rfl (w_none rfl) rfl (fun W H => mv_i rfl rfl) ?_
        refine c_run rfl (w_none rfl) rfl (fun W H => d_iaG rfl (H.rd hr) rfl rfl (q := i) rfl hlt2 tu29 ts58) ?_
        refine c_run rfl (w_none rfl) rfl (fun W H => d_fa rfl rfl tf58_0) ?_
        refine c_run rfl (w_none rfl) rfl (fun W H => d_ldE (off := 0) rfl (H.rd hr) hlt2 hL2 rfl rfl rfl (by omega) ta3) ?_
        refine c_run rfl (w_none rfl) rfl (fun W H => d_eq rfl rfl rfl) ?_
        refine c_run rfl (w_none rfl) rfl (fun W H => mv_bx (c := true) rfl rfl (by rw [hb1])) ?_
        refine c_run rfl (w_g rfl rfl rfl rfl) rfl (fun W H => mv_s rfl rfl) ?_
        refine c_run rfl (w_g rfl rfl rfl rfl) rfl (fun W H => mv_i rfl rfl) ?_
        refine c_run rfl (w_g rfl rfl rfl rfl) rfl (fun W H => d_iaG rfl (H.rd hr1) rfl rfl (q := i) rfl hlt tu29 ts58) ?_
        refine c_run rfl (w_g rfl rfl rfl rfl) rfl (fun W H => d_fa rfl rfl tf58_1) ?_
        refine c_run rfl (w_g rfl rfl rfl rfl) rfl (fun W H => d_ldE (off := 1) rfl (H.rd hr1) hlt hL rfl rfl rfl (by omega) ta37) ?_
        refine c_run rfl (w_g rfl rfl rfl rfl) rfl (fun W H => mv_s rfl rfl) ?_
        refine c_run rfl (w_g rfl rfl rfl rfl) rfl (fun W H => mv_i rfl rfl) ?_
        refine c_run rfl (w_g rfl rfl rfl rfl) rfl (fun W H => d_iaG rfl (H.rd hr) rfl rfl (q := i) rfl hlt2 tu29 ts58) ?_
        refine c_run rfl (w_g rfl rfl rfl rfl) rfl (fun W H => d_fa rfl rfl tf58_1) ?_
        refine c_run rfl (w_g rfl rfl rfl rfl) rfl (fun W H => d_ldE (off := 1) rfl (H.rd hr) hlt2 hL2 rfl rfl rfl (by omega) ta37) ?_
        refine c_eff rfl (e_call (w_g rfl rfl rfl rfl) rfl rfl Tryz.func14 rfl rfl rfl (sameBytes _ _ x.script y.script _ (H.bs hB) (H.bs hB2)) ?_)
        rintro _ W ⟨rfl, hb⟩
        replace H := H.below hb
        clear hb
        refine ⟨H.sub (by repeat (first | exact List.Sublist.refl _ | exact List.nil_sublist _ | refine List.Sublist.cons_cons _ ?_ | refine List.Sublist.cons _ ?_)), ?_⟩
        refine c_run rfl (w_none rfl) rfl (fun W H => d_pickT rfl rfl rfl) ?_
        refine c_run rfl (w_none rfl) rfl (fun W H => d_not rfl rfl) ?_
        refine c_nil ?_
        refine k_cond rfl (fun hc41 => ?_) (fun hc41 => ?_)
        · replace hc41 : ¬ x.script = y.script := by simpa using hc41
          have hxy : ¬ x = y := fun e => hc41 (by rw [e])
          refine k_seq ?_
          refine k_region ?_
          refine s_run (w_none rfl) rfl (as_b rfl rfl) ?_
          refine l_nil ?_
          refine k_ret ?_
          repeat (first | refine r_then ?_ | refine r_blk ?_)
          exact q_ret (v := .bool _) rfl rfl ⟨_, rfl, vb (decide_eq_false (ne_at hx hy hxy)).symm, H.under⟩
        · replace hc41 : x.script = y.script := by simpa using hc41
          have hxy : x = y := by
            have h1 := eq_of_beq hb1
            cases x; cases y
            simp_all
          refine k_skip ?_
          refine k_nil ?_
          refine b_end ?_
          refine k_region ?_
          refine s_run (w_none rfl) rfl (mv_i rfl rfl) ?_
          refine s_run (w_none rfl) rfl (d_add rfl rfl rfl (by omega)) ?_
          refine s_run (w_none rfl) rfl (as_i rfl rfl) ?_
          refine l_nil ?_
          refine k_nil ?_
          refine k_next ?_
          refine ⟨_, _, _, ?_, rfl, ?_, ?_, ⟨i + 1, rfl, rfl, by omega, take_eq_step ht hx (hxy ▸ hy), H⟩⟩
          · omega
          · repeat (first | ((with_reducible refine Eqo.updl _ Eqo.ovr ?_); exact rfl) | ((with_reducible refine Eqo.updl _ (Eqo.ovr2 ?_ ?_) ?_); rotate_left; exact rfl; exact rfl) | ((with_reducible refine Eqo.upd ?_ ?_); rotate_left; exact rfl))
          · refine ⟨?_, trivial⟩
            · exact vi (by omega)
    · replace hc14 := of_decide_eq_false hc14
      refine k_exit ?_
      refine x_then (x_then ?_)
      refine x_hit ?_
      refine k_seq ?_
      refine k_region ?_
      refine s_run (w_none rfl) rfl (as_b rfl rfl) ?_
      refine l_nil ?_
      refine k_ret ?_
      repeat (first | refine r_then ?_ | refine r_blk ?_)
      obtain rfl : i = l.length := by omega
      exact q_ret (v := .bool _) rfl rfl ⟨_, rfl, vb (decide_eq_true (all_take (by omega) ht)).symm, H.under⟩

set_option maxHeartbeats 4000000 in
theorem sameTx {S S1 : Nat → Prop} {cs cu : List Value} {t u : DTx} (w : World) (ht : RTx w S cs t) (hu : RTx w S1 cu u) : Calls Tryz.prog 39 [.agg cs.toArray, .agg cu.toArray].toArray w (Ret (Is w (.bool (decide (t = u))))) := by
  obtain ⟨A, c, B, d, rfl, hI, hO, hk⟩ := tx_of ht
  obtain ⟨A1, c1, B1, d1, rfl, hI1, hO1, hk1⟩ := tx_of hu
  refine k_enter (l := [_, _]) Tryz.func39 rfl rfl ?_
  have H := St.start nT w
  refine k_seq ?_
  refine k_region ?_
  refine s_eff (e_box (vs := (txC A t.ins.length c B t.outs.length d t.lock)) (w_none rfl) rfl rfl rfl rfl H ?_)
  clear H; intro gm W H
  refine s_eff (e_box (vs := (txC A1 u.ins.length c1 B1 u.outs.length d1 u.lock)) (w_none rfl) rfl rfl rfl rfl H ?_)
  clear H; intro gu W H
  refine s_run (w_none rfl) rfl (as_b rfl rfl) ?_
  refine l_nil ?_
  refine k_seq ?_
  rcases (show (t.lock == u.lock) = false ∨ ((t.lock == u.lock) = true ∧ ¬ t.ins = u.ins) ∨ ((t.lock == u.lock) = true ∧ t.ins = u.ins) by cases (t.lock == u.lock) <;> simp; exact Decidable.em _ |>.symm) with hs1 | ⟨hs1, hs2⟩ | ⟨hs1, hs2⟩
  · skip
    refine k_region ?_
    refine s_run (w_none rfl) rfl (d_fa rfl rfl tf31_2) ?_
    refine s_run (w_none rfl) rfl (d_ld rfl H rfl ta3 rfl) ?_
    refine s_run (w_none rfl) rfl (d_fa rfl rfl tf31_2) ?_
    refine s_run (w_none rfl) rfl (d_ld rfl H rfl ta3 rfl) ?_
    refine s_run (w_none rfl) rfl (d_eq rfl rfl rfl) ?_
    refine s_run (w_none rfl) rfl (mv_bx (c := false) rfl rfl (by rw [hs1])) ?_
    refine s_skip (w_gno rfl rfl rfl rfl rfl) rfl ?_
    refine s_skip (w_gno rfl rfl rfl rfl rfl) rfl ?_
    refine s_skip (w_gno rfl rfl rfl rfl rfl) rfl ?_
    refine s_skip (w_gno rfl rfl rfl rfl rfl) rfl ?_
    refine s_skip (w_gno rfl rfl rfl rfl rfl) rfl ?_
    refine s_run (w_none rfl) rfl (d_pickF rfl rfl rfl) ?_
    refine s_run (w_none rfl) rfl (mv_bx (c := false) rfl rfl (by first | rfl | exact decide_eq_true hs2 | exact decide_eq_false hs2)) ?_
    refine s_skip (w_gno rfl rfl rfl rfl rfl) rfl ?_
    refine s_skip (w_gno rfl rfl rfl rfl rfl) rfl ?_
    refine s_skip (w_gno rfl rfl rfl rfl rfl) rfl ?_
    refine s_skip (w_gno rfl rfl rfl rfl rfl) rfl ?_
    refine s_skip (w_gno rfl rfl rfl rfl rfl) rfl ?_
    refine s_run (w_none rfl) rfl (d_pickF rfl rfl rfl) ?_
    refine s_run (w_none rfl) rfl (as_b rfl rfl) ?_
    refine l_nil ?_
    refine k_ret ?_
    repeat (first | refine r_then ?_ | refine r_blk ?_)
    exact q_ret (v := .bool _) rfl rfl ⟨_, rfl, vb (decide_eq_false (fun e => by rw [e] at hs1; simp at hs1)).symm, H.under⟩
  · skip
    refine k_region ?_
    refine s_run (w_none rfl) rfl (d_fa rfl rfl tf31_2) ?_
    refine s_run (w_none rfl) rfl (d_ld rfl H rfl ta3 rfl) ?_
    refine s_run (w_none rfl) rfl (d_fa rfl rfl tf31_2) ?_
    refine s_run (w_none rfl) rfl (d_ld rfl H rfl ta3 rfl) ?_
    refine s_run (w_none rfl) rfl (d_eq rfl rfl rfl) ?_
    refine s_run (w_none rfl) rfl (mv_bx (c := true) rfl rfl (by rw [hs1])) ?_
    refine s_run (w_g rfl rfl rfl rfl) rfl (d_fa rfl rfl tf31_0) ?_
    refine s_run (w_g rfl rfl rfl rfl) rfl (d_ld rfl H rfl ta28 rfl) ?_
    refine s_run (w_g rfl rfl rfl rfl) rfl (d_fa rfl rfl tf31_0) ?_
    refine s_run (w_g rfl rfl rfl rfl) rfl (d_ld rfl H rfl ta28 rfl) ?_
    refine s_eff (e_call (w_g rfl rfl rfl rfl) rfl rfl Tryz.func72 rfl rfl rfl (sameIns _ (keeps_L keeps_In _ _ _ _ _ hI (fun g hg _ => H.fr.block g hg (fun h => h))) (keeps_L keeps_In _ _ _ _ _ hI1 (fun g hg _ => H.fr.block g hg (fun h => h)))) ?_)
    rintro _ W ⟨rfl, hb⟩
    replace H := H.below hb
    clear hb
    refine s_run (w_none rfl) rfl (d_pickT rfl rfl rfl) ?_
    refine s_run (w_none rfl) rfl (mv_bx (c := false) rfl rfl (by first | rfl | exact decide_eq_true hs2 | exact decide_eq_false hs2)) ?_
    refine s_skip (w_gno rfl rfl rfl rfl rfl) rfl ?_
    refine s_skip (w_gno rfl rfl rfl rfl rfl) rfl ?_
    refine s_skip (w_gno rfl rfl rfl rfl rfl) rfl ?_
    refine s_skip (w_gno rfl rfl rfl rfl rfl) rfl ?_
    refine s_skip (w_gno rfl rfl rfl rfl rfl) rfl ?_
    refine s_run (w_none rfl) rfl (d_pickF rfl rfl rfl) ?_
    refine s_run (w_none rfl) rfl (as_b rfl rfl) ?_
    refine l_nil ?_
    refine k_ret ?_
    repeat (first | refine r_then ?_ | refine r_blk ?_)
    exact q_ret (v := .bool _) rfl rfl ⟨_, rfl, vb (decide_eq_false (fun e => hs2 (by rw [e]))).symm, H.under⟩
  · skip
    refine k_region ?_
    refine s_run (w_none rfl) rfl (d_fa rfl rfl tf31_2) ?_
    refine s_run (w_none rfl) rfl (d_ld rfl H rfl ta3 rfl) ?_
    refine s_run (w_none rfl) rfl (d_fa rfl rfl tf31_2) ?_
    refine s_run (w_none rfl) rfl (d_ld rfl H rfl ta3 rfl) ?_
    refine s_run (w_none rfl) rfl (d_eq rfl rfl rfl) ?_
    refine s_run (w_none rfl) rfl (mv_bx (c := true) rfl rfl (by rw [hs1])) ?_
    refine s_run (w_g rfl rfl rfl rfl) rfl (d_fa rfl rfl tf31_0) ?_
    refine s_run (w_g rfl rfl rfl rfl) rfl (d_ld rfl H rfl ta28 rfl) ?_
    refine s_run (w_g rfl rfl rfl rfl) rfl (d_fa rfl rfl tf31_0) ?_
    refine s_run (w_g rfl rfl rfl rfl) rfl (d_ld rfl H rfl ta28 rfl) ?_
    refine s_eff (e_call (w_g rfl rfl rfl rfl) rfl rfl Tryz.func72 rfl rfl rfl (sameIns _ (keeps_L keeps_In _ _ _ _ _ hI (fun g hg _ => H.fr.block g hg (fun h => h))) (keeps_L keeps_In _ _ _ _ _ hI1 (fun g hg _ => H.fr.block g hg (fun h => h)))) ?_)
    rintro _ W ⟨rfl, hb⟩
    replace H := H.below hb
    clear hb
    refine s_run (w_none rfl) rfl (d_pickT rfl rfl rfl) ?_
    refine s_run (w_none rfl) rfl (mv_bx (c := true) rfl rfl (by first | rfl | exact decide_eq_true hs2 | exact decide_eq_false hs2)) ?_
    refine s_run (w_g rfl rfl rfl rfl) rfl (d_fa rfl rfl tf31_1) ?_
    refine s_run (w_g rfl rfl rfl rfl) rfl (d_ld rfl H rfl ta29 rfl) ?_
    refine s_run (w_g rfl rfl rfl rfl) rfl (d_fa rfl rfl tf31_1) ?_
    refine s_run (w_g rfl rfl rfl rfl) rfl (d_ld rfl H rfl ta29 rfl) ?_
    refine s_eff (e_call (w_g rfl rfl rfl rfl) rfl rfl Tryz.func73 rfl rfl rfl (sameOuts _ (keeps_L keeps_Out _ _ _ _ _ hO (fun g hg _ => H.fr.block g hg (fun h => h))) (keeps_L keeps_Out _ _ _ _ _ hO1 (fun g hg _ => H.fr.block g hg (fun h => h)))) ?_)
    rintro _ W ⟨rfl, hb⟩
    replace H := H.below hb
    clear hb
    refine s_run (w_none rfl) rfl (d_pickT rfl rfl rfl) ?_
    refine s_run (w_none rfl) rfl (as_b rfl rfl) ?_
    refine l_nil ?_
    refine k_ret ?_
    repeat (first | refine r_then ?_ | refine r_blk ?_)
    exact q_ret (v := .bool _) rfl rfl ⟨_, rfl, vb (by have h1 := eq_of_beq hs1; cases t; cases u; simp_all), H.under⟩

theorem in_one {p : DPoint} {A : Option Addr} {m c : Nat} : (inC p A m c).all (·.oneCell') = true := by
  unfold inC pointC
  rw [List.all_append, List.all_append, all_u8L]
  rfl

/-- A new transaction, its rows apart from what they lead to. -/
def NewTx (w : World) (t : DTx) (v : Value) (w' : World) : Prop := ∃ A c B d xs ys S0 S1, v = .agg (txC A t.ins.length c B t.outs.length d t.lock).toArray ∧ (t.ins.length ≤ c ∧ c ≤ 9223372036854775807) ∧ (t.outs.length ≤ d ∧ d ≤ 9223372036854775807) ∧ St nT w w' [Fact.row 56 34 (.slice A t.ins.length c) t.ins.length xs, Fact.els RIn 34 S0 xs t.ins, Fact.row 58 2 (.slice B t.outs.length d) t.outs.length ys, Fact.els ROut 2 S1 ys t.outs]
structure Tx.Fits (t : DTx) : Prop where
  ins : t.ins.length ≤ 1000000000
  outs : t.outs.length ≤ 1000000000
  wit : ∀ x ∈ t.ins, x.wit.length ≤ 1000000000 ∧ ∀ b ∈ x.wit, b.length ≤ 1000000000000
  scr : ∀ o ∈ t.outs, o.script.length ≤ 1000000000000
theorem NewTx.rep {w W W' : World} {T : Nat → Prop} {L : List Fact} {t : DTx} {v : Value} (h : NewTx W t v W') (H : St T w W L) (hk : I64 t.lock) : ∃ S A c B d, v = .agg (txC A t.ins.length c B t.outs.length d t.lock).toArray ∧ St T w W' (Fact.rep RTx S (txC A t.ins.length c B t.outs.length d t.lock) t :: L) := by
  obtain ⟨A, c, B, d, xs, ys, S0, S1, rfl, _, _, hn⟩ := h
  have H4 := H.add4 hn
  have H3 := (H4.tolist.perm (.trans (.swap _ _ _) (.cons _ (.swap _ _ _)))).tolist.perm (.swap _ _ _)
  exact ⟨_, A, c, B, d, rfl, St.join H3 (fun S2 h1 h2 => tx_rep h1 h2 hk)⟩

end Go.Proofs.YtfjhmecmhchbdaaGreatDoor

namespace Go.Proofs.YtfjhmecmhchbdaaGreatDoor
open Go Go.RowKit
attribute [local irreducible] wpList

def zPt : DPoint := ⟨List.replicate 32 0, 0⟩
theorem tzIn : ((Tryz.prog.info? 56).bind (·.zero)).map (·.cells) = some (inC zPt none 0 0).toArray := by kernel_rfl
theorem within {n a b : Int} (w : World) : Calls Tryz.prog 101 [.int .i64 n, .int .i64 a, .int .i64 b].toArray w (Ret (Is w (.bool (decide (a ≤ n ∧ n ≤ b))))) := by
  refine k_enter (l := [_, _, _]) Tryz.func101 rfl rfl ?_
  have H := St.start nT w
  refine k_seq ?_
  refine k_region ?_
  refine s_run (w_none rfl) rfl (as_b rfl rfl) ?_
  refine l_nil ?_
  refine k_seq ?_
  rcases Int.lt_or_le n a with h1 | h1
  · skip
    refine k_region ?_
    refine s_run (w_none rfl) rfl (mv_i rfl rfl) ?_
    refine s_run (w_none rfl) rfl (mv_i rfl rfl) ?_
    refine s_run (w_none rfl) rfl (d_ge rfl rfl rfl) ?_
    refine s_run (w_none rfl) rfl (mv_bx (c := false) rfl rfl (by simp; omega)) ?_
    refine s_skip (w_gno rfl rfl rfl rfl rfl) rfl ?_
    refine s_skip (w_gno rfl rfl rfl rfl rfl) rfl ?_
    refine s_skip (w_gno rfl rfl rfl rfl rfl) rfl ?_
    refine s_run (w_none rfl) rfl (d_pickF rfl rfl rfl) ?_
    refine s_run (w_none rfl) rfl (as_b rfl rfl) ?_
    refine l_nil ?_
    refine k_ret ?_
    repeat (first | refine r_then ?_ | refine r_blk ?_)
    exact q_ret (v := .bool _) rfl rfl ⟨_, rfl, vb (by simp; omega), H.under⟩
  · skip
    refine k_region ?_
    refine s_run (w_none rfl) rfl (mv_i rfl rfl) ?_
    refine s_run (w_none rfl) rfl (mv_i rfl rfl) ?_
    refine s_run (w_none rfl) rfl (d_ge rfl rfl rfl) ?_
    refine s_run (w_none rfl) rfl (mv_bx (c := true) rfl rfl (by simp; omega)) ?_
    refine s_run (w_g rfl rfl rfl rfl) rfl (mv_i rfl rfl) ?_
    refine s_run (w_g rfl rfl rfl rfl) rfl (mv_i rfl rfl) ?_
    refine s_run (w_g rfl rfl rfl rfl) rfl (d_le rfl rfl rfl) ?_
    refine s_run (w_none rfl) rfl (d_pickT rfl rfl rfl) ?_
    refine s_run (w_none rfl) rfl (as_b rfl rfl) ?_
    refine l_nil ?_
    refine k_ret ?_
    repeat (first | refine r_then ?_ | refine r_blk ?_)
    exact q_ret (v := .bool _) rfl rfl ⟨_, rfl, vb (by simp; omega), H.under⟩

theorem farF {p : DPoint} {A : Option Addr} {m c : Nat} {ws : List (List UInt8)} (w : World) (hp : p.tx.length = 32) : Calls Tryz.prog 100 [.agg (inC p A m c).toArray].toArray w (Ret (Is w (.bool (Tx.far ⟨p, ws⟩)))) := by
  refine k_enter (l := [_]) Tryz.func100 rfl rfl ?_
  have H := St.start nT w
  refine k_seq ?_
  refine k_region ?_
  refine s_eff (e_box (vs := (inC p A m c)) (w_none rfl) rfl rfl rfl rfl H ?_)
  clear H; intro gx W H
  refine s_run (w_none rfl) rfl (as_b rfl rfl) ?_
  refine l_nil ?_
  refine k_seq ?_
  refine k_region ?_
  refine s_run (w_none rfl) rfl (d_fa rfl rfl tf56_0) ?_
  refine s_run (w_none rfl) rfl (d_fa rfl rfl tf53_1) ?_
  refine s_run (w_none rfl) rfl (d_ldX (g := gx) (off := 32) rfl H (sub_in_n hp) rfl rfl ta3) ?_
  refine s_eff (e_call (w_none rfl) rfl rfl Tryz.func101 rfl rfl rfl (within _) ?_)
  rintro _ W ⟨rfl, hb⟩
  replace H := H.below hb
  clear hb
  refine s_run (w_none rfl) rfl (d_not rfl rfl) ?_
  refine s_run (w_none rfl) rfl (as_b rfl rfl) ?_
  refine l_nil ?_
  refine k_ret ?_
  repeat (first | refine r_then ?_ | refine r_blk ?_)
  exact q_ret (v := .bool _) rfl rfl ⟨_, rfl, vb (Bool.eq_iff_iff.2 (by unfold Tx.far; simp <;> omega)), H.under⟩

theorem itemF {A : Option Addr} {c : Nat} {b : List UInt8} (w : World) : Calls Tryz.prog 102 [.slice A b.length c].toArray w (Ret (Is w (.bool (decide (64 < b.length))))) := by
  refine k_enter (l := [_]) Tryz.func102 rfl rfl ?_
  have H := St.start nT w
  refine k_seq ?_
  refine k_region ?_
  refine s_run (w_none rfl) rfl (as_b rfl rfl) ?_
  refine l_nil ?_
  refine k_seq ?_
  refine k_region ?_
  refine s_run (w_none rfl) rfl (mv_s rfl rfl) ?_
  refine s_run (w_none rfl) rfl (d_len rfl rfl tu37) ?_
  refine s_run (w_none rfl) rfl (d_gt rfl rfl rfl) ?_
  refine s_run (w_none rfl) rfl (as_b rfl rfl) ?_
  refine l_nil ?_
  refine k_ret ?_
  repeat (first | refine r_then ?_ | refine r_blk ?_)
  exact q_ret (v := .bool _) rfl rfl ⟨_, rfl, vb (by simp; omega), H.under⟩

theorem scriptF {A : Option Addr} {c : Nat} {o : DOut} (w : World) : Calls Tryz.prog 105 [.agg (outC o.value A o.script.length c).toArray].toArray w (Ret (Is w (.bool (decide (256 < o.script.length))))) := by
  refine k_enter (l := [_]) Tryz.func105 rfl rfl ?_
  have H := St.start nT w
  refine k_seq ?_
  refine k_region ?_
  refine s_eff (e_box (vs := (outC o.value A o.script.length c)) (w_none rfl) rfl rfl rfl rfl H ?_)
  clear H; intro gx W H
  refine s_run (w_none rfl) rfl (as_b rfl rfl) ?_
  refine l_nil ?_
  refine k_seq ?_
  refine k_region ?_
  refine s_run (w_none rfl) rfl (d_fa rfl rfl tf58_1) ?_
  refine s_run (w_none rfl) rfl (d_ld rfl H rfl ta37 rfl) ?_
  refine s_run (w_none rfl) rfl (d_len rfl rfl tu37) ?_
  refine s_run (w_none rfl) rfl (d_gt rfl rfl rfl) ?_
  refine s_run (w_none rfl) rfl (as_b rfl rfl) ?_
  refine l_nil ?_
  refine k_ret ?_
  repeat (first | refine r_then ?_ | refine r_blk ?_)
  exact q_ret (v := .bool _) rfl rfl ⟨_, rfl, vb (by simp; omega), H.under⟩

theorem any_no {α : Type} {f : α → Bool} {l : List α} {i : Nat} {x : α} (hx : l[i]? = some x) (h : (l.take i).any f = false) (hb : f x = false) : (l.take (i + 1)).any f = false := by
  rw [take_get hx, List.any_append, h]; simp [hb]
theorem any_yes {α : Type} {f : α → Bool} {l : List α} {i : Nat} {x : α} (hx : l[i]? = some x) (hb : f x = true) : l.any f = true := List.any_eq_true.2 ⟨x, List.mem_of_getElem? hx, hb⟩

theorem idxItem {S : Nat → Prop} {v : Value} {l : List (List UInt8)} (w : World) (hl : RL 1 RB w S [v] l) : Calls Tryz.prog 124 [v, .func (.func 102) #[] #[]].toArray w (Ret (fun v' w' => ∃ z : Int, v' = .int .i64 z ∧ decide (0 ≤ z) = l.any (fun b => decide (64 < b.length)) ∧ Below w.heap.size w w')) := by
  have hll := rl_len hl
  obtain ⟨A, c, xs, hv_, hcA_, hcmA_, hr, hel⟩ := hl
  obtain rfl : v = .slice A l.length c := by cases hv_; rfl
  refine k_enter (l := [_, _]) Tryz.func124 rfl rfl ?_
  have H := St.start nT w
  refine k_seq ?_
  refine k_region ?_
  refine s_run (w_none rfl) rfl (as_i rfl rfl) ?_
  refine l_nil ?_
  refine k_seq ?_
  refine k_seq ?_
  refine k_region ?_
  refine s_run (w_none rfl) rfl (mv_s rfl rfl) ?_
  refine s_run (w_none rfl) rfl (d_len rfl rfl tu54) ?_
  refine s_run (w_none rfl) rfl (mv_i rfl rfl) ?_
  refine l_nil ?_
  refine k_block ?_
  refine k_loop 8 [4, 5] (fun mm sl W => ∃ i : Nat, l.length - i = mm ∧ sl = [(8, .int .i64 (i : Int))] ∧ (i ≤ l.length) ∧ ((l.take i).any (fun b => decide (64 < b.length)) = false) ∧ St nT w W []) _ _ ⟨0, rfl, rfl, Nat.zero_le _, rfl, H⟩ ⟨rfl, trivial⟩ (fun mm sl ρv W hJ => ?_)
  clear H; obtain ⟨i, rfl, rfl, hi, hno, H⟩ := hJ
  refine k_one ?_
  refine k_seq ?_
  refine k_region ?_
  refine s_run (w_none rfl) rfl (d_lt rfl rfl rfl) ?_
  refine l_nil ?_
  refine k_seq ?_
  refine k_cond rfl (fun hc9 => ?_) (fun hc9 => ?_)
  · replace hc9 := of_decide_eq_true hc9
    have hlt : i < l.length := by omega
    obtain ⟨g0, o0, rfl, -⟩ := hr.2 (by omega)
    obtain ⟨b, hx⟩ := get_lt hlt
    obtain ⟨B, d, hL, hB⟩ := rb_of (hel i b hx)
    refine k_skip ?_
    refine k_seq ?_
    refine k_block ?_
    refine k_seq ?_
    refine k_region ?_
    refine s_run (w_none rfl) rfl (mv_i rfl rfl) ?_
    refine s_run (w_none rfl) rfl (as_i rfl rfl) ?_
    refine l_nil ?_
    refine k_seq ?_
    refine k_region ?_
    refine s_run (w_none rfl) rfl (mv_f rfl rfl) ?_
    refine s_run (w_none rfl) rfl (mv_s rfl rfl) ?_
    refine s_run (w_none rfl) rfl (mv_i rfl rfl) ?_
    refine s_run (w_none rfl) rfl (d_iaG rfl (H.rd hr) rfl rfl (q := i) rfl hlt tu54 ts37) ?_
    refine s_run (w_none rfl) rfl (d_ldE (off := 0) rfl (H.rd hr) hlt hL rfl rfl rfl (by omega) ta37) ?_
    refine s_eff (e_callv (w_none rfl) rfl rfl rfl Tryz.func102 rfl rfl rfl (itemF _) ?_)
    rintro _ W ⟨rfl, hb⟩
    replace H := H.below hb
    clear hb
    refine l_nil ?_
    refine k_cond rfl (fun hc16 => ?_) (fun hc16 => ?_)
    · skip
      refine k_seq ?_
      refine k_region ?_
      refine s_run (w_none rfl) rfl (mv_i rfl rfl) ?_
      refine s_run (w_none rfl) rfl (as_i rfl rfl) ?_
      refine l_nil ?_
      refine k_ret ?_
      repeat (first | refine r_then ?_ | refine r_blk ?_)
      exact q_ret (v := .int _ _) rfl rfl ⟨_, rfl, _, rfl, by rw [any_yes hx hc16]; simp, H.under⟩
    · skip
      refine k_skip ?_
      refine k_nil ?_
      refine b_end ?_
      refine k_region ?_
      refine s_run (w_none rfl) rfl (d_add rfl rfl rfl (by omega)) ?_
      refine s_run (w_none rfl) rfl (mv_i rfl rfl) ?_
      refine l_nil ?_
      refine k_nil ?_
      refine k_next ?_
      refine ⟨_, _, _, ?_, rfl, ?_, ?_, ⟨i + 1, rfl, rfl, by omega, any_no hx hno hc16, H⟩⟩
      · omega
      · repeat (first | ((with_reducible refine Eqo.updl _ Eqo.ovr ?_); exact rfl) | ((with_reducible refine Eqo.updl _ (Eqo.ovr2 ?_ ?_) ?_); rotate_left; exact rfl; exact rfl) | ((with_reducible refine Eqo.upd ?_ ?_); rotate_left; exact rfl))
      · refine ⟨?_, trivial⟩
        · exact vi (by omega)
  · replace hc9 := of_decide_eq_false hc9
    refine k_exit ?_
    refine x_then (x_then ?_)
    refine x_hit ?_
    refine k_seq ?_
    obtain rfl : i = l.length := by omega
    rw [List.take_length] at hno
    refine k_region ?_
    refine s_run (w_none rfl) rfl (as_i rfl rfl) ?_
    refine l_nil ?_
    refine k_ret ?_
    repeat (first | refine r_then ?_ | refine r_blk ?_)
    exact q_ret (v := .int _ _) rfl rfl ⟨_, rfl, _, rfl, by rw [hno]; rfl, H.under⟩

theorem hasItem {S : Nat → Prop} {v : Value} {l : List (List UInt8)} (w : World) (hl : RL 1 RB w S [v] l) : Calls Tryz.prog 104 [v, .func (.func 102) #[] #[]].toArray w (Ret (Is w (.bool (l.any (fun b => decide (64 < b.length)))))) := by
  have hl0 := hl
  obtain ⟨A, c, xs, hv_, hcA_, hcmA_, hr, hel⟩ := hl
  obtain rfl : v = .slice A l.length c := by cases hv_; rfl
  refine k_enter (l := [_, _]) Tryz.func104 rfl rfl ?_
  have H := St.start nT w
  refine k_seq ?_
  refine k_region ?_
  refine s_run (w_none rfl) rfl (as_b rfl rfl) ?_
  refine l_nil ?_
  refine k_seq ?_
  refine k_region ?_
  refine s_run (w_none rfl) rfl (mv_s rfl rfl) ?_
  refine s_run (w_none rfl) rfl (mv_f rfl rfl) ?_
  refine s_eff (e_call (w_none rfl) rfl rfl Tryz.func124 rfl rfl rfl (idxItem _ (keeps_L keeps_B _ _ _ _ _ hl0 (fun g hg _ => H.fr.block g hg (fun h => h)))) ?_)
  rintro _ W ⟨z, rfl, hz, hb⟩
  replace H := H.below hb
  clear hb
  refine s_run (w_none rfl) rfl (d_ge rfl rfl rfl) ?_
  refine s_run (w_none rfl) rfl (as_b rfl rfl) ?_
  refine l_nil ?_
  refine k_ret ?_
  repeat (first | refine r_then ?_ | refine r_blk ?_)
  exact q_ret (v := .bool _) rfl rfl ⟨_, rfl, vb (hz), H.under⟩

theorem idxFar {S : Nat → Prop} {v : Value} {l : List DIn} (w : World) (hl : RL 34 RIn w S [v] l) : Calls Tryz.prog 125 [v, .func (.func 100) #[] #[]].toArray w (Ret (fun v' w' => ∃ z : Int, v' = .int .i64 z ∧ decide (0 ≤ z) = l.any Tx.far ∧ Below w.heap.size w w')) := by
  have hll := rl_len hl
  obtain ⟨A, c, xs, hv_, hcA_, hcmA_, hr, hel⟩ := hl
  obtain rfl : v = .slice A l.length c := by cases hv_; rfl
  refine k_enter (l := [_, _]) Tryz.func125 rfl rfl ?_
  have H := St.start nT w
  refine k_seq ?_
  refine k_region ?_
  refine s_run (w_none rfl) rfl (as_i rfl rfl) ?_
  refine l_nil ?_
  refine k_seq ?_
  refine k_seq ?_
  refine k_region ?_
  refine s_run (w_none rfl) rfl (mv_s rfl rfl) ?_
  refine s_run (w_none rfl) rfl (d_len rfl rfl tu28) ?_
  refine s_run (w_none rfl) rfl (mv_i rfl rfl) ?_
  refine l_nil ?_
  refine k_block ?_
  refine k_loop 8 [4, 5] (fun mm sl W => ∃ i : Nat, l.length - i = mm ∧ sl = [(8, .int .i64 (i : Int))] ∧ (i ≤ l.length) ∧ ((l.take i).any Tx.far = false) ∧ St nT w W []) _ _ ⟨0, rfl, rfl, Nat.zero_le _, rfl, H⟩ ⟨rfl, trivial⟩ (fun mm sl ρv W hJ => ?_)
  clear H; obtain ⟨i, rfl, rfl, hi, hno, H⟩ := hJ
  refine k_one ?_
  refine k_seq ?_
  refine k_region ?_
  refine s_run (w_none rfl) rfl (d_lt rfl rfl rfl) ?_
  refine l_nil ?_
  refine k_seq ?_
  refine k_cond rfl (fun hc9 => ?_) (fun hc9 => ?_)
  · replace hc9 := of_decide_eq_true hc9
    have hlt : i < l.length := by omega
    obtain ⟨g0, o0, rfl, -⟩ := hr.2 (by omega)
    obtain ⟨x, hx⟩ := get_lt hlt
    obtain ⟨B2, d2, hL, hW, hp, hn⟩ := in_of (hel i x hx)
    refine k_skip ?_
    refine k_seq ?_
    refine k_block ?_
    refine k_seq ?_
    refine k_region ?_
    refine s_run (w_none rfl) rfl (mv_i rfl rfl) ?_
    refine s_run (w_none rfl) rfl (as_i rfl rfl) ?_
    refine l_nil ?_
    refine k_seq ?_
    refine k_region ?_
    refine s_run (w_none rfl) rfl (mv_f rfl rfl) ?_
    refine s_run (w_none rfl) rfl (mv_s rfl rfl) ?_
    refine s_run (w_none rfl) rfl (mv_i rfl rfl) ?_
    refine s_run (w_none rfl) rfl (d_iaG rfl (H.rd hr) rfl rfl (q := i) rfl hlt tu28 ts56) ?_
    refine s_run (w_none rfl) rfl (d_ldEM (off := 0) rfl (H.rd hr) hlt hL (sub_all (len_in hp)) rfl rfl (by omega) ta56 ts56) ?_
    refine s_eff (e_callv (w_none rfl) rfl rfl rfl Tryz.func100 rfl rfl rfl (farF (ws := x.wit) _ hp) ?_)
    rintro _ W ⟨rfl, hb⟩
    replace H := H.below hb
    clear hb
    refine l_nil ?_
    refine k_cond rfl (fun hc16 => ?_) (fun hc16 => ?_)
    · skip
      refine k_seq ?_
      refine k_region ?_
      refine s_run (w_none rfl) rfl (mv_i rfl rfl) ?_
      refine s_run (w_none rfl) rfl (as_i rfl rfl) ?_
      refine l_nil ?_
      refine k_ret ?_
      repeat (first | refine r_then ?_ | refine r_blk ?_)
      exact q_ret (v := .int _ _) rfl rfl ⟨_, rfl, _, rfl, by rw [any_yes hx hc16]; simp, H.under⟩
    · skip
      refine k_skip ?_
      refine k_nil ?_
      refine b_end ?_
      refine k_region ?_
      refine s_run (w_none rfl) rfl (d_add rfl rfl rfl (by omega)) ?_
      refine s_run (w_none rfl) rfl (mv_i rfl rfl) ?_
      refine l_nil ?_
      refine k_nil ?_
      refine k_next ?_
      refine ⟨_, _, _, ?_, rfl, ?_, ?_, ⟨i + 1, rfl, rfl, by omega, any_no hx hno hc16, H⟩⟩
      · omega
      · repeat (first | ((with_reducible refine Eqo.updl _ Eqo.ovr ?_); exact rfl) | ((with_reducible refine Eqo.updl _ (Eqo.ovr2 ?_ ?_) ?_); rotate_left; exact rfl; exact rfl) | ((with_reducible refine Eqo.upd ?_ ?_); rotate_left; exact rfl))
      · refine ⟨?_, trivial⟩
        · exact vi (by omega)
  · replace hc9 := of_decide_eq_false hc9
    refine k_exit ?_
    refine x_then (x_then ?_)
    refine x_hit ?_
    refine k_seq ?_
    obtain rfl : i = l.length := by omega
    rw [List.take_length] at hno
    refine k_region ?_
    refine s_run (w_none rfl) rfl (as_i rfl rfl) ?_
    refine l_nil ?_
    refine k_ret ?_
    repeat (first | refine r_then ?_ | refine r_blk ?_)
    exact q_ret (v := .int _ _) rfl rfl ⟨_, rfl, _, rfl, by rw [hno]; rfl, H.under⟩

theorem hasFar {S : Nat → Prop} {v : Value} {l : List DIn} (w : World) (hl : RL 34 RIn w S [v] l) : Calls Tryz.prog 106 [v, .func (.func 100) #[] #[]].toArray w (Ret (Is w (.bool (l.any Tx.far)))) := by
  have hl0 := hl
  obtain ⟨A, c, xs, hv_, hcA_, hcmA_, hr, hel⟩ := hl
  obtain rfl : v = .slice A l.length c := by cases hv_; rfl
  refine k_enter (l := [_, _]) Tryz.func106 rfl rfl ?_
  have H := St.start nT w
  refine k_seq ?_
  refine k_region ?_
  refine s_run (w_none rfl) rfl (as_b rfl rfl) ?_
  refine l_nil ?_
  refine k_seq ?_
  refine k_region ?_
  refine s_run (w_none rfl) rfl (mv_s rfl rfl) ?_
  refine s_run (w_none rfl) rfl (mv_f rfl rfl) ?_
  refine s_eff (e_call (w_none rfl) rfl rfl Tryz.func125 rfl rfl rfl (idxFar _ (keeps_L keeps_In _ _ _ _ _ hl0 (fun g hg _ => H.fr.block g hg (fun h => h)))) ?_)
  rintro _ W ⟨z, rfl, hz, hb⟩
  replace H := H.below hb
  clear hb
  refine s_run (w_none rfl) rfl (d_ge rfl rfl rfl) ?_
  refine s_run (w_none rfl) rfl (as_b rfl rfl) ?_
  refine l_nil ?_
  refine k_ret ?_
  repeat (first | refine r_then ?_ | refine r_blk ?_)
  exact q_ret (v := .bool _) rfl rfl ⟨_, rfl, vb (hz), H.under⟩

theorem idxScript {S : Nat → Prop} {v : Value} {l : List DOut} (w : World) (hl : RL 2 ROut w S [v] l) : Calls Tryz.prog 126 [v, .func (.func 105) #[] #[]].toArray w (Ret (fun v' w' => ∃ z : Int, v' = .int .i64 z ∧ decide (0 ≤ z) = l.any (fun o => decide (256 < o.script.length)) ∧ Below w.heap.size w w')) := by
  have hll := rl_len hl
  obtain ⟨A, c, xs, hv_, hcA_, hcmA_, hr, hel⟩ := hl
  obtain rfl : v = .slice A l.length c := by cases hv_; rfl
  refine k_enter (l := [_, _]) Tryz.func126 rfl rfl ?_
  have H := St.start nT w
  refine k_seq ?_
  refine k_region ?_
  refine s_run (w_none rfl) rfl (as_i rfl rfl) ?_
  refine l_nil ?_
  refine k_seq ?_
  refine k_seq ?_
  refine k_region ?_
  refine s_run (w_none rfl) rfl (mv_s rfl rfl) ?_
  refine s_run (w_none rfl) rfl (d_len rfl rfl tu29) ?_
  refine s_run (w_none rfl) rfl (mv_i rfl rfl) ?_
  refine l_nil ?_
  refine k_block ?_
  refine k_loop 8 [4, 5] (fun mm sl W => ∃ i : Nat, l.length - i = mm ∧ sl = [(8, .int .i64 (i : Int))] ∧ (i ≤ l.length) ∧ ((l.take i).any (fun o => decide (256 < o.script.length)) = false) ∧ St nT w W []) _ _ ⟨0, rfl, rfl, Nat.zero_le _, rfl, H⟩ ⟨rfl, trivial⟩ (fun mm sl ρv W hJ => ?_)
  clear H; obtain ⟨i, rfl, rfl, hi, hno, H⟩ := hJ
  refine k_one ?_
  refine k_seq ?_
  refine k_region ?_
  refine s_run (w_none rfl) rfl (d_lt rfl rfl rfl) ?_
  refine l_nil ?_
  refine k_seq ?_
  refine k_cond rfl (fun hc9 => ?_) (fun hc9 => ?_)
  · replace hc9 := of_decide_eq_true hc9
    have hlt : i < l.length := by omega
    obtain ⟨g0, o0, rfl, -⟩ := hr.2 (by omega)
    obtain ⟨x, hx⟩ := get_lt hlt
    obtain ⟨B2, d2, hL, hB, hn⟩ := out_of (hel i x hx)
    refine k_skip ?_
    refine k_seq ?_
    refine k_block ?_
    refine k_seq ?_
    refine k_region ?_
    refine s_run (w_none rfl) rfl (mv_i rfl rfl) ?_
    refine s_run (w_none rfl) rfl (as_i rfl rfl) ?_
    refine l_nil ?_
    refine k_seq ?_
    refine k_region ?_
    refine s_run (w_none rfl) rfl (mv_f rfl rfl) ?_
    refine s_run (w_none rfl) rfl (mv_s rfl rfl) ?_
    refine s_run (w_none rfl) rfl (mv_i rfl rfl) ?_
    refine s_run (w_none rfl) rfl (d_iaG rfl (H.rd hr) rfl rfl (q := i) rfl hlt tu29 ts58) ?_
    refine s_run (w_none rfl) rfl (d_ldEM (off := 0) rfl (H.rd hr) hlt hL rfl rfl rfl (by omega) ta58 ts58) ?_
    refine s_eff (e_callv (w_none rfl) rfl rfl rfl Tryz.func105 rfl rfl rfl (scriptF _) ?_)
    rintro _ W ⟨rfl, hb⟩
    replace H := H.below hb
    clear hb
    refine l_nil ?_
    refine k_cond rfl (fun hc16 => ?_) (fun hc16 => ?_)
    · skip
      refine k_seq ?_
      refine k_region ?_
      refine s_run (w_none rfl) rfl (mv_i rfl rfl) ?_
      refine s_run (w_none rfl) rfl (as_i rfl rfl) ?_
      refine l_nil ?_
      refine k_ret ?_
      repeat (first | refine r_then ?_ | refine r_blk ?_)
      exact q_ret (v := .int _ _) rfl rfl ⟨_, rfl, _, rfl, by rw [any_yes hx hc16]; simp, H.under⟩
    · skip
      refine k_skip ?_
      refine k_nil ?_
      refine b_end ?_
      refine k_region ?_
      refine s_run (w_none rfl) rfl (d_add rfl rfl rfl (by omega)) ?_
      refine s_run (w_none rfl) rfl (mv_i rfl rfl) ?_
      refine l_nil ?_
      refine k_nil ?_
      refine k_next ?_
      refine ⟨_, _, _, ?_, rfl, ?_, ?_, ⟨i + 1, rfl, rfl, by omega, any_no hx hno hc16, H⟩⟩
      · omega
      · repeat (first | ((with_reducible refine Eqo.updl _ Eqo.ovr ?_); exact rfl) | ((with_reducible refine Eqo.updl _ (Eqo.ovr2 ?_ ?_) ?_); rotate_left; exact rfl; exact rfl) | ((with_reducible refine Eqo.upd ?_ ?_); rotate_left; exact rfl))
      · refine ⟨?_, trivial⟩
        · exact vi (by omega)
  · replace hc9 := of_decide_eq_false hc9
    refine k_exit ?_
    refine x_then (x_then ?_)
    refine x_hit ?_
    refine k_seq ?_
    obtain rfl : i = l.length := by omega
    rw [List.take_length] at hno
    refine k_region ?_
    refine s_run (w_none rfl) rfl (as_i rfl rfl) ?_
    refine l_nil ?_
    refine k_ret ?_
    repeat (first | refine r_then ?_ | refine r_blk ?_)
    exact q_ret (v := .int _ _) rfl rfl ⟨_, rfl, _, rfl, by rw [hno]; rfl, H.under⟩

theorem hasScript {S : Nat → Prop} {v : Value} {l : List DOut} (w : World) (hl : RL 2 ROut w S [v] l) : Calls Tryz.prog 109 [v, .func (.func 105) #[] #[]].toArray w (Ret (Is w (.bool (l.any (fun o => decide (256 < o.script.length)))))) := by
  have hl0 := hl
  obtain ⟨A, c, xs, hv_, hcA_, hcmA_, hr, hel⟩ := hl
  obtain rfl : v = .slice A l.length c := by cases hv_; rfl
  refine k_enter (l := [_, _]) Tryz.func109 rfl rfl ?_
  have H := St.start nT w
  refine k_seq ?_
  refine k_region ?_
  refine s_run (w_none rfl) rfl (as_b rfl rfl) ?_
  refine l_nil ?_
  refine k_seq ?_
  refine k_region ?_
  refine s_run (w_none rfl) rfl (mv_s rfl rfl) ?_
  refine s_run (w_none rfl) rfl (mv_f rfl rfl) ?_
  refine s_eff (e_call (w_none rfl) rfl rfl Tryz.func126 rfl rfl rfl (idxScript _ (keeps_L keeps_Out _ _ _ _ _ hl0 (fun g hg _ => H.fr.block g hg (fun h => h)))) ?_)
  rintro _ W ⟨z, rfl, hz, hb⟩
  replace H := H.below hb
  clear hb
  refine s_run (w_none rfl) rfl (d_ge rfl rfl rfl) ?_
  refine s_run (w_none rfl) rfl (as_b rfl rfl) ?_
  refine l_nil ?_
  refine k_ret ?_
  repeat (first | refine r_then ?_ | refine r_blk ?_)
  exact q_ret (v := .bool _) rfl rfl ⟨_, rfl, vb (hz), H.under⟩

theorem wideF {S : Nat → Prop} {p : DPoint} {A : Option Addr} {c q : Nat} {ws : List (List UInt8)} (w : World) (hp : p.tx.length = 32) (hW : RL 1 RB w S [.slice A ws.length c] ws) (hq : Gat w q [.func (.func 102) #[] #[]]) : Calls Tryz.prog 103 [.agg (inC p A ws.length c).toArray, .pointer (some ⟨q, 0, none⟩)].toArray w (Ret (Is w (.bool (Tx.longX ⟨p, ws⟩)))) := by
  refine k_enter (l := [_, _]) Tryz.func103 rfl rfl ?_
  have H := St.start nT w
  refine k_seq ?_
  refine k_region ?_
  refine s_eff (e_box (vs := (inC p A ws.length c)) (w_none rfl) rfl rfl rfl rfl H ?_)
  clear H; intro gx W H
  refine s_run (w_none rfl) rfl (as_b rfl rfl) ?_
  refine l_nil ?_
  refine k_seq ?_
  rcases Nat.lt_or_ge 16 ws.length with h1 | h1
  · skip
    refine k_region ?_
    refine s_run (w_none rfl) rfl (d_fa rfl rfl tf56_1) ?_
    refine s_run (w_none rfl) rfl (d_ldX (g := gx) (off := 33) rfl H (sub_in_w hp) rfl rfl ta54) ?_
    refine s_run (w_none rfl) rfl (d_len rfl rfl tu54) ?_
    refine s_run (w_none rfl) rfl (d_gt rfl rfl rfl) ?_
    refine s_run (w_none rfl) rfl (mv_bx (c := true) rfl rfl (by simp; omega)) ?_
    refine s_skip (w_gno rfl rfl rfl rfl rfl) rfl ?_
    refine s_skip (w_gno rfl rfl rfl rfl rfl) rfl ?_
    refine s_skip (w_gno rfl rfl rfl rfl rfl) rfl ?_
    refine s_skip (w_gno rfl rfl rfl rfl rfl) rfl ?_
    refine s_run (w_none rfl) rfl (d_pickT rfl rfl rfl) ?_
    refine s_run (w_none rfl) rfl (as_b rfl rfl) ?_
    refine l_nil ?_
    refine k_ret ?_
    repeat (first | refine r_then ?_ | refine r_blk ?_)
    exact q_ret (v := .bool _) rfl rfl ⟨_, rfl, vb (by unfold Tx.longX; simp; omega), H.under⟩
  · skip
    refine k_region ?_
    refine s_run (w_none rfl) rfl (d_fa rfl rfl tf56_1) ?_
    refine s_run (w_none rfl) rfl (d_ldX (g := gx) (off := 33) rfl H (sub_in_w hp) rfl rfl ta54) ?_
    refine s_run (w_none rfl) rfl (d_len rfl rfl tu54) ?_
    refine s_run (w_none rfl) rfl (d_gt rfl rfl rfl) ?_
    refine s_run (w_none rfl) rfl (mv_bx (c := false) rfl rfl (by simp; omega)) ?_
    refine s_run (w_g rfl rfl rfl rfl) rfl (d_fa rfl rfl tf56_1) ?_
    refine s_run (w_g rfl rfl rfl rfl) rfl (d_ldX (g := gx) (off := 33) rfl H (sub_in_w hp) rfl rfl ta54) ?_
    refine s_run (w_g rfl rfl rfl rfl) rfl (d_ldG rfl ((H.gat hq)) rfl ta50 rfl) ?_
    refine s_eff (e_call (w_g rfl rfl rfl rfl) rfl rfl Tryz.func104 rfl rfl rfl (hasItem _ (keeps_L keeps_B _ _ _ _ _ hW (fun g hg _ => H.fr.block g hg (fun h => h)))) ?_)
    rintro _ W ⟨rfl, hb⟩
    replace H := H.below hb
    clear hb
    refine s_run (w_none rfl) rfl (d_pickF rfl rfl rfl) ?_
    refine s_run (w_none rfl) rfl (as_b rfl rfl) ?_
    refine l_nil ?_
    refine k_ret ?_
    repeat (first | refine r_then ?_ | refine r_blk ?_)
    exact q_ret (v := .bool _) rfl rfl ⟨_, rfl, vb (by unfold Tx.longX; rw [decide_eq_false (show ¬ 16 < (DIn.mk p ws).wit.length from by simpa using h1)]; rfl), H.under⟩

theorem idxWide {S : Nat → Prop} {v : Value} {l : List DIn} (w : World) (hl : RL 34 RIn w S [v] l) {q : Nat} (hq : Gat w q [.func (.func 102) #[] #[]]) : Calls Tryz.prog 125 [v, .func (.func 103) #[] [.pointer (some ⟨q, 0, none⟩)].toArray].toArray w (Ret (fun v' w' => ∃ z : Int, v' = .int .i64 z ∧ decide (0 ≤ z) = l.any Tx.longX ∧ Below w.heap.size w w')) := by
  have hll := rl_len hl
  obtain ⟨A, c, xs, hv_, hcA_, hcmA_, hr, hel⟩ := hl
  obtain rfl : v = .slice A l.length c := by cases hv_; rfl
  refine k_enter (l := [_, _]) Tryz.func125 rfl rfl ?_
  have H := St.start nT w
  refine k_seq ?_
  refine k_region ?_
  refine s_run (w_none rfl) rfl (as_i rfl rfl) ?_
  refine l_nil ?_
  refine k_seq ?_
  refine k_seq ?_
  refine k_region ?_
  refine s_run (w_none rfl) rfl (mv_s rfl rfl) ?_
  refine s_run (w_none rfl) rfl (d_len rfl rfl tu28) ?_
  refine s_run (w_none rfl) rfl (mv_i rfl rfl) ?_
  refine l_nil ?_
  refine k_block ?_
  refine k_loop 8 [4, 5] (fun mm sl W => ∃ i : Nat, l.length - i = mm ∧ sl = [(8, .int .i64 (i : Int))] ∧ (i ≤ l.length) ∧ ((l.take i).any Tx.longX = false) ∧ St nT w W []) _ _ ⟨0, rfl, rfl, Nat.zero_le _, rfl, H⟩ ⟨rfl, trivial⟩ (fun mm sl ρv W hJ => ?_)
  clear H; obtain ⟨i, rfl, rfl, hi, hno, H⟩ := hJ
  refine k_one ?_
  refine k_seq ?_
  refine k_region ?_
  refine s_run (w_none rfl) rfl (d_lt rfl rfl rfl) ?_
  refine l_nil ?_
  refine k_seq ?_
  refine k_cond rfl (fun hc9 => ?_) (fun hc9 => ?_)
  · replace hc9 := of_decide_eq_true hc9
    have hlt : i < l.length := by omega
    obtain ⟨g0, o0, rfl, -⟩ := hr.2 (by omega)
    obtain ⟨x, hx⟩ := get_lt hlt
    obtain ⟨B2, d2, hL, hW, hp, hn⟩ := in_of (hel i x hx)
    refine k_skip ?_
    refine k_seq ?_
    refine k_block ?_
    refine k_seq ?_
    refine k_region ?_
    refine s_run (w_none rfl) rfl (mv_i rfl rfl) ?_
    refine s_run (w_none rfl) rfl (as_i rfl rfl) ?_
    refine l_nil ?_
    refine k_seq ?_
    refine k_region ?_
    refine s_run (w_none rfl) rfl (mv_f rfl rfl) ?_
    refine s_run (w_none rfl) rfl (mv_s rfl rfl) ?_
    refine s_run (w_none rfl) rfl (mv_i rfl rfl) ?_
    refine s_run (w_none rfl) rfl (d_iaG rfl (H.rd hr) rfl rfl (q := i) rfl hlt tu28 ts56) ?_
    refine s_run (w_none rfl) rfl (d_ldEM (off := 0) rfl (H.rd hr) hlt hL (sub_all (len_in hp)) rfl rfl (by omega) ta56 ts56) ?_
    refine s_eff (e_callv (w_none rfl) rfl rfl rfl Tryz.func103 rfl rfl rfl (wideF (ws := x.wit) _ hp (keeps_L keeps_B _ _ _ _ _ hW (fun g hg _ => H.fr.block g hg (fun h => h))) (H.gat hq)) ?_)
    rintro _ W ⟨rfl, hb⟩
    replace H := H.below hb
    clear hb
    refine l_nil ?_
    refine k_cond rfl (fun hc16 => ?_) (fun hc16 => ?_)
    · skip
      refine k_seq ?_
      refine k_region ?_
      refine s_run (w_none rfl) rfl (mv_i rfl rfl) ?_
      refine s_run (w_none rfl) rfl (as_i rfl rfl) ?_
      refine l_nil ?_
      refine k_ret ?_
      repeat (first | refine r_then ?_ | refine r_blk ?_)
      exact q_ret (v := .int _ _) rfl rfl ⟨_, rfl, _, rfl, by rw [any_yes hx hc16]; simp, H.under⟩
    · skip
      refine k_skip ?_
      refine k_nil ?_
      refine b_end ?_
      refine k_region ?_
      refine s_run (w_none rfl) rfl (d_add rfl rfl rfl (by omega)) ?_
      refine s_run (w_none rfl) rfl (mv_i rfl rfl) ?_
      refine l_nil ?_
      refine k_nil ?_
      refine k_next ?_
      refine ⟨_, _, _, ?_, rfl, ?_, ?_, ⟨i + 1, rfl, rfl, by omega, any_no hx hno hc16, H⟩⟩
      · omega
      · repeat (first | ((with_reducible refine Eqo.updl _ Eqo.ovr ?_); exact rfl) | ((with_reducible refine Eqo.updl _ (Eqo.ovr2 ?_ ?_) ?_); rotate_left; exact rfl; exact rfl) | ((with_reducible refine Eqo.upd ?_ ?_); rotate_left; exact rfl))
      · refine ⟨?_, trivial⟩
        · exact vi (by omega)
  · replace hc9 := of_decide_eq_false hc9
    refine k_exit ?_
    refine x_then (x_then ?_)
    refine x_hit ?_
    refine k_seq ?_
    obtain rfl : i = l.length := by omega
    rw [List.take_length] at hno
    refine k_region ?_
    refine s_run (w_none rfl) rfl (as_i rfl rfl) ?_
    refine l_nil ?_
    refine k_ret ?_
    repeat (first | refine r_then ?_ | refine r_blk ?_)
    exact q_ret (v := .int _ _) rfl rfl ⟨_, rfl, _, rfl, by rw [hno]; rfl, H.under⟩

theorem hasWide {S : Nat → Prop} {v : Value} {l : List DIn} (w : World) (hl : RL 34 RIn w S [v] l) {q : Nat} (hq : Gat w q [.func (.func 102) #[] #[]]) : Calls Tryz.prog 106 [v, .func (.func 103) #[] [.pointer (some ⟨q, 0, none⟩)].toArray].toArray w (Ret (Is w (.bool (l.any Tx.longX)))) := by
  have hl0 := hl
  obtain ⟨A, c, xs, hv_, hcA_, hcmA_, hr, hel⟩ := hl
  obtain rfl : v = .slice A l.length c := by cases hv_; rfl
  refine k_enter (l := [_, _]) Tryz.func106 rfl rfl ?_
  have H := St.start nT w
  refine k_seq ?_
  refine k_region ?_
  refine s_run (w_none rfl) rfl (as_b rfl rfl) ?_
  refine l_nil ?_
  refine k_seq ?_
  refine k_region ?_
  refine s_run (w_none rfl) rfl (mv_s rfl rfl) ?_
  refine s_run (w_none rfl) rfl (mv_f rfl rfl) ?_
  refine s_eff (e_call (w_none rfl) rfl rfl Tryz.func125 rfl rfl rfl (idxWide _ (keeps_L keeps_In _ _ _ _ _ hl0 (fun g hg _ => H.fr.block g hg (fun h => h))) (H.gat hq)) ?_)
  rintro _ W ⟨z, rfl, hz, hb⟩
  replace H := H.below hb
  clear hb
  refine s_run (w_none rfl) rfl (d_ge rfl rfl rfl) ?_
  refine s_run (w_none rfl) rfl (as_b rfl rfl) ?_
  refine l_nil ?_
  refine k_ret ?_
  repeat (first | refine r_then ?_ | refine r_blk ?_)
  exact q_ret (v := .bool _) rfl rfl ⟨_, rfl, vb (hz), H.under⟩

theorem key_point {p : DPoint} (h : p.tx.length = 32) (hn : I64 p.n) : ∃ l, keyOf Tryz.prog 53 (.agg (pointC p).toArray) = some l := by
  have hf : (Value.agg (pointC p).toArray).formed Tryz.prog 53 = true := by
    unfold Value.formed
    rw [Tryz.underlying53]
    show ((pointC p).toArray.size == Tryz.prog.cellsOf 53) = true
    rw [ce53, List.size_toArray, len_point h]; rfl
  have hk : Tryz.prog.keyType 53 = true := by kernel_rfl
  obtain ⟨d, hd⟩ : ∃ d, Tryz.prog.types.size = d + 2 := ⟨Tryz.prog.types.size - 2, by have : 2 ≤ Tryz.prog.types.size := Nat.le_of_ble_eq_true (by kernel_rfl); omega⟩
  obtain ⟨ls, hl⟩ := key_st (P := Tryz.prog) (d := d + 2) (cs := pointC p) Tryz.underlying53 (by kernel_rfl) (by rw [ce53, len_point h]) (fun f hf => by
    simp at hf
    rcases hf with rfl | rfl
    · show ∃ ls, Tryz.prog.keyLits (d + 2) 25 (sub (pointC p) 0 (Tryz.prog.cellsOf 25)) = some ls
      rw [ce25, sub_pt_tx h]
      exact key_a tu25 tu5 ce5 ce25 h
    · show ∃ ls, Tryz.prog.keyLits (d + 2) 3 (sub (pointC p) 32 (Tryz.prog.cellsOf 3)) = some ls
      rw [ce3, sub_pt_n h]
      exact key_i tu3 hn)
  refine ⟨.string (keyBytes ls), ?_⟩
  unfold keyOf
  rw [Tryz.underlying53]
  simp only [hk, hf, Bool.and_self, if_true, hd]
  have e : (Value.agg (pointC p).toArray).cells.toList = pointC p := rfl
  rw [e, hl]; rfl
theorem klaw : Go.WideMaps.KeyLaw Tryz.prog 53 := deep_law (m := 4) (by decide) (by kernel_rfl) (by kernel_rfl) (by rw [Tryz.underlying53])
theorem u8v_inj : ∀ {a b : List UInt8}, a.map u8v = b.map u8v → a = b
  | [], [], _ => rfl
  | [], _ :: _, h => by simp at h
  | _ :: _, [], h => by simp at h
  | x :: a, y :: b, h => by
    rw [List.map_cons, List.map_cons, List.cons.injEq] at h
    obtain ⟨h1, h2⟩ := h
    have h3 : x = y := by
      have : (x.toNat : Int) = (y.toNat : Int) := by injection h1
      exact UInt8.toNat_inj.1 (by omega)
    rw [h3, u8v_inj h2]
def keyV (p : DPoint) : Value := .agg (pointC p).toArray
theorem keyV_inj {p q : DPoint} (h : keyV p = keyV q) : p = q := by
  have e : pointC p = pointC q := by
    unfold keyV at h
    injection h with h
    exact List.toArray_inj h
  unfold pointC at e
  obtain ⟨e1, e2⟩ := List.append_inj' e rfl
  have h2 : p.n = q.n := by
    have := (List.cons.inj e2).1
    injection this
  cases p; cases q
  simp only [DPoint.mk.injEq]
  exact ⟨u8v_inj e1, h2⟩
theorem putV_map {s : List DPoint} {p : DPoint} : putV (s.map keyV) (keyV p) = (Tx.putP s p).map keyV := by
  by_cases h : p ∈ s
  · rw [putV_in (List.mem_map_of_mem (f := keyV) h)]
    unfold Tx.putP
    rw [if_pos (Tx.mem_any.2 h)]
  · rw [putV_new (fun hm => by
      obtain ⟨q, hq, he⟩ := List.mem_map.1 hm
      exact h (keyV_inj he ▸ hq))]
    unfold Tx.putP
    rw [if_neg (fun e => h (Tx.mem_any.1 e)), List.map_append]; rfl
theorem setP_step {l : List DIn} {i : Nat} {x : DIn} (hx : l[i]? = some x) : Tx.setP ((l.take (i + 1)).map (·.point)) = Tx.putP (Tx.setP ((l.take i).map (·.point))) x.point := by
  rw [take_get hx, List.map_append]
  unfold Tx.setP
  rw [List.foldl_append]; rfl

set_option maxHeartbeats 4000000 in
theorem pointsP {S : Nat → Prop} {v : Value} {l : List DIn} (w : World) (hl : RL 34 RIn w S [v] l) : Calls Tryz.prog 107 [v].toArray w (Ret (Is w (.bool (!Tx.twice (l.map (·.point)))))) := by
  have hll := rl_len hl
  obtain ⟨A, c, xs, hv_, hcA_, hcmA_, hr, hel⟩ := hl
  obtain rfl : v = .slice A l.length c := by cases hv_; rfl
  refine k_enter (l := [_]) Tryz.func107 rfl rfl ?_
  have H := St.start nT w
  refine k_seq ?_
  refine k_region ?_
  refine s_run (w_none rfl) rfl (as_b rfl rfl) ?_
  refine l_nil ?_
  refine k_seq ?_
  refine k_region ?_
  refine s_eff (e_mkmap (k := 53) (w_none rfl) rfl rfl H ?_)
  clear H; intro gp W H
  refine s_run (w_none rfl) rfl (d_asg rfl rfl) ?_
  refine l_nil ?_
  refine k_seq ?_
  refine k_seq ?_
  refine k_region ?_
  refine s_run (w_none rfl) rfl (mv_s rfl rfl) ?_
  refine s_run (w_none rfl) rfl (d_len rfl rfl tu28) ?_
  refine s_run (w_none rfl) rfl (mv_i rfl rfl) ?_
  refine l_nil ?_
  refine k_block ?_
  refine k_loop 9 [5] (fun mm sl W => ∃ i : Nat, l.length - i = mm ∧ sl = [(9, .int .i64 (i : Int))] ∧ (i ≤ l.length) ∧ St nT w W [Fact.mp Tryz.prog 53 gp ((Tx.setP ((l.take (i)).map (·.point))).map keyV)]) _ _ ⟨0, rfl, rfl, Nat.zero_le _, H⟩ ⟨rfl, trivial⟩ (fun mm sl ρv W hJ => ?_)
  clear H; obtain ⟨i, rfl, rfl, hi, H⟩ := hJ
  refine k_one ?_
  refine k_seq ?_
  refine k_region ?_
  refine s_run (w_none rfl) rfl (d_lt rfl rfl rfl) ?_
  refine l_nil ?_
  refine k_seq ?_
  refine k_cond rfl (fun hc10 => ?_) (fun hc10 => ?_)
  · replace hc10 := of_decide_eq_true hc10
    have hlt : i < l.length := by omega
    obtain ⟨g0, o0, rfl, -⟩ := hr.2 (by omega)
    obtain ⟨x, hx⟩ := get_lt hlt
    obtain ⟨B2, d2, hL, hW, hp, hn⟩ := in_of (hel i x hx)
    refine k_skip ?_
    refine k_seq ?_
    refine k_block ?_
    refine k_seq ?_
    refine k_region ?_
    refine s_run (w_none rfl) rfl (d_iaG rfl (H.rd hr) rfl rfl (q := i) rfl hlt tu28 ts56) ?_
    refine s_run (w_none rfl) rfl (d_ldEM (off := 0) rfl (H.rd hr) hlt hL (sub_all (len_in hp)) rfl rfl (by omega) ta56 ts56) ?_
    refine s_eff (e_alloc (w_none rfl) rfl rfl (inC zPt none 0 0) tzIn H ?_)
    clear H; intro gx W H
    refine s_eff (e_stoK (inC x.point B2 x.wit.length d2) (w_none rfl) rfl rfl rfl rfl rfl ts56 (len_in hp) in_one H (by rw [len_in (p := zPt) rfl]; decide) (spl_all ((len_in hp).trans (len_in (p := zPt) rfl).symm)) ?_)
    clear H; intro W H
    refine l_nil ?_
    refine k_region ?_
    refine s_run (w_none rfl) rfl (d_move rfl rfl) ?_
    refine s_run (w_none rfl) rfl (d_fa rfl rfl tf56_0) ?_
    refine s_run (w_none rfl) rfl (d_ldXM (g := gx) (off := 0) rfl H (sub_in_p hp) (len_point hp) rfl rfl rfl ta53 ts53) ?_
    refine s_eff (e_mapup (e := 3) (ks := (Tx.setP ((l.take i).map (·.point))).map keyV) (key := keyV x.point) klaw (w_none rfl) rfl rfl (by kernel_rfl) rfl rfl rfl (key_point hp hn) H ?_)
    clear H; intro W H
    refine l_nil ?_
    refine k_nil ?_
    refine b_end ?_
    refine k_region ?_
    refine s_run (w_none rfl) rfl (d_add rfl rfl rfl (by omega)) ?_
    refine s_run (w_none rfl) rfl (mv_i rfl rfl) ?_
    refine l_nil ?_
    refine k_nil ?_
    refine k_next ?_
    refine ⟨_, _, _, ?_, rfl, ?_, ?_, ⟨i + 1, rfl, rfl, by omega, by rw [setP_step hx, ← putV_map]; exact H.drop⟩⟩
    · omega
    · repeat (first | ((with_reducible refine Eqo.updl _ Eqo.ovr ?_); exact rfl) | ((with_reducible refine Eqo.updl _ (Eqo.ovr2 ?_ ?_) ?_); rotate_left; exact rfl; exact rfl) | ((with_reducible refine Eqo.upd ?_ ?_); rotate_left; exact rfl))
    · refine ⟨?_, trivial⟩
      · exact vi (by omega)
  · replace hc10 := of_decide_eq_false hc10
    refine k_exit ?_
    refine x_then (x_then ?_)
    refine x_hit ?_
    refine k_seq ?_
    obtain rfl : i = l.length := by omega
    rw [List.take_length] at H
    refine k_region ?_
    refine s_run (w_none rfl) rfl (d_move rfl rfl) ?_
    refine s_run (w_none rfl) rfl (d_maplen (e := 3) (k := 53) (ks := (Tx.setP (l.map (·.point))).map keyV) rfl rfl (by kernel_rfl) H) ?_
    refine s_run (w_none rfl) rfl (mv_s rfl rfl) ?_
    refine s_run (w_none rfl) rfl (d_len rfl rfl tu28) ?_
    refine s_run (w_none rfl) rfl (d_eq rfl rfl rfl) ?_
    refine s_run (w_none rfl) rfl (as_b rfl rfl) ?_
    refine l_nil ?_
    refine k_ret ?_
    repeat (first | refine r_then ?_ | refine r_blk ?_)
    exact q_ret (v := .bool _) rfl rfl ⟨_, rfl, vb (by rw [List.length_map, ← Tx.len_set, List.length_map]; exact Bool.eq_iff_iff.2 (by rw [beq_iff_eq, decide_eq_true_iff]; omega)), H.under⟩

set_option maxHeartbeats 4000000 in
theorem valuesP {S : Nat → Prop} {v : Value} {l : List DOut} (w : World) (hl : RL 2 ROut w S [v] l) : Calls Tryz.prog 108 [v].toArray w (Ret (Is w (.bool (Tx.valOk l)))) := by
  have hll := rl_len hl
  obtain ⟨A, c, xs, hv_, hcA_, hcmA_, hr, hel⟩ := hl
  obtain rfl : v = .slice A l.length c := by cases hv_; rfl
  refine k_enter (l := [_]) Tryz.func108 rfl rfl ?_
  have H := St.start nT w
  refine k_seq ?_
  refine k_region ?_
  refine s_run (w_none rfl) rfl (as_b rfl rfl) ?_
  refine l_nil ?_
  refine k_seq ?_
  refine k_region ?_
  refine s_run (w_none rfl) rfl (as_i rfl rfl) ?_
  refine l_nil ?_
  refine k_seq ?_
  refine k_seq ?_
  refine k_region ?_
  refine s_run (w_none rfl) rfl (mv_s rfl rfl) ?_
  refine s_run (w_none rfl) rfl (d_len rfl rfl tu29) ?_
  refine s_run (w_none rfl) rfl (mv_i rfl rfl) ?_
  refine l_nil ?_
  refine k_block ?_
  refine k_loop 8 [2, 3, 5] (fun mm sl W => ∃ i : Nat, l.length - i = mm ∧ sl = [(8, .int .i64 (i : Int)), (3, .int .i64 (1125899906842624 - Tx.sum (l.take i)))] ∧ (i ≤ l.length) ∧ (∀ o ∈ l.take i, 1 ≤ o.value) ∧ (Tx.sum (l.take i) ≤ 1125899906842624) ∧ St nT w W []) _ _ ⟨0, rfl, rfl, Nat.zero_le _, fun o h => by simp at h, (show (0 : Int) ≤ 1125899906842624 by decide), H⟩ ⟨rfl, rfl, trivial⟩ (fun mm sl ρv W hJ => ?_)
  clear H; obtain ⟨i, rfl, rfl, hi, hv, hs, H⟩ := hJ
  refine k_one ?_
  refine k_seq ?_
  refine k_region ?_
  refine s_run (w_none rfl) rfl (d_lt rfl rfl rfl) ?_
  refine l_nil ?_
  refine k_seq ?_
  refine k_cond rfl (fun hc9 => ?_) (fun hc9 => ?_)
  · replace hc9 := of_decide_eq_true hc9
    have hlt : i < l.length := by omega
    obtain ⟨g0, o0, rfl, -⟩ := hr.2 (by omega)
    obtain ⟨x, hx⟩ := get_lt hlt
    obtain ⟨B2, d2, hL, hB, hn⟩ := out_of (hel i x hx)
    have hsp := Tx.sum_pos hv
    have hn1 := hn.1
    have hn2 := hn.2
    refine k_skip ?_
    refine k_seq ?_
    refine k_block ?_
    refine k_seq ?_
    refine k_region ?_
    refine s_run (w_none rfl) rfl (d_iaG rfl (H.rd hr) rfl rfl (q := i) rfl hlt tu29 ts58) ?_
    refine s_run (w_none rfl) rfl (d_ldEM (off := 0) rfl (H.rd hr) hlt hL rfl rfl rfl (by omega) ta58 ts58) ?_
    refine s_eff (e_alloc (w_none rfl) rfl rfl [.int .i64 0, .slice none 0 0] tz58 H ?_)
    clear H; intro gx W H
    refine s_eff (e_sto (w_none rfl) rfl rfl rfl rfl rfl ts58 rfl H rfl ?_)
    clear H; intro W H
    refine l_nil ?_
    refine k_seq ?_
    refine k_seq ?_
    rcases Int.lt_or_le x.value 1 with h1 | h1
    · skip
      refine k_region ?_
      refine s_run (w_none rfl) rfl (d_fa rfl rfl tf58_0) ?_
      refine s_run (w_none rfl) rfl (d_ld rfl H rfl ta3 rfl) ?_
      refine s_run (w_none rfl) rfl (d_lt rfl rfl rfl) ?_
      refine s_run (w_none rfl) rfl (mv_bx (c := true) rfl rfl (by simp; omega)) ?_
      refine s_skip (w_gno rfl rfl rfl rfl rfl) rfl ?_
      refine s_skip (w_gno rfl rfl rfl rfl rfl) rfl ?_
      refine s_skip (w_gno rfl rfl rfl rfl rfl) rfl ?_
      refine s_skip (w_gno rfl rfl rfl rfl rfl) rfl ?_
      refine s_run (w_none rfl) rfl (d_pickT rfl rfl rfl) ?_
      refine l_nil ?_
      refine k_condT rfl rfl ?_
      refine k_seq ?_
      refine k_region ?_
      refine s_run (w_none rfl) rfl (as_b rfl rfl) ?_
      refine l_nil ?_
      refine k_ret ?_
      repeat (first | refine r_then ?_ | refine r_blk ?_)
      exact q_ret (v := .bool _) rfl rfl ⟨_, rfl, vb ((Tx.val_bad hx (.inl h1)).symm), H.under⟩
    · skip
      refine k_region ?_
      refine s_run (w_none rfl) rfl (d_fa rfl rfl tf58_0) ?_
      refine s_run (w_none rfl) rfl (d_ld rfl H rfl ta3 rfl) ?_
      refine s_run (w_none rfl) rfl (d_lt rfl rfl rfl) ?_
      refine s_run (w_none rfl) rfl (mv_bx (c := false) rfl rfl (by simp; omega)) ?_
      refine s_run (w_g rfl rfl rfl rfl) rfl (d_fa rfl rfl tf58_0) ?_
      refine s_run (w_g rfl rfl rfl rfl) rfl (d_ld rfl H rfl ta3 rfl) ?_
      refine s_run (w_g rfl rfl rfl rfl) rfl (mv_i rfl rfl) ?_
      refine s_run (w_g rfl rfl rfl rfl) rfl (d_gt rfl rfl rfl) ?_
      refine s_run (w_none rfl) rfl (d_pickF rfl rfl rfl) ?_
      refine l_nil ?_
      refine k_cond rfl (fun hc20 => ?_) (fun hc20 => ?_)
      · replace hc20 := of_decide_eq_true hc20
        refine k_seq ?_
        refine k_region ?_
        refine s_run (w_none rfl) rfl (as_b rfl rfl) ?_
        refine l_nil ?_
        refine k_ret ?_
        repeat (first | refine r_then ?_ | refine r_blk ?_)
        exact q_ret (v := .bool _) rfl rfl ⟨_, rfl, vb ((Tx.val_bad hx (.inr (by omega))).symm), H.under⟩
      · replace hc20 := of_decide_eq_false hc20
        refine k_skip ?_
        refine k_region ?_
        refine s_run (w_none rfl) rfl (mv_i rfl rfl) ?_
        refine s_run (w_none rfl) rfl (d_fa rfl rfl tf58_0) ?_
        refine s_run (w_none rfl) rfl (d_ld rfl H rfl ta3 rfl) ?_
        refine s_run (w_none rfl) rfl (d_sub rfl rfl rfl (by omega)) ?_
        refine s_run (w_none rfl) rfl (as_i rfl rfl) ?_
        refine l_nil ?_
        refine k_nil ?_
        refine b_end ?_
        refine k_region ?_
        refine s_run (w_none rfl) rfl (d_add rfl rfl rfl (by omega)) ?_
        refine s_run (w_none rfl) rfl (mv_i rfl rfl) ?_
        refine l_nil ?_
        refine k_nil ?_
        refine k_next ?_
        have hst := Tx.sum_step hx
        refine ⟨_, _, _, ?_, rfl, ?_, ?_, ⟨i + 1, rfl, rfl, by omega, fun o ho => by
            rw [take_get hx] at ho
            rcases List.mem_append.1 ho with h | h
            · exact hv o h
            · obtain rfl : o = x := by simpa using h
              omega, by omega, H.drop⟩⟩
        · omega
        · repeat (first | ((with_reducible refine Eqo.updl _ Eqo.ovr ?_); exact rfl) | ((with_reducible refine Eqo.updl _ (Eqo.ovr2 ?_ ?_) ?_); rotate_left; exact rfl; exact rfl) | ((with_reducible refine Eqo.upd ?_ ?_); rotate_left; exact rfl))
        · refine ⟨?_, ?_, trivial⟩
          · exact vi (by omega)
          · exact vi (by omega)
  · replace hc9 := of_decide_eq_false hc9
    refine k_exit ?_
    refine x_then (x_then ?_)
    refine x_hit ?_
    refine k_seq ?_
    obtain rfl : i = l.length := by omega
    rw [List.take_length] at hv hs
    refine k_region ?_
    refine s_run (w_none rfl) rfl (as_b rfl rfl) ?_
    refine l_nil ?_
    refine k_ret ?_
    repeat (first | refine r_then ?_ | refine r_blk ?_)
    exact q_ret (v := .bool _) rfl rfl ⟨_, rfl, vb ((Tx.val_good hv hs).symm), H.under⟩

set_option maxHeartbeats 4000000 in
theorem checkTP {S : Nat → Prop} {cs : List Value} {t : DTx} (w : World) (ht : RTx w S cs t) : Calls Tryz.prog 68 [.agg cs.toArray].toArray w (Ret (Is w (.int .i64 (Tx.chk t)))) := by
  obtain ⟨A, c, B, d, rfl, hI, hO, hk⟩ := tx_of ht
  refine k_enter (l := [_]) Tryz.func68 rfl rfl ?_
  have H := St.start nT w
  refine k_seq ?_
  refine k_region ?_
  refine s_eff (e_box (vs := (txC A t.ins.length c B t.outs.length d t.lock)) (w_none rfl) rfl rfl rfl rfl H ?_)
  clear H; intro gm W H
  refine s_run (w_none rfl) rfl (as_i rfl rfl) ?_
  refine l_nil ?_
  refine k_seq ?_
  refine k_region ?_
  refine s_run (w_none rfl) rfl (as_f rfl rfl) ?_
  refine l_nil ?_
  refine k_seq ?_
  refine k_region ?_
  refine s_eff (e_alloc (w_none rfl) rfl rfl [.nilFunc] tz50 H ?_)
  clear H; intro gi W H
  refine s_eff (e_sto (w_none rfl) rfl rfl rfl rfl rfl ts50 rfl H rfl ?_)
  clear H; intro W H
  refine l_nil ?_
  refine k_seq ?_
  refine k_region ?_
  refine s_run (w_none rfl) rfl (d_mkf rfl rfl rfl) ?_
  refine s_run (w_none rfl) rfl (as_f rfl rfl) ?_
  refine l_nil ?_
  refine k_seq ?_
  refine k_region ?_
  refine s_run (w_none rfl) rfl (as_f rfl rfl) ?_
  refine l_nil ?_
  refine k_seq ?_
  refine k_block ?_
  refine k_seq ?_
  rcases Decidable.em (1 ≤ t.ins.length ∧ t.ins.length ≤ 8) with h1 | h1
  · skip
    refine k_region ?_
    refine s_run (w_none rfl) rfl (d_fa rfl rfl tf31_0) ?_
    refine s_run (w_none rfl) rfl (d_ld rfl H rfl ta28 rfl) ?_
    refine s_run (w_none rfl) rfl (d_len rfl rfl tu28) ?_
    refine s_eff (e_call (w_none rfl) rfl rfl Tryz.func101 rfl rfl rfl (within _) ?_)
    rintro _ W ⟨rfl, hb⟩
    replace H := H.below hb
    clear hb
    refine s_run (w_none rfl) rfl (d_not rfl rfl) ?_
    refine s_run (w_none rfl) rfl (mv_bx (c := false) rfl rfl (by simp; omega)) ?_
    refine s_run (w_g rfl rfl rfl rfl) rfl (d_fa rfl rfl tf31_1) ?_
    refine s_run (w_g rfl rfl rfl rfl) rfl (d_ld rfl H rfl ta29 rfl) ?_
    refine s_run (w_g rfl rfl rfl rfl) rfl (d_len rfl rfl tu29) ?_
    refine s_eff (e_call (w_g rfl rfl rfl rfl) rfl rfl Tryz.func101 rfl rfl rfl (within _) ?_)
    rintro _ W ⟨rfl, hb⟩
    replace H := H.below hb
    clear hb
    refine s_run (w_g rfl rfl rfl rfl) rfl (d_not rfl rfl) ?_
    refine s_run (w_none rfl) rfl (d_pickF rfl rfl rfl) ?_
    refine s_run (w_none rfl) rfl (as_b rfl rfl) ?_
    refine l_nil ?_
    refine k_cond rfl (fun hc8 => ?_) (fun hc8 => ?_)
    · have h2 : ¬ (1 ≤ t.outs.length ∧ t.outs.length ≤ 8) := by simp at hc8; omega
      refine k_seq ?_
      refine k_region ?_
      refine s_run (w_none rfl) rfl (as_i rfl rfl) ?_
      refine l_nil ?_
      refine k_ret ?_
      repeat (first | refine r_then ?_ | refine r_blk ?_)
      exact q_ret (v := .int _ _) rfl rfl ⟨_, rfl, vi (by unfold Tx.chk; rw [if_pos (by omega)]), H.under⟩
    · have h2 : 1 ≤ t.outs.length ∧ t.outs.length ≤ 8 := by simp at hc8; omega
      refine k_seq ?_
      rcases hf : t.ins.any Tx.far with _ | _
      · skip
        refine k_region ?_
        refine s_run (w_none rfl) rfl (d_fa rfl rfl tf31_0) ?_
        refine s_run (w_none rfl) rfl (d_ld rfl H rfl ta28 rfl) ?_
        refine s_run (w_none rfl) rfl (mv_f rfl rfl) ?_
        refine s_eff (e_call (w_none rfl) rfl rfl Tryz.func106 rfl rfl rfl (hasFar _ (keeps_L keeps_In _ _ _ _ _ hI (fun g hg _ => H.fr.block g hg (fun h => h)))) ?_)
        rintro _ W ⟨rfl, hb⟩
        replace H := H.below hb
        clear hb
        refine s_run (w_none rfl) rfl (mv_bx (c := false) rfl rfl (by rw [hf])) ?_
        refine s_run (w_g rfl rfl rfl rfl) rfl (d_fa rfl rfl tf31_2) ?_
        refine s_run (w_g rfl rfl rfl rfl) rfl (d_ld rfl H rfl ta3 rfl) ?_
        refine s_eff (e_call (w_g rfl rfl rfl rfl) rfl rfl Tryz.func101 rfl rfl rfl (within _) ?_)
        rintro _ W ⟨rfl, hb⟩
        replace H := H.below hb
        clear hb
        refine s_run (w_g rfl rfl rfl rfl) rfl (d_not rfl rfl) ?_
        refine s_run (w_none rfl) rfl (d_pickF rfl rfl rfl) ?_
        refine s_run (w_none rfl) rfl (as_b rfl rfl) ?_
        refine l_nil ?_
        refine k_cond rfl (fun hc21 => ?_) (fun hc21 => ?_)
        · have h3 : ¬ (0 ≤ t.lock ∧ t.lock ≤ 1073741824) := by simp at hc21; omega
          refine k_seq ?_
          refine k_region ?_
          refine s_run (w_none rfl) rfl (as_i rfl rfl) ?_
          refine l_nil ?_
          refine k_ret ?_
          repeat (first | refine r_then ?_ | refine r_blk ?_)
          exact q_ret (v := .int _ _) rfl rfl ⟨_, rfl, vi (by unfold Tx.chk; rw [if_neg (show ¬ (t.ins.length < 1 ∨ 8 < t.ins.length ∨ t.outs.length < 1 ∨ 8 < t.outs.length) by omega), if_pos (by omega)]), H.under⟩
        · have h3 : 0 ≤ t.lock ∧ t.lock ≤ 1073741824 := by simp at hc21; omega
          refine k_seq ?_
          refine k_region ?_
          refine s_run (w_none rfl) rfl (d_fa rfl rfl tf31_0) ?_
          refine s_run (w_none rfl) rfl (d_ld rfl H rfl ta28 rfl) ?_
          refine s_eff (e_call (w_none rfl) rfl rfl Tryz.func107 rfl rfl rfl (pointsP _ (keeps_L keeps_In _ _ _ _ _ hI (fun g hg _ => H.fr.block g hg (fun h => h)))) ?_)
          rintro _ W ⟨rfl, hb⟩
          replace H := H.below hb
          clear hb
          refine s_run (w_none rfl) rfl (d_not rfl rfl) ?_
          refine s_run (w_none rfl) rfl (as_b rfl rfl) ?_
          refine l_nil ?_
          refine k_cond rfl (fun hc32 => ?_) (fun hc32 => ?_)
          · have htw : Tx.twice (t.ins.map (·.point)) = true := by simpa using hc32
            refine k_seq ?_
            refine k_region ?_
            refine s_run (w_none rfl) rfl (as_i rfl rfl) ?_
            refine l_nil ?_
            refine k_ret ?_
            repeat (first | refine r_then ?_ | refine r_blk ?_)
            exact q_ret (v := .int _ _) rfl rfl ⟨_, rfl, vi (by unfold Tx.chk; rw [if_neg (show ¬ (t.ins.length < 1 ∨ 8 < t.ins.length ∨ t.outs.length < 1 ∨ 8 < t.outs.length) by omega), if_neg (show ¬ (t.ins.any Tx.far = true ∨ t.lock < 0 ∨ 1073741824 < t.lock) by rw [hf]; simp; omega), if_pos htw]), H.under⟩
          · have htw : Tx.twice (t.ins.map (·.point)) = false := by simpa using hc32
            refine k_seq ?_
            refine k_region ?_
            refine s_run (w_none rfl) rfl (d_fa rfl rfl tf31_1) ?_
            refine s_run (w_none rfl) rfl (d_ld rfl H rfl ta29 rfl) ?_
            refine s_eff (e_call (w_none rfl) rfl rfl Tryz.func108 rfl rfl rfl (valuesP _ (keeps_L keeps_Out _ _ _ _ _ hO (fun g hg _ => H.fr.block g hg (fun h => h)))) ?_)
            rintro _ W ⟨rfl, hb⟩
            replace H := H.below hb
            clear hb
            refine s_run (w_none rfl) rfl (d_not rfl rfl) ?_
            refine s_run (w_none rfl) rfl (as_b rfl rfl) ?_
            refine l_nil ?_
            refine k_cond rfl (fun hc37 => ?_) (fun hc37 => ?_)
            · have hvo : Tx.valOk t.outs = false := by simpa using hc37
              refine k_seq ?_
              refine k_region ?_
              refine s_run (w_none rfl) rfl (as_i rfl rfl) ?_
              refine l_nil ?_
              refine k_ret ?_
              repeat (first | refine r_then ?_ | refine r_blk ?_)
              exact q_ret (v := .int _ _) rfl rfl ⟨_, rfl, vi (by unfold Tx.chk; rw [if_neg (show ¬ (t.ins.length < 1 ∨ 8 < t.ins.length ∨ t.outs.length < 1 ∨ 8 < t.outs.length) by omega), if_neg (show ¬ (t.ins.any Tx.far = true ∨ t.lock < 0 ∨ 1073741824 < t.lock) by rw [hf]; simp; omega), if_neg (show ¬ Tx.twice (t.ins.map (·.point)) = true by rw [htw]; simp), if_pos hvo]), H.under⟩
            · have hvo : Tx.valOk t.outs = true := by simpa using hc37
              refine k_seq ?_
              rcases hlo : t.outs.any (fun o => decide (256 < o.script.length)) with _ | _
              · skip
                refine k_region ?_
                refine s_run (w_none rfl) rfl (d_fa rfl rfl tf31_1) ?_
                refine s_run (w_none rfl) rfl (d_ld rfl H rfl ta29 rfl) ?_
                refine s_run (w_none rfl) rfl (mv_f rfl rfl) ?_
                refine s_eff (e_call (w_none rfl) rfl rfl Tryz.func109 rfl rfl rfl (hasScript _ (keeps_L keeps_Out _ _ _ _ _ hO (fun g hg _ => H.fr.block g hg (fun h => h)))) ?_)
                rintro _ W ⟨rfl, hb⟩
                replace H := H.below hb
                clear hb
                refine s_run (w_none rfl) rfl (mv_bx (c := false) rfl rfl (by rw [hlo])) ?_
                refine s_run (w_g rfl rfl rfl rfl) rfl (d_fa rfl rfl tf31_0) ?_
                refine s_run (w_g rfl rfl rfl rfl) rfl (d_ld rfl H rfl ta28 rfl) ?_
                refine s_run (w_g rfl rfl rfl rfl) rfl (mv_f rfl rfl) ?_
                refine s_eff (e_call (w_g rfl rfl rfl rfl) rfl rfl Tryz.func106 rfl rfl rfl (hasWide _ (keeps_L keeps_In _ _ _ _ _ hI (fun g hg _ => H.fr.block g hg (fun h => h))) (gat_of (H.blk (g := gi)))) ?_)
                rintro _ W ⟨rfl, hb⟩
                replace H := H.below hb
                clear hb
                refine s_run (w_none rfl) rfl (d_pickF rfl rfl rfl) ?_
                refine s_run (w_none rfl) rfl (as_b rfl rfl) ?_
                refine l_nil ?_
                refine k_cond rfl (fun hc42 => ?_) (fun hc42 => ?_)
                · have hli : t.ins.any Tx.longX = true := hc42
                  refine k_seq ?_
                  refine k_region ?_
                  refine s_run (w_none rfl) rfl (as_i rfl rfl) ?_
                  refine l_nil ?_
                  refine k_ret ?_
                  repeat (first | refine r_then ?_ | refine r_blk ?_)
                  exact q_ret (v := .int _ _) rfl rfl ⟨_, rfl, vi (by unfold Tx.chk; rw [if_neg (show ¬ (t.ins.length < 1 ∨ 8 < t.ins.length ∨ t.outs.length < 1 ∨ 8 < t.outs.length) by omega), if_neg (show ¬ (t.ins.any Tx.far = true ∨ t.lock < 0 ∨ 1073741824 < t.lock) by rw [hf]; simp; omega), if_neg (show ¬ Tx.twice (t.ins.map (·.point)) = true by rw [htw]; simp), if_neg (show ¬ Tx.valOk t.outs = false by rw [hvo]; simp), if_pos (by unfold Tx.long; rw [hli]; simp)]), H.under⟩
                · have hli : t.ins.any Tx.longX = false := hc42
                  refine k_skip ?_
                  refine k_nil ?_
                  refine b_end ?_
                  refine k_seq ?_
                  refine k_region ?_
                  refine s_run (w_none rfl) rfl (as_i rfl rfl) ?_
                  refine l_nil ?_
                  refine k_ret ?_
                  repeat (first | refine r_then ?_ | refine r_blk ?_)
                  exact q_ret (v := .int _ _) rfl rfl ⟨_, rfl, vi (by unfold Tx.chk; rw [if_neg (show ¬ (t.ins.length < 1 ∨ 8 < t.ins.length ∨ t.outs.length < 1 ∨ 8 < t.outs.length) by omega), if_neg (show ¬ (t.ins.any Tx.far = true ∨ t.lock < 0 ∨ 1073741824 < t.lock) by rw [hf]; simp; omega), if_neg (show ¬ Tx.twice (t.ins.map (·.point)) = true by rw [htw]; simp), if_neg (show ¬ Tx.valOk t.outs = false by rw [hvo]; simp), if_neg (by unfold Tx.long; rw [hlo, hli]; simp)]), H.under⟩
              · skip
                refine k_region ?_
                refine s_run (w_none rfl) rfl (d_fa rfl rfl tf31_1) ?_
                refine s_run (w_none rfl) rfl (d_ld rfl H rfl ta29 rfl) ?_
                refine s_run (w_none rfl) rfl (mv_f rfl rfl) ?_
                refine s_eff (e_call (w_none rfl) rfl rfl Tryz.func109 rfl rfl rfl (hasScript _ (keeps_L keeps_Out _ _ _ _ _ hO (fun g hg _ => H.fr.block g hg (fun h => h)))) ?_)
                rintro _ W ⟨rfl, hb⟩
                replace H := H.below hb
                clear hb
                refine s_run (w_none rfl) rfl (mv_bx (c := true) rfl rfl (by rw [hlo])) ?_
                refine s_skip (w_gno rfl rfl rfl rfl rfl) rfl ?_
                refine s_skip (w_gno rfl rfl rfl rfl rfl) rfl ?_
                refine s_skip (w_gno rfl rfl rfl rfl rfl) rfl ?_
                refine s_skip (w_gno rfl rfl rfl rfl rfl) rfl ?_
                refine s_run (w_none rfl) rfl (d_pickT rfl rfl rfl) ?_
                refine s_run (w_none rfl) rfl (as_b rfl rfl) ?_
                refine l_nil ?_
                refine k_condT rfl rfl ?_
                refine k_seq ?_
                refine k_region ?_
                refine s_run (w_none rfl) rfl (as_i rfl rfl) ?_
                refine l_nil ?_
                refine k_ret ?_
                repeat (first | refine r_then ?_ | refine r_blk ?_)
                exact q_ret (v := .int _ _) rfl rfl ⟨_, rfl, vi (by unfold Tx.chk; rw [if_neg (show ¬ (t.ins.length < 1 ∨ 8 < t.ins.length ∨ t.outs.length < 1 ∨ 8 < t.outs.length) by omega), if_neg (show ¬ (t.ins.any Tx.far = true ∨ t.lock < 0 ∨ 1073741824 < t.lock) by rw [hf]; simp; omega), if_neg (show ¬ Tx.twice (t.ins.map (·.point)) = true by rw [htw]; simp), if_neg (show ¬ Tx.valOk t.outs = false by rw [hvo]; simp), if_pos (by unfold Tx.long; rw [hlo]; rfl)]), H.under⟩
      · skip
        refine k_region ?_
        refine s_run (w_none rfl) rfl (d_fa rfl rfl tf31_0) ?_
        refine s_run (w_none rfl) rfl (d_ld rfl H rfl ta28 rfl) ?_
        refine s_run (w_none rfl) rfl (mv_f rfl rfl) ?_
        refine s_eff (e_call (w_none rfl) rfl rfl Tryz.func106 rfl rfl rfl (hasFar _ (keeps_L keeps_In _ _ _ _ _ hI (fun g hg _ => H.fr.block g hg (fun h => h)))) ?_)
        rintro _ W ⟨rfl, hb⟩
        replace H := H.below hb
        clear hb
        refine s_run (w_none rfl) rfl (mv_bx (c := true) rfl rfl (by rw [hf])) ?_
        refine s_skip (w_gno rfl rfl rfl rfl rfl) rfl ?_
        refine s_skip (w_gno rfl rfl rfl rfl rfl) rfl ?_
        refine s_skip (w_gno rfl rfl rfl rfl rfl) rfl ?_
        refine s_skip (w_gno rfl rfl rfl rfl rfl) rfl ?_
        refine s_run (w_none rfl) rfl (d_pickT rfl rfl rfl) ?_
        refine s_run (w_none rfl) rfl (as_b rfl rfl) ?_
        refine l_nil ?_
        refine k_condT rfl rfl ?_
        refine k_seq ?_
        refine k_region ?_
        refine s_run (w_none rfl) rfl (as_i rfl rfl) ?_
        refine l_nil ?_
        refine k_ret ?_
        repeat (first | refine r_then ?_ | refine r_blk ?_)
        exact q_ret (v := .int _ _) rfl rfl ⟨_, rfl, vi (by unfold Tx.chk; rw [if_neg (show ¬ (t.ins.length < 1 ∨ 8 < t.ins.length ∨ t.outs.length < 1 ∨ 8 < t.outs.length) by omega), if_pos (.inl hf)]), H.under⟩
  · skip
    refine k_region ?_
    refine s_run (w_none rfl) rfl (d_fa rfl rfl tf31_0) ?_
    refine s_run (w_none rfl) rfl (d_ld rfl H rfl ta28 rfl) ?_
    refine s_run (w_none rfl) rfl (d_len rfl rfl tu28) ?_
    refine s_eff (e_call (w_none rfl) rfl rfl Tryz.func101 rfl rfl rfl (within _) ?_)
    rintro _ W ⟨rfl, hb⟩
    replace H := H.below hb
    clear hb
    refine s_run (w_none rfl) rfl (d_not rfl rfl) ?_
    refine s_run (w_none rfl) rfl (mv_bx (c := true) rfl rfl (by simp; omega)) ?_
    refine s_skip (w_gno rfl rfl rfl rfl rfl) rfl ?_
    refine s_skip (w_gno rfl rfl rfl rfl rfl) rfl ?_
    refine s_skip (w_gno rfl rfl rfl rfl rfl) rfl ?_
    refine s_skip (w_gno rfl rfl rfl rfl rfl) rfl ?_
    refine s_skip (w_gno rfl rfl rfl rfl rfl) rfl ?_
    refine s_run (w_none rfl) rfl (d_pickT rfl rfl rfl) ?_
    refine s_run (w_none rfl) rfl (as_b rfl rfl) ?_
    refine l_nil ?_
    refine k_condT rfl rfl ?_
    refine k_seq ?_
    refine k_region ?_
    refine s_run (w_none rfl) rfl (as_i rfl rfl) ?_
    refine l_nil ?_
    refine k_ret ?_
    repeat (first | refine r_then ?_ | refine r_blk ?_)
    exact q_ret (v := .int _ _) rfl rfl ⟨_, rfl, vi (by unfold Tx.chk; rw [if_pos (by omega)]), H.under⟩
end Go.Proofs.YtfjhmecmhchbdaaGreatDoor

namespace Go.Proofs.YtfjhmecmhchbdaaGreatDoor
open Go Go.RowKit
attribute [local irreducible] wpList

def Tx.b1 (t : DTx) : List UInt8 := [] ++ encL Tx.encI t.ins

end Go.Proofs.YtfjhmecmhchbdaaGreatDoor
