/- Texts of this claim, laid together: K40, K41, K42. -/
import Derived.Test.YteakkflhndifbaaGreatDoorMX
import Derived.Test.YteakkflhndifbaaGreatDoorMB
import Derived.Test.YteakkflhndifbaaGreatDoorML
set_option linter.unusedVariables false
set_option linter.unusedSimpArgs false

namespace Go.Proofs.YteakkflhndifbaaGreatDoor
open Go Go.RowKit
attribute [local irreducible] wpList

theorem rb_of {W : World} {S : Nat → Prop} {xs : List Value} {b : List UInt8} {i : Nat} (h : RB W S (sub xs (i * 1) 1) b) : ∃ A c, sub xs (i * 1) 1 = [.slice A b.length c] ∧ Bs W S (.slice A b.length c) b := by
 obtain ⟨v, h1, hb⟩ := h
 have hb0 := hb
 obtain ⟨A, c, rfl, _⟩ := hb.op
 exact ⟨A, c, h1, hb0⟩

theorem allN {S : Nat → Prop} {v : Value} {l : List (List UInt8)} (w : World) (hl : RL 1 RB w S [v] l) (hz : ∀ b ∈ l, b.length ≤ 140737488355328) : Calls Tryz.prog 38 [v].toArray w (Ret (Is w (.int .i64 ((min (allS l) 1099511627776 : Nat) : Int)))) := by
 have hll := rl_len hl
 obtain ⟨A, c, xs, hv_, hcA_, hcmA_, hr, hel⟩ := hl
 obtain rfl : v = .slice A l.length c := by cases hv_; rfl
 refine k_enter (l := [_]) Tryz.func38 rfl rfl ?_
 have H := St.start nT w
 refine k_seq (k_region (sAi rfl rfl rfl rfl (l_nil (k_seq (k_region (sAi rfl rfl rfl rfl (l_nil (k_seq (k_seq (k_region ?_))))))))))
 refine sAi rfl rfl rfl rfl (l_nil (k_block (k_loop 3 [] (fun mm sl W => ∃ i : Nat, l.length - i = mm ∧ sl = [(4, .int .i64 (i : Int)), (3, .int .i64 ((min (allS (l.take i)) 1099511627776 : Nat) : Int))] ∧ (i ≤ l.length) ∧ St nT w W []) _ _ ⟨0, rfl, rfl, Nat.zero_le _, H⟩ ⟨rfl, vi (by simp [allS]), trivial⟩ (fun mm sl ρv W hJ => ?_))))
 clear H; obtain ⟨i, rfl, rfl, hi, H⟩ := hJ
 refine k_one (k_seq (k_seq (k_region (sMi rfl rfl rfl rfl (sMs rfl rfl rfl rfl (sR rfl rfl (d_len rfl rfl tu32) (sR rfl rfl (d_lt rfl rfl rfl) (l_nil (k_cond rfl (fun hc8 => ?_) (fun hc8 => ?_))))))))))
 ·replace hc8 := of_decide_eq_true hc8
  have hlt : i < l.length := by omega
  obtain ⟨g0, o0, rfl, -⟩ := hr.2 (by omega)
  obtain ⟨b, hx⟩ := get_lt hlt
  obtain ⟨B, d, hL, hB⟩ := rb_of (hel i b hx)
  have hz1 := hz b (List.mem_of_getElem? hx)
  refine k_skip (k_seq (k_block (k_region (sMi rfl rfl rfl rfl (sMs rfl rfl rfl rfl (sMi rfl rfl rfl rfl (sR rfl rfl (d_iaG rfl (H.rd hr) rfl rfl (q := i) rfl hlt tu32 ts35) (sR rfl rfl (d_ldE (off := 0) rfl (H.rd hr) hlt hL rfl rfl rfl (by omega) ta35) (sR rfl rfl (d_len rfl rfl tu35) (sR rfl rfl (d_add rfl rfl rfl (by omega)) ?_))))))))))
  refine sR rfl rfl (d_add rfl rfl rfl (by omega)) (sR rfl rfl (d_min rfl rfl rfl) (sAi rfl rfl rfl rfl (l_nil (k_nil (b_end (k_region (sMi rfl rfl rfl rfl (sR rfl rfl (d_add rfl rfl rfl (by omega)) (sAi rfl rfl rfl rfl (l_nil ?_))))))))))
  refine k_nil (k_next ?_)
  refine ⟨_, _, _, ?_, rfl, ?_, ?_, ⟨i + 1, rfl, rfl, by omega, H⟩⟩
  ·omega
  ·repeat (first | (with_reducible refine .updl _ .ovr ?_); exact rfl | (with_reducible refine .updl _ (.ovr2 ?_ ?_) ?_); rotate_left; exact rfl; exact rfl | (with_reducible refine .upd ?_ ?_); rotate_left; exact rfl)
  ·refine ⟨?_, ?_, trivial⟩
   ·exact vi (by omega)
   ·exact vi (by rw [allS_at hx]; omega)
 ·replace hc8 := of_decide_eq_false hc8
  refine k_exit (x_then (x_then ?_))
  refine x_hit (k_seq ?_)
  obtain rfl : i = l.length := by omega
  rw [List.take_length]
  refine k_region (sMi rfl rfl rfl rfl (sAi rfl rfl rfl rfl (l_nil (k_ret ?_))))
  repeat (first | refine r_then ?_ | refine r_blk ?_)
  exact q_ret (v := .int _ _) rfl rfl ⟨_, rfl, rfl, H.under⟩

set_option maxHeartbeats 4000000 in
theorem bigTx {S : Nat → Prop} {cs : List Value} {t : DTx} (w : World) (ht : RTx w S cs t) {rows bytes : Nat} (hz : Tx.Szd t) : Calls Tryz.prog 14 [.agg cs.toArray, .int .i64 (rows : Int), .int .i64 (bytes : Int)].toArray w (Ret (Is w (.bool (Tx.big rows bytes t)))) := by
 obtain ⟨A, c, B, d, rfl, hI, hO, hk⟩ := tx_of ht
 have hIl := rl_len hI
 have hOl := rl_len hO
 have hI0 := hI
 obtain ⟨A_, c_, xs, hv_, _, _, hr, hel⟩ := hI
 cases hv_
 have hO0 := hO
 obtain ⟨A_, c_, ys, hv_, _, _, hs, hes⟩ := hO
 cases hv_
 refine k_enter (l := [_, _, _]) Tryz.func14 rfl rfl ?_
 have H := St.start nT w
 refine k_seq (k_region (s_eff (e_box (vs := (txC A t.ins.length c B t.outs.length d t.lock)) (w_none rfl) rfl rfl rfl rfl H ?_)))
 clear H; intro gm W H
 refine sAb rfl rfl rfl rfl (l_nil (k_seq (k_seq ?_)))
 rcases Nat.lt_or_ge rows t.ins.length with h1 | h1
 ·skip
  refine k_region (sR rfl rfl (d_fa rfl rfl tf26_0) (sR rfl rfl (d_ld rfl H rfl ta23 rfl) (sR rfl rfl (d_len rfl rfl tu23) (sMi rfl rfl rfl rfl (sR rfl rfl (d_gt rfl rfl rfl) (sR rfl rfl (mv_bx (c := true) rfl rfl (by simp; omega)) (s_skip (w_gno rfl rfl rfl rfl rfl) rfl (s_skip (w_gno rfl rfl rfl rfl rfl) rfl (s_skip (w_gno rfl rfl rfl rfl rfl) rfl (s_skip (w_gno rfl rfl rfl rfl rfl) rfl ?_))))))))))
  refine s_skip (w_gno rfl rfl rfl rfl rfl) rfl (sR rfl rfl (d_pickT rfl rfl rfl) (l_nil (k_condT rfl rfl (k_seq (k_region (sAb rfl rfl rfl rfl (l_nil (k_ret ?_))))))))
  repeat (first | refine r_then ?_ | refine r_blk ?_)
  exact q_ret (v := .bool _) rfl rfl ⟨_, rfl, vb (by unfold Tx.big; simp; omega), H.under⟩
 ·skip
  refine k_region (sR rfl rfl (d_fa rfl rfl tf26_0) (sR rfl rfl (d_ld rfl H rfl ta23 rfl) (sR rfl rfl (d_len rfl rfl tu23) (sMi rfl rfl rfl rfl (sR rfl rfl (d_gt rfl rfl rfl) (sR rfl rfl (mv_bx (c := false) rfl rfl (by simp; omega)) (s_run (w_g rfl rfl rfl rfl) rfl (d_fa rfl rfl tf26_1) (s_run (w_g rfl rfl rfl rfl) rfl (d_ld rfl H rfl ta24 rfl) (s_run (w_g rfl rfl rfl rfl) rfl (d_len rfl rfl tu24) (s_run (w_g rfl rfl rfl rfl) rfl (mv_i rfl rfl) ?_))))))))))
  refine s_run (w_g rfl rfl rfl rfl) rfl (d_gt rfl rfl rfl) (sR rfl rfl (d_pickF rfl rfl rfl) (l_nil (k_cond rfl (fun hc21 => ?_) (fun hc21 => ?_))))
  ·replace hc21 := of_decide_eq_true hc21
   refine k_seq (k_region (sAb rfl rfl rfl rfl (l_nil (k_ret ?_))))
   repeat (first | refine r_then ?_ | refine r_blk ?_)
   exact q_ret (v := .bool _) rfl rfl ⟨_, rfl, vb (by unfold Tx.big; simp; omega), H.under⟩
  ·replace hc21 := of_decide_eq_false hc21
   refine k_skip (k_seq (k_region (sAi rfl rfl rfl rfl (l_nil (k_seq (k_seq (k_region (sAi rfl rfl rfl rfl (l_nil (k_block ?_))))))))))
   refine k_loop 22 [7, 8] (fun mm sl W => ∃ i : Nat, t.ins.length - i = mm ∧ sl = [(8, .int .i64 (i : Int)), (7, .int .i64 ((min (((t.ins.take i).map (fun x => allS x.wit)).sum) 1099511627776 : Nat) : Int))] ∧ (i ≤ t.ins.length) ∧ St nT w W [Fact.blk gm (txC A t.ins.length c B t.outs.length d t.lock) 26]) _ _ ⟨0, rfl, rfl, Nat.zero_le _, H⟩ ⟨rfl, vi (by simp), trivial⟩ (fun mm sl ρv W hJ => ?_)
   clear H; obtain ⟨i, rfl, rfl, hi, H⟩ := hJ
   refine k_one (k_seq (k_seq (k_region (sMi rfl rfl rfl rfl (sR rfl rfl (d_fa rfl rfl tf26_0) (sR rfl rfl (d_ld rfl H rfl ta23 rfl) (sR rfl rfl (d_len rfl rfl tu23) (sR rfl rfl (d_lt rfl rfl rfl) (l_nil (k_cond rfl (fun hc26 => ?_) (fun hc26 => ?_)))))))))))
   ·replace hc26 := of_decide_eq_true hc26
    have hlt : i < t.ins.length := by omega
    obtain ⟨g0, o0, rfl, -⟩ := hr.2 (by omega)
    obtain ⟨x, hx⟩ := get_lt hlt
    obtain ⟨B2, d2, hL, hW, hp, hn⟩ := in_of (hel i x hx)
    have hz1 := hz.1 x (List.mem_of_getElem? hx)
    refine k_skip (k_seq (k_block (k_region (sMi rfl rfl rfl rfl (sR rfl rfl (d_fa rfl rfl tf26_0) (sR rfl rfl (d_ld rfl H rfl ta23 rfl) (sMi rfl rfl rfl rfl (sR rfl rfl (d_iaG (q := i) rfl (H.rd hr) rfl rfl rfl hlt tu23 ts34) (sR rfl rfl (d_fa rfl rfl tf34_1) (sR rfl rfl (d_ldE (off := 33) rfl (H.rd hr) hlt hL (sub_in_w hp) rfl rfl (by omega) ta32) ?_))))))))))
    refine sC rfl rfl rfl Tryz.func38 rfl rfl rfl (allN _ (keeps_L keeps_B _ _ _ _ _ hW (fun g hg _ => H.fr.block g hg (fun h => h))) hz1) ?_
    rintro _ W ⟨rfl, hb⟩
    replace H := H.below hb
    clear hb
    refine sR rfl rfl (d_add rfl rfl rfl (by omega)) (sR rfl rfl (d_min rfl rfl rfl) (sAi rfl rfl rfl rfl (l_nil (k_nil (b_end (k_region (sMi rfl rfl rfl rfl (sR rfl rfl (d_add rfl rfl rfl (by omega)) (sAi rfl rfl rfl rfl (l_nil ?_))))))))))
    refine k_nil (k_next ?_)
    refine ⟨_, _, _, ?_, rfl, ?_, ?_, ⟨i + 1, rfl, rfl, by omega, H⟩⟩
    ·omega
    ·repeat (first | (with_reducible refine .updl _ .ovr ?_); exact rfl | (with_reducible refine .updl _ (.ovr2 ?_ ?_) ?_); rotate_left; exact rfl; exact rfl | (with_reducible refine .upd ?_ ?_); rotate_left; exact rfl)
    ·refine ⟨?_, ?_, trivial⟩
     ·exact vi (by omega)
     ·exact vi (by rw [sum_at hx]; omega)
   ·replace hc26 := of_decide_eq_false hc26
    obtain rfl : i = t.ins.length := by omega
    rw [List.take_length]
    refine k_exit (x_then (x_then ?_))
    refine x_hit (k_seq (k_seq (k_region (sAi rfl rfl rfl rfl (l_nil (k_block (k_loop 39 [7, 9] (fun mm sl W => ∃ i : Nat, t.outs.length - i = mm ∧ sl = [(9, .int .i64 (i : Int)), (7, .int .i64 ((min ((t.ins.map (fun x => allS x.wit)).sum + ((t.outs.take i).map (fun o => o.script.length)).sum) 1099511627776 : Nat) : Int))] ∧ (i ≤ t.outs.length) ∧ St nT w W [Fact.blk gm (txC A t.ins.length c B t.outs.length d t.lock) 26]) _ _ ⟨0, rfl, rfl, Nat.zero_le _, H⟩ ⟨rfl, vi (by simp), trivial⟩ (fun mm sl ρv W hJ => ?_))))))))
    clear H; obtain ⟨i, rfl, rfl, hi, H⟩ := hJ
    refine k_one (k_seq (k_seq (k_region (sMi rfl rfl rfl rfl (sR rfl rfl (d_fa rfl rfl tf26_1) (sR rfl rfl (d_ld rfl H rfl ta24 rfl) (sR rfl rfl (d_len rfl rfl tu24) (sR rfl rfl (d_lt rfl rfl rfl) (l_nil (k_cond rfl (fun hc43 => ?_) (fun hc43 => ?_)))))))))))
    ·replace hc43 := of_decide_eq_true hc43
     have hlt : i < t.outs.length := by omega
     obtain ⟨g0, o0, rfl, -⟩ := hs.2 (by omega)
     obtain ⟨x, hx⟩ := get_lt hlt
     obtain ⟨B2, d2, hL, hB, hn⟩ := out_of (hes i x hx)
     have hz1 := hz.2 x (List.mem_of_getElem? hx)
     refine k_skip (k_seq (k_block (k_region (sMi rfl rfl rfl rfl (sR rfl rfl (d_fa rfl rfl tf26_1) (sR rfl rfl (d_ld rfl H rfl ta24 rfl) (sMi rfl rfl rfl rfl (sR rfl rfl (d_iaG (q := i) rfl (H.rd hs) rfl rfl rfl hlt tu24 ts37) (sR rfl rfl (d_fa rfl rfl tf37_1) (sR rfl rfl (d_ldE (off := 1) rfl (H.rd hs) hlt hL rfl rfl rfl (by omega) ta35) ?_))))))))))
     refine sR rfl rfl (d_len rfl rfl tu35) (sR rfl rfl (d_add rfl rfl rfl (by omega)) (sR rfl rfl (d_min rfl rfl rfl) (sAi rfl rfl rfl rfl (l_nil (k_nil (b_end (k_region (sMi rfl rfl rfl rfl (sR rfl rfl (d_add rfl rfl rfl (by omega)) (sAi rfl rfl rfl rfl ?_))))))))))
     refine l_nil (k_nil (k_next ?_))
     refine ⟨_, _, _, ?_, rfl, ?_, ?_, ⟨i + 1, rfl, rfl, by omega, H⟩⟩
     ·omega
     ·repeat (first | (with_reducible refine .updl _ .ovr ?_); exact rfl | (with_reducible refine .updl _ (.ovr2 ?_ ?_) ?_); rotate_left; exact rfl; exact rfl | (with_reducible refine .upd ?_ ?_); rotate_left; exact rfl)
     ·refine ⟨?_, ?_, trivial⟩
      ·exact vi (by omega)
      ·exact vi (by rw [sum_at hx]; omega)
    ·replace hc43 := of_decide_eq_false hc43
     obtain rfl : i = t.outs.length := by omega
     rw [List.take_length]
     refine k_exit (x_then (x_then ?_))
     refine x_hit (k_seq (k_region (sMi rfl rfl rfl rfl (sMi rfl rfl rfl rfl (sR rfl rfl (d_gt rfl rfl rfl) (sAb rfl rfl rfl rfl (l_nil (k_ret ?_))))))))
     repeat (first | refine r_then ?_ | refine r_blk ?_)
     exact q_ret (v := .bool _) rfl rfl ⟨_, rfl, vb (by unfold Tx.big Tx.size; rw [decide_eq_false (show ¬ rows < t.ins.length by omega), decide_eq_false (show ¬ rows < t.outs.length by omega), Bool.false_or, Bool.false_or]; exact decide_eq_decide.2 (by omega)), H.under⟩

set_option maxHeartbeats 4000000 in
theorem sameNested {S S1 : Nat → Prop} {v u : Value} {l r : List (List UInt8)} (w : World) (hl : RL 1 RB w S [v] l) (hr : RL 1 RB w S1 [u] r) : Calls Tryz.prog 94 [v, u].toArray w (Ret (Is w (.bool (decide (l = r))))) := by
 have hll := rl_len hl
 obtain ⟨A, c, xs, hv_, hcA_, hcmA_, hr1, hel⟩ := hl
 obtain rfl : v = .slice A l.length c := by cases hv_; rfl
 obtain ⟨B, d, ys, hv_, hcB_, hcmB_, hr, hes⟩ := hr
 obtain rfl : u = .slice B r.length d := by cases hv_; rfl
 refine k_enter (l := [_, _]) Tryz.func94 rfl rfl ?_
 have H := St.start nT w
 refine k_seq (k_region (sAb rfl rfl rfl rfl (l_nil (k_seq (k_seq (k_region (sMs rfl rfl rfl rfl (sR rfl rfl (d_len rfl rfl tu32) (sMs rfl rfl rfl rfl (sR rfl rfl (d_len rfl rfl tu32) ?_))))))))))
 refine sR rfl rfl (d_ne rfl rfl rfl) (l_nil (k_cond rfl (fun hc10 => ?_) (fun hc10 => ?_)))
 ·have hc10 : ¬ l.length = r.length := by simp at hc10; omega
  refine k_seq (k_region (sAb rfl rfl rfl rfl (l_nil (k_ret ?_))))
  repeat (first | refine r_then ?_ | refine r_blk ?_)
  exact q_ret (v := .bool _) rfl rfl ⟨_, rfl, vb (decide_eq_false (fun e => by rw [e] at hc10; exact hc10 rfl)).symm, H.under⟩
 ·have hc10 : l.length = r.length := by simp at hc10; omega
  refine k_skip (k_seq (k_seq (k_region (sAi rfl rfl rfl rfl (l_nil (k_block (k_loop 11 [4, 5] (fun mm sl W => ∃ i : Nat, l.length - i = mm ∧ sl = [(5, .int .i64 (i : Int))] ∧ (i ≤ l.length) ∧ (l.take i = r.take i) ∧ St nT w W []) _ _ ⟨0, rfl, rfl, Nat.zero_le _, rfl, H⟩ ⟨rfl, trivial⟩ (fun mm sl ρv W hJ => ?_))))))))
  clear H; obtain ⟨i, rfl, rfl, hi, ht, H⟩ := hJ
  refine k_one (k_seq (k_seq (k_region (sMi rfl rfl rfl rfl (sMs rfl rfl rfl rfl (sR rfl rfl (d_len rfl rfl tu32) (sR rfl rfl (d_lt rfl rfl rfl) (l_nil (k_cond rfl (fun hc14 => ?_) (fun hc14 => ?_))))))))))
  ·replace hc14 := of_decide_eq_true hc14
   have hlt : i < l.length := by omega
   have hlt2 : i < r.length := by omega
   obtain ⟨g0, o0, rfl, -⟩ := hr1.2 (by omega)
   obtain ⟨x, hx⟩ := get_lt hlt
   obtain ⟨E, e, hL, hB⟩ := rb_of (hel i x hx)
   obtain ⟨g1, o1, rfl, -⟩ := hr.2 (by omega)
   obtain ⟨y, hy⟩ := get_lt hlt2
   obtain ⟨F, f, hL2, hB2⟩ := rb_of (hes i y hy)
   refine k_skip (k_seq (k_block (k_seq (k_draw [(0, true), (1, true), (2, true), (3, true), (4, true), (5, true), (6, true), (7, true), (8, false), (9, true)] _ (by kernel_rfl) (by kernel_rfl) H (.refl _) ?_))))
   clear H; intro W H
   refine cR rfl rfl rfl (fun W H => mv_s rfl rfl) (cR rfl rfl rfl (fun W H => mv_i rfl rfl) (cR rfl rfl rfl (fun W H => d_iaG rfl (H.rd hr1) rfl rfl (q := i) rfl hlt tu32 ts35) (cR rfl rfl rfl (fun W H => d_ldE (off := 0) rfl (H.rd hr1) hlt hL rfl rfl rfl (by omega) ta35) (cR rfl rfl rfl (fun W H => mv_s rfl rfl) (cR rfl rfl rfl (fun W H => mv_i rfl rfl) (cR rfl rfl rfl (fun W H => d_iaG rfl (H.rd hr) rfl rfl (q := i) rfl hlt2 tu32 ts35) (cR rfl rfl rfl (fun W H => d_ldE (off := 0) rfl (H.rd hr) hlt2 hL2 rfl rfl rfl (by omega) ta35) (c_eff rfl (e_call (w_none rfl) rfl rfl Tryz.func20 rfl rfl rfl (sameBytes _ _ x y _ (H.bs hB) (H.bs hB2)) ?_)))))))))
   rintro _ W ⟨rfl, hb⟩
   replace H := H.below hb
   clear hb
   refine ⟨H.sub (by repeat (first | exact .refl _ | exact List.nil_sublist _ | refine .cons_cons _ ?_ | refine .cons _ ?_)), ?_⟩
   refine cR rfl rfl rfl (fun W H => d_not rfl rfl) (c_nil (k_cond rfl (fun hc26 => ?_) (fun hc26 => ?_)))
   ·replace hc26 : ¬ x = y := by simpa using hc26
    refine k_seq (k_region (sAb rfl rfl rfl rfl (l_nil (k_ret ?_))))
    repeat (first | refine r_then ?_ | refine r_blk ?_)
    exact q_ret (v := .bool _) rfl rfl ⟨_, rfl, vb (decide_eq_false (ne_at hx hy hc26)).symm, H.under⟩
   ·replace hc26 : x = y := by simpa using hc26
    refine k_skip (k_nil (b_end (k_region (sMi rfl rfl rfl rfl (sR rfl rfl (d_add rfl rfl rfl (by omega)) (sAi rfl rfl rfl rfl (l_nil (k_nil (k_next ?_)))))))))
    refine ⟨_, _, _, ?_, rfl, ?_, ?_, ⟨i + 1, rfl, rfl, by omega, take_eq_step ht hx (hc26 ▸ hy), H⟩⟩
    ·omega
    ·repeat (first | (with_reducible refine .updl _ .ovr ?_); exact rfl | (with_reducible refine .updl _ (.ovr2 ?_ ?_) ?_); rotate_left; exact rfl; exact rfl | (with_reducible refine .upd ?_ ?_); rotate_left; exact rfl)
    ·refine ⟨?_, trivial⟩
     ·exact vi (by omega)
  ·replace hc14 := of_decide_eq_false hc14
   refine k_exit (x_then (x_then ?_))
   refine x_hit (k_seq (k_region (sAb rfl rfl rfl rfl (l_nil (k_ret ?_)))))
   repeat (first | refine r_then ?_ | refine r_blk ?_)
   obtain rfl : i = l.length := by omega
   exact q_ret (v := .bool _) rfl rfl ⟨_, rfl, vb (decide_eq_true (all_take (by omega) ht)).symm, H.under⟩

set_option maxHeartbeats 4000000 in
theorem sameIns {S S1 : Nat → Prop} {v u : Value} {l r : List DIn} (w : World) (hl : RL 34 RIn w S [v] l) (hr : RL 34 RIn w S1 [u] r) : Calls Tryz.prog 64 [v, u].toArray w (Ret (Is w (.bool (decide (l = r))))) := by
 have hll := rl_len hl
 obtain ⟨A, c, xs, hv_, hcA_, hcmA_, hr1, hel⟩ := hl
 obtain rfl : v = .slice A l.length c := by cases hv_; rfl
 obtain ⟨B, d, ys, hv_, hcB_, hcmB_, hr, hes⟩ := hr
 obtain rfl : u = .slice B r.length d := by cases hv_; rfl
 refine k_enter (l := [_, _]) Tryz.func64 rfl rfl ?_
 have H := St.start nT w
 refine k_seq (k_region (sAb rfl rfl rfl rfl (l_nil (k_seq (k_seq (k_region (sMs rfl rfl rfl rfl (sR rfl rfl (d_len rfl rfl tu23) (sMs rfl rfl rfl rfl (sR rfl rfl (d_len rfl rfl tu23) ?_))))))))))
 refine sR rfl rfl (d_ne rfl rfl rfl) (l_nil (k_cond rfl (fun hc10 => ?_) (fun hc10 => ?_)))
 ·have hc10 : ¬ l.length = r.length := by simp at hc10; omega
  refine k_seq (k_region (sAb rfl rfl rfl rfl (l_nil (k_ret ?_))))
  repeat (first | refine r_then ?_ | refine r_blk ?_)
  exact q_ret (v := .bool _) rfl rfl ⟨_, rfl, vb (decide_eq_false (fun e => by rw [e] at hc10; exact hc10 rfl)).symm, H.under⟩
 ·have hc10 : l.length = r.length := by simp at hc10; omega
  refine k_skip (k_seq (k_seq (k_region (sAi rfl rfl rfl rfl (l_nil (k_block (k_loop 11 [4, 5] (fun mm sl W => ∃ i : Nat, l.length - i = mm ∧ sl = [(5, .int .i64 (i : Int))] ∧ (i ≤ l.length) ∧ (l.take i = r.take i) ∧ St nT w W []) _ _ ⟨0, rfl, rfl, Nat.zero_le _, rfl, H⟩ ⟨rfl, trivial⟩ (fun mm sl ρv W hJ => ?_))))))))
  clear H; obtain ⟨i, rfl, rfl, hi, ht, H⟩ := hJ
  refine k_one (k_seq (k_seq (k_region (sMi rfl rfl rfl rfl (sMs rfl rfl rfl rfl (sR rfl rfl (d_len rfl rfl tu23) (sR rfl rfl (d_lt rfl rfl rfl) (l_nil (k_cond rfl (fun hc14 => ?_) (fun hc14 => ?_))))))))))
  ·replace hc14 := of_decide_eq_true hc14
   have hlt : i < l.length := by omega
   have hlt2 : i < r.length := by omega
   obtain ⟨g0, o0, rfl, -⟩ := hr1.2 (by omega)
   obtain ⟨x, hx⟩ := get_lt hlt
   obtain ⟨E, e, hL, hW, hp, hn⟩ := in_of (hel i x hx)
   obtain ⟨g1, o1, rfl, -⟩ := hr.2 (by omega)
   obtain ⟨y, hy⟩ := get_lt hlt2
   obtain ⟨F, f, hL2, hW2, hp2, hn2⟩ := in_of (hes i y hy)
   refine k_skip (k_seq (k_block (k_seq ?_)))
   rcases hb1 : beqPoint x.point y.point with _ | _
   ·skip
    refine k_draw [(0, true), (1, true), (2, true), (3, true), (4, true), (5, true), (6, true), (7, true), (8, true), (9, true), (10, true), (11, true), (12, true), (13, true), (14, true), (15, true), (16, true), (17, true), (18, true), (19, true), (20, true), (21, true), (22, true), (23, true), (24, true)] [] (by kernel_rfl) (by kernel_rfl) H (.refl _) ?_
    clear H; intro W H
    refine cR rfl rfl rfl (fun W H => mv_s rfl rfl) (cR rfl rfl rfl (fun W H => mv_i rfl rfl) (cR rfl rfl rfl (fun W H => d_iaG rfl (H.rd hr1) rfl rfl (q := i) rfl hlt tu23 ts34) (cR rfl rfl rfl (fun W H => d_fa rfl rfl tf34_0) (cR rfl rfl rfl (fun W H => d_ldEM (off := 0) rfl (H.rd hr1) hlt hL (sub_in_p hp) rfl rfl (by omega) ta31 ts31) (cR rfl rfl rfl (fun W H => mv_s rfl rfl) (cR rfl rfl rfl (fun W H => mv_i rfl rfl) (cR rfl rfl rfl (fun W H => d_iaG rfl (H.rd hr) rfl rfl (q := i) rfl hlt2 tu23 ts34) (cR rfl rfl rfl (fun W H => d_fa rfl rfl tf34_0) (cR rfl rfl rfl (fun W H => d_ldEM (off := 0) rfl (H.rd hr) hlt2 hL2 (sub_in_p hp2) rfl rfl (by omega) ta31 ts31) (cR rfl rfl rfl (fun W H => d_eqst (r := beqPoint x.point y.point) rfl rfl rfl (eq_Point (d := 9997) (point_rep (W := w) (S := nT) hp hn) (point_rep (W := w) (S := nT) hp2 hn2)) (by kernel_rfl)) ?_))))))))))
    refine cR rfl rfl rfl (fun W H => mv_bx (c := false) rfl rfl (by rw [hb1])) ?_
    refine c_skip rfl (w_gno rfl rfl rfl rfl rfl) rfl (c_skip rfl (w_gno rfl rfl rfl rfl rfl) rfl (c_skip rfl (w_gno rfl rfl rfl rfl rfl) rfl (c_skip rfl (w_gno rfl rfl rfl rfl rfl) rfl (c_skip rfl (w_gno rfl rfl rfl rfl rfl) rfl (c_skip rfl (w_gno rfl rfl rfl rfl rfl) rfl (c_skip rfl (w_gno rfl rfl rfl rfl rfl) rfl (c_skip rfl (w_gno rfl rfl rfl rfl rfl) rfl (c_skip rfl (w_gno rfl rfl rfl rfl rfl) rfl (c_skip rfl (w_gno rfl rfl rfl rfl rfl) rfl (c_skip rfl (w_gno rfl rfl rfl rfl rfl) rfl ?_))))))))))
    refine cR rfl rfl rfl (fun W H => d_pickF rfl rfl rfl) (cR rfl rfl rfl (fun W H => d_not rfl rfl) (c_nil (k_condT rfl rfl (k_seq (k_region (sAb rfl rfl rfl rfl (l_nil (k_ret ?_))))))))
    repeat (first | refine r_then ?_ | refine r_blk ?_)
    have hxy : ¬ x = y := fun e => by rw [e, beqPoint_iff.2 rfl] at hb1; cases hb1
    exact q_ret (v := .bool _) rfl rfl ⟨_, rfl, vb (decide_eq_false (ne_at hx hy hxy)).symm, H.under⟩
   ·skip
    refine k_draw [(0, true), (1, true), (2, true), (3, true), (4, true), (5, true), (6, true), (7, true), (8, true), (9, true), (10, true), (11, true), (12, true), (13, true), (14, true), (15, true), (16, true), (17, true), (18, true), (19, true), (20, true), (21, true), (22, false), (23, true), (24, true)] [] (by kernel_rfl) (by kernel_rfl) H (.refl _) ?_
    clear H; intro W H
    refine cR rfl rfl rfl (fun W H => mv_s rfl rfl) (cR rfl rfl rfl (fun W H => mv_i rfl rfl) (cR rfl rfl rfl (fun W H => d_iaG rfl (H.rd hr1) rfl rfl (q := i) rfl hlt tu23 ts34) (cR rfl rfl rfl (fun W H => d_fa rfl rfl tf34_0) (cR rfl rfl rfl (fun W H => d_ldEM (off := 0) rfl (H.rd hr1) hlt hL (sub_in_p hp) rfl rfl (by omega) ta31 ts31) (cR rfl rfl rfl (fun W H => mv_s rfl rfl) (cR rfl rfl rfl (fun W H => mv_i rfl rfl) (cR rfl rfl rfl (fun W H => d_iaG rfl (H.rd hr) rfl rfl (q := i) rfl hlt2 tu23 ts34) (cR rfl rfl rfl (fun W H => d_fa rfl rfl tf34_0) (cR rfl rfl rfl (fun W H => d_ldEM (off := 0) rfl (H.rd hr) hlt2 hL2 (sub_in_p hp2) rfl rfl (by omega) ta31 ts31) (cR rfl rfl rfl (fun W H => d_eqst (r := beqPoint x.point y.point) rfl rfl rfl (eq_Point (d := 9997) (point_rep (W := w) (S := nT) hp hn) (point_rep (W := w) (S := nT) hp2 hn2)) (by kernel_rfl)) ?_))))))))))
    refine cR rfl rfl rfl (fun W H => mv_bx (c := true) rfl rfl (by rw [hb1])) ?_
    refine c_run rfl (w_g rfl rfl rfl rfl) rfl (fun W H => mv_s rfl rfl) (c_run rfl (w_g rfl rfl rfl rfl) rfl (fun W H => mv_i rfl rfl) (c_run rfl (w_g rfl rfl rfl rfl) rfl (fun W H => d_iaG rfl (H.rd hr1) rfl rfl (q := i) rfl hlt tu23 ts34) (c_run rfl (w_g rfl rfl rfl rfl) rfl (fun W H => d_fa rfl rfl tf34_1) (c_run rfl (w_g rfl rfl rfl rfl) rfl (fun W H => d_ldE (off := 33) rfl (H.rd hr1) hlt hL (sub_in_w hp) rfl rfl (by omega) ta32) (c_run rfl (w_g rfl rfl rfl rfl) rfl (fun W H => mv_s rfl rfl) (c_run rfl (w_g rfl rfl rfl rfl) rfl (fun W H => mv_i rfl rfl) (c_run rfl (w_g rfl rfl rfl rfl) rfl (fun W H => d_iaG rfl (H.rd hr) rfl rfl (q := i) rfl hlt2 tu23 ts34) (c_run rfl (w_g rfl rfl rfl rfl) rfl (fun W H => d_fa rfl rfl tf34_1) (c_run rfl (w_g rfl rfl rfl rfl) rfl (fun W H => d_ldE (off := 33) rfl (H.rd hr) hlt2 hL2 (sub_in_w hp2) rfl rfl (by omega) ta32) (c_eff rfl (e_call (w_g rfl rfl rfl rfl) rfl rfl Tryz.func94 rfl rfl rfl (sameNested _ (keeps_L keeps_B _ _ _ _ _ hW (fun g hg _ => H.fr.block g hg (fun h => h))) (keeps_L keeps_B _ _ _ _ _ hW2 (fun g hg _ => H.fr.block g hg (fun h => h)))) ?_)))))))))))
    rintro _ W ⟨rfl, hb⟩
    replace H := H.below hb
    clear hb
    refine ⟨H.sub (by repeat (first | exact .refl _ | exact List.nil_sublist _ | refine .cons_cons _ ?_ | refine .cons _ ?_)), ?_⟩
    refine cR rfl rfl rfl (fun W H => d_pickT rfl rfl rfl) (cR rfl rfl rfl (fun W H => d_not rfl rfl) (c_nil (k_cond rfl (fun hc41 => ?_) (fun hc41 => ?_))))
    ·replace hc41 : ¬ x.wit = y.wit := by simpa using hc41
     have hxy : ¬ x = y := fun e => hc41 (by rw [e])
     refine k_seq (k_region (sAb rfl rfl rfl rfl (l_nil (k_ret ?_))))
     repeat (first | refine r_then ?_ | refine r_blk ?_)
     exact q_ret (v := .bool _) rfl rfl ⟨_, rfl, vb (decide_eq_false (ne_at hx hy hxy)).symm, H.under⟩
    ·replace hc41 : x.wit = y.wit := by simpa using hc41
     have hxy : x = y := by
      have h1 := beqPoint_iff.1 hb1
      cases x; cases y
      simp_all
     refine k_skip (k_nil (b_end (k_region (sMi rfl rfl rfl rfl (sR rfl rfl (d_add rfl rfl rfl (by omega)) (sAi rfl rfl rfl rfl (l_nil (k_nil (k_next ?_)))))))))
     refine ⟨_, _, _, ?_, rfl, ?_, ?_, ⟨i + 1, rfl, rfl, by omega, take_eq_step ht hx (hxy ▸ hy), H⟩⟩
     ·omega
     ·repeat (first | (with_reducible refine .updl _ .ovr ?_); exact rfl | (with_reducible refine .updl _ (.ovr2 ?_ ?_) ?_); rotate_left; exact rfl; exact rfl | (with_reducible refine .upd ?_ ?_); rotate_left; exact rfl)
     ·refine ⟨?_, trivial⟩
      ·exact vi (by omega)
  ·replace hc14 := of_decide_eq_false hc14
   refine k_exit (x_then (x_then ?_))
   refine x_hit (k_seq (k_region (sAb rfl rfl rfl rfl (l_nil (k_ret ?_)))))
   repeat (first | refine r_then ?_ | refine r_blk ?_)
   obtain rfl : i = l.length := by omega
   exact q_ret (v := .bool _) rfl rfl ⟨_, rfl, vb (decide_eq_true (all_take (by omega) ht)).symm, H.under⟩

set_option maxHeartbeats 4000000 in
theorem sameOuts {S S1 : Nat → Prop} {v u : Value} {l r : List DOut} (w : World) (hl : RL 2 ROut w S [v] l) (hr : RL 2 ROut w S1 [u] r) : Calls Tryz.prog 65 [v, u].toArray w (Ret (Is w (.bool (decide (l = r))))) := by
 have hll := rl_len hl
 obtain ⟨A, c, xs, hv_, hcA_, hcmA_, hr1, hel⟩ := hl
 obtain rfl : v = .slice A l.length c := by cases hv_; rfl
 obtain ⟨B, d, ys, hv_, hcB_, hcmB_, hr, hes⟩ := hr
 obtain rfl : u = .slice B r.length d := by cases hv_; rfl
 refine k_enter (l := [_, _]) Tryz.func65 rfl rfl ?_
 have H := St.start nT w
 refine k_seq (k_region (sAb rfl rfl rfl rfl (l_nil (k_seq (k_seq (k_region (sMs rfl rfl rfl rfl (sR rfl rfl (d_len rfl rfl tu24) (sMs rfl rfl rfl rfl (sR rfl rfl (d_len rfl rfl tu24) ?_))))))))))
 refine sR rfl rfl (d_ne rfl rfl rfl) (l_nil (k_cond rfl (fun hc10 => ?_) (fun hc10 => ?_)))
 ·have hc10 : ¬ l.length = r.length := by simp at hc10; omega
  refine k_seq (k_region (sAb rfl rfl rfl rfl (l_nil (k_ret ?_))))
  repeat (first | refine r_then ?_ | refine r_blk ?_)
  exact q_ret (v := .bool _) rfl rfl ⟨_, rfl, vb (decide_eq_false (fun e => by rw [e] at hc10; exact hc10 rfl)).symm, H.under⟩
 ·have hc10 : l.length = r.length := by simp at hc10; omega
  refine k_skip (k_seq (k_seq (k_region (sAi rfl rfl rfl rfl (l_nil (k_block (k_loop 11 [4, 5] (fun mm sl W => ∃ i : Nat, l.length - i = mm ∧ sl = [(5, .int .i64 (i : Int))] ∧ (i ≤ l.length) ∧ (l.take i = r.take i) ∧ St nT w W []) _ _ ⟨0, rfl, rfl, Nat.zero_le _, rfl, H⟩ ⟨rfl, trivial⟩ (fun mm sl ρv W hJ => ?_))))))))
  clear H; obtain ⟨i, rfl, rfl, hi, ht, H⟩ := hJ
  refine k_one (k_seq (k_seq (k_region (sMi rfl rfl rfl rfl (sMs rfl rfl rfl rfl (sR rfl rfl (d_len rfl rfl tu24) (sR rfl rfl (d_lt rfl rfl rfl) (l_nil (k_cond rfl (fun hc14 => ?_) (fun hc14 => ?_))))))))))
  ·replace hc14 := of_decide_eq_true hc14
   have hlt : i < l.length := by omega
   have hlt2 : i < r.length := by omega
   obtain ⟨g0, o0, rfl, -⟩ := hr1.2 (by omega)
   obtain ⟨x, hx⟩ := get_lt hlt
   obtain ⟨E, e, hL, hB, hn⟩ := out_of (hel i x hx)
   obtain ⟨g1, o1, rfl, -⟩ := hr.2 (by omega)
   obtain ⟨y, hy⟩ := get_lt hlt2
   obtain ⟨F, f, hL2, hB2, hn2⟩ := out_of (hes i y hy)
   refine k_skip (k_seq (k_block (k_seq ?_)))
   rcases hb1 : (x.value == y.value) with _ | _
   ·skip
    refine k_draw [(0, true), (1, true), (2, true), (3, true), (4, true), (5, true), (6, true), (7, true), (8, true), (9, true), (10, true), (11, true), (12, true), (13, true), (14, true), (15, true), (16, true), (17, true), (18, true), (19, true), (20, true), (21, true), (22, true), (23, true), (24, true)] [] (by kernel_rfl) (by kernel_rfl) H (.refl _) ?_
    clear H; intro W H
    refine cR rfl rfl rfl (fun W H => mv_s rfl rfl) (cR rfl rfl rfl (fun W H => mv_i rfl rfl) (cR rfl rfl rfl (fun W H => d_iaG rfl (H.rd hr1) rfl rfl (q := i) rfl hlt tu24 ts37) (cR rfl rfl rfl (fun W H => d_fa rfl rfl tf37_0) (cR rfl rfl rfl (fun W H => d_ldE (off := 0) rfl (H.rd hr1) hlt hL rfl rfl rfl (by omega) ta3) (cR rfl rfl rfl (fun W H => mv_s rfl rfl) (cR rfl rfl rfl (fun W H => mv_i rfl rfl) (cR rfl rfl rfl (fun W H => d_iaG rfl (H.rd hr) rfl rfl (q := i) rfl hlt2 tu24 ts37) (cR rfl rfl rfl (fun W H => d_fa rfl rfl tf37_0) (cR rfl rfl rfl (fun W H => d_ldE (off := 0) rfl (H.rd hr) hlt2 hL2 rfl rfl rfl (by omega) ta3) (cR rfl rfl rfl (fun W H => d_eq rfl rfl rfl) ?_))))))))))
    refine cR rfl rfl rfl (fun W H => mv_bx (c := false) rfl rfl (by rw [hb1])) ?_
    refine c_skip rfl (w_gno rfl rfl rfl rfl rfl) rfl (c_skip rfl (w_gno rfl rfl rfl rfl rfl) rfl (c_skip rfl (w_gno rfl rfl rfl rfl rfl) rfl (c_skip rfl (w_gno rfl rfl rfl rfl rfl) rfl (c_skip rfl (w_gno rfl rfl rfl rfl rfl) rfl (c_skip rfl (w_gno rfl rfl rfl rfl rfl) rfl (c_skip rfl (w_gno rfl rfl rfl rfl rfl) rfl (c_skip rfl (w_gno rfl rfl rfl rfl rfl) rfl (c_skip rfl (w_gno rfl rfl rfl rfl rfl) rfl (c_skip rfl (w_gno rfl rfl rfl rfl rfl) rfl (c_skip rfl (w_gno rfl rfl rfl rfl rfl) rfl ?_))))))))))
    refine cR rfl rfl rfl (fun W H => d_pickF rfl rfl rfl) (cR rfl rfl rfl (fun W H => d_not rfl rfl) (c_nil (k_condT rfl rfl (k_seq (k_region (sAb rfl rfl rfl rfl (l_nil (k_ret ?_))))))))
    repeat (first | refine r_then ?_ | refine r_blk ?_)
    have hxy : ¬ x = y := fun e => by rw [e] at hb1; simp at hb1
    exact q_ret (v := .bool _) rfl rfl ⟨_, rfl, vb (decide_eq_false (ne_at hx hy hxy)).symm, H.under⟩
   ·skip
    refine k_draw [(0, true), (1, true), (2, true), (3, true), (4, true), (5, true), (6, true), (7, true), (8, true), (9, true), (10, true), (11, true), (12, true), (13, true), (14, true), (15, true), (16, true), (17, true), (18, true), (19, true), (20, true), (21, true), (22, false), (23, true), (24, true)] [] (by kernel_rfl) (by kernel_rfl) H (.refl _) ?_
    clear H; intro W H
    refine cR rfl rfl rfl (fun W H => mv_s rfl rfl) (cR rfl rfl rfl (fun W H => mv_i rfl rfl) (cR rfl rfl rfl (fun W H => d_iaG rfl (H.rd hr1) rfl rfl (q := i) rfl hlt tu24 ts37) (cR rfl rfl rfl (fun W H => d_fa rfl rfl tf37_0) (cR rfl rfl rfl (fun W H => d_ldE (off := 0) rfl (H.rd hr1) hlt hL rfl rfl rfl (by omega) ta3) (cR rfl rfl rfl (fun W H => mv_s rfl rfl) (cR rfl rfl rfl (fun W H => mv_i rfl rfl) (cR rfl rfl rfl (fun W H => d_iaG rfl (H.rd hr) rfl rfl (q := i) rfl hlt2 tu24 ts37) (cR rfl rfl rfl (fun W H => d_fa rfl rfl tf37_0) (cR rfl rfl rfl (fun W H => d_ldE (off := 0) rfl (H.rd hr) hlt2 hL2 rfl rfl rfl (by omega) ta3) (cR rfl rfl rfl (fun W H => d_eq rfl rfl rfl) ?_))))))))))
    refine cR rfl rfl rfl (fun W H => mv_bx (c := true) rfl rfl (by rw [hb1])) ?_
    refine c_run rfl (w_g rfl rfl rfl rfl) rfl (fun W H => mv_s rfl rfl) (c_run rfl (w_g rfl rfl rfl rfl) rfl (fun W H => mv_i rfl rfl) (c_run rfl (w_g rfl rfl rfl rfl) rfl (fun W H => d_iaG rfl (H.rd hr1) rfl rfl (q := i) rfl hlt tu24 ts37) (c_run rfl (w_g rfl rfl rfl rfl) rfl (fun W H => d_fa rfl rfl tf37_1) (c_run rfl (w_g rfl rfl rfl rfl) rfl (fun W H => d_ldE (off := 1) rfl (H.rd hr1) hlt hL rfl rfl rfl (by omega) ta35) (c_run rfl (w_g rfl rfl rfl rfl) rfl (fun W H => mv_s rfl rfl) (c_run rfl (w_g rfl rfl rfl rfl) rfl (fun W H => mv_i rfl rfl) (c_run rfl (w_g rfl rfl rfl rfl) rfl (fun W H => d_iaG rfl (H.rd hr) rfl rfl (q := i) rfl hlt2 tu24 ts37) (c_run rfl (w_g rfl rfl rfl rfl) rfl (fun W H => d_fa rfl rfl tf37_1) (c_run rfl (w_g rfl rfl rfl rfl) rfl (fun W H => d_ldE (off := 1) rfl (H.rd hr) hlt2 hL2 rfl rfl rfl (by omega) ta35) (c_eff rfl (e_call (w_g rfl rfl rfl rfl) rfl rfl Tryz.func20 rfl rfl rfl (sameBytes _ _ x.script y.script _ (H.bs hB) (H.bs hB2)) ?_)))))))))))
    rintro _ W ⟨rfl, hb⟩
    replace H := H.below hb
    clear hb
    refine ⟨H.sub (by repeat (first | exact .refl _ | exact List.nil_sublist _ | refine .cons_cons _ ?_ | refine .cons _ ?_)), ?_⟩
    refine cR rfl rfl rfl (fun W H => d_pickT rfl rfl rfl) (cR rfl rfl rfl (fun W H => d_not rfl rfl) (c_nil (k_cond rfl (fun hc41 => ?_) (fun hc41 => ?_))))
    ·replace hc41 : ¬ x.script = y.script := by simpa using hc41
     have hxy : ¬ x = y := fun e => hc41 (by rw [e])
     refine k_seq (k_region (sAb rfl rfl rfl rfl (l_nil (k_ret ?_))))
     repeat (first | refine r_then ?_ | refine r_blk ?_)
     exact q_ret (v := .bool _) rfl rfl ⟨_, rfl, vb (decide_eq_false (ne_at hx hy hxy)).symm, H.under⟩
    ·replace hc41 : x.script = y.script := by simpa using hc41
     have hxy : x = y := by
      have h1 := eq_of_beq hb1
      cases x; cases y
      simp_all
     refine k_skip (k_nil (b_end (k_region (sMi rfl rfl rfl rfl (sR rfl rfl (d_add rfl rfl rfl (by omega)) (sAi rfl rfl rfl rfl (l_nil (k_nil (k_next ?_)))))))))
     refine ⟨_, _, _, ?_, rfl, ?_, ?_, ⟨i + 1, rfl, rfl, by omega, take_eq_step ht hx (hxy ▸ hy), H⟩⟩
     ·omega
     ·repeat (first | (with_reducible refine .updl _ .ovr ?_); exact rfl | (with_reducible refine .updl _ (.ovr2 ?_ ?_) ?_); rotate_left; exact rfl; exact rfl | (with_reducible refine .upd ?_ ?_); rotate_left; exact rfl)
     ·refine ⟨?_, trivial⟩
      ·exact vi (by omega)
  ·replace hc14 := of_decide_eq_false hc14
   refine k_exit (x_then (x_then ?_))
   refine x_hit (k_seq (k_region (sAb rfl rfl rfl rfl (l_nil (k_ret ?_)))))
   repeat (first | refine r_then ?_ | refine r_blk ?_)
   obtain rfl : i = l.length := by omega
   exact q_ret (v := .bool _) rfl rfl ⟨_, rfl, vb (decide_eq_true (all_take (by omega) ht)).symm, H.under⟩

set_option maxHeartbeats 4000000 in
theorem sameTx {S S1 : Nat → Prop} {cs cu : List Value} {t u : DTx} (w : World) (ht : RTx w S cs t) (hu : RTx w S1 cu u) : Calls Tryz.prog 28 [.agg cs.toArray, .agg cu.toArray].toArray w (Ret (Is w (.bool (decide (t = u))))) := by
 obtain ⟨A, c, B, d, rfl, hI, hO, hk⟩ := tx_of ht
 obtain ⟨A1, c1, B1, d1, rfl, hI1, hO1, hk1⟩ := tx_of hu
 refine k_enter (l := [_, _]) Tryz.func28 rfl rfl ?_
 have H := St.start nT w
 refine k_seq (k_region (s_eff (e_box (vs := (txC A t.ins.length c B t.outs.length d t.lock)) (w_none rfl) rfl rfl rfl rfl H ?_)))
 clear H; intro gm W H
 refine s_eff (e_box (vs := (txC A1 u.ins.length c1 B1 u.outs.length d1 u.lock)) (w_none rfl) rfl rfl rfl rfl H ?_)
 clear H; intro gu W H
 refine sAb rfl rfl rfl rfl (l_nil (k_seq ?_))
 rcases (show (t.lock == u.lock) = false ∨ ((t.lock == u.lock) = true ∧ ¬ t.ins = u.ins) ∨ ((t.lock == u.lock) = true ∧ t.ins = u.ins) by cases (t.lock == u.lock) <;> simp; exact Decidable.em _ |>.symm) with hs1 | ⟨hs1, hs2⟩ | ⟨hs1, hs2⟩
 ·skip
  refine k_region (sR rfl rfl (d_fa rfl rfl tf26_2) (sR rfl rfl (d_ld rfl H rfl ta3 rfl) (sR rfl rfl (d_fa rfl rfl tf26_2) (sR rfl rfl (d_ld rfl H rfl ta3 rfl) (sR rfl rfl (d_eq rfl rfl rfl) (sR rfl rfl (mv_bx (c := false) rfl rfl (by rw [hs1])) ?_))))))
  refine s_skip (w_gno rfl rfl rfl rfl rfl) rfl (s_skip (w_gno rfl rfl rfl rfl rfl) rfl (s_skip (w_gno rfl rfl rfl rfl rfl) rfl (s_skip (w_gno rfl rfl rfl rfl rfl) rfl (s_skip (w_gno rfl rfl rfl rfl rfl) rfl (sR rfl rfl (d_pickF rfl rfl rfl) (sR rfl rfl (mv_bx (c := false) rfl rfl (by first | rfl | exact decide_eq_true hs2 | exact decide_eq_false hs2)) ?_))))))
  refine s_skip (w_gno rfl rfl rfl rfl rfl) rfl (s_skip (w_gno rfl rfl rfl rfl rfl) rfl (s_skip (w_gno rfl rfl rfl rfl rfl) rfl (s_skip (w_gno rfl rfl rfl rfl rfl) rfl (s_skip (w_gno rfl rfl rfl rfl rfl) rfl (sR rfl rfl (d_pickF rfl rfl rfl) (sAb rfl rfl rfl rfl (l_nil (k_ret ?_))))))))
  repeat (first | refine r_then ?_ | refine r_blk ?_)
  exact q_ret (v := .bool _) rfl rfl ⟨_, rfl, vb (decide_eq_false (fun e => by rw [e] at hs1; simp at hs1)).symm, H.under⟩
 ·skip
  refine k_region (sR rfl rfl (d_fa rfl rfl tf26_2) (sR rfl rfl (d_ld rfl H rfl ta3 rfl) (sR rfl rfl (d_fa rfl rfl tf26_2) (sR rfl rfl (d_ld rfl H rfl ta3 rfl) (sR rfl rfl (d_eq rfl rfl rfl) (sR rfl rfl (mv_bx (c := true) rfl rfl (by rw [hs1])) ?_))))))
  refine s_run (w_g rfl rfl rfl rfl) rfl (d_fa rfl rfl tf26_0) (s_run (w_g rfl rfl rfl rfl) rfl (d_ld rfl H rfl ta23 rfl) (s_run (w_g rfl rfl rfl rfl) rfl (d_fa rfl rfl tf26_0) (s_run (w_g rfl rfl rfl rfl) rfl (d_ld rfl H rfl ta23 rfl) (s_eff (e_call (w_g rfl rfl rfl rfl) rfl rfl Tryz.func64 rfl rfl rfl (sameIns _ (keeps_L keeps_In _ _ _ _ _ hI (fun g hg _ => H.fr.block g hg (fun h => h))) (keeps_L keeps_In _ _ _ _ _ hI1 (fun g hg _ => H.fr.block g hg (fun h => h)))) ?_)))))
  rintro _ W ⟨rfl, hb⟩
  replace H := H.below hb
  clear hb
  refine sR rfl rfl (d_pickT rfl rfl rfl) (sR rfl rfl (mv_bx (c := false) rfl rfl (by first | rfl | exact decide_eq_true hs2 | exact decide_eq_false hs2)) ?_)
  refine s_skip (w_gno rfl rfl rfl rfl rfl) rfl (s_skip (w_gno rfl rfl rfl rfl rfl) rfl (s_skip (w_gno rfl rfl rfl rfl rfl) rfl (s_skip (w_gno rfl rfl rfl rfl rfl) rfl (s_skip (w_gno rfl rfl rfl rfl rfl) rfl (sR rfl rfl (d_pickF rfl rfl rfl) (sAb rfl rfl rfl rfl (l_nil (k_ret ?_))))))))
  repeat (first | refine r_then ?_ | refine r_blk ?_)
  exact q_ret (v := .bool _) rfl rfl ⟨_, rfl, vb (decide_eq_false (fun e => hs2 (by rw [e]))).symm, H.under⟩
 ·skip
  refine k_region (sR rfl rfl (d_fa rfl rfl tf26_2) (sR rfl rfl (d_ld rfl H rfl ta3 rfl) (sR rfl rfl (d_fa rfl rfl tf26_2) (sR rfl rfl (d_ld rfl H rfl ta3 rfl) (sR rfl rfl (d_eq rfl rfl rfl) (sR rfl rfl (mv_bx (c := true) rfl rfl (by rw [hs1])) ?_))))))
  refine s_run (w_g rfl rfl rfl rfl) rfl (d_fa rfl rfl tf26_0) (s_run (w_g rfl rfl rfl rfl) rfl (d_ld rfl H rfl ta23 rfl) (s_run (w_g rfl rfl rfl rfl) rfl (d_fa rfl rfl tf26_0) (s_run (w_g rfl rfl rfl rfl) rfl (d_ld rfl H rfl ta23 rfl) (s_eff (e_call (w_g rfl rfl rfl rfl) rfl rfl Tryz.func64 rfl rfl rfl (sameIns _ (keeps_L keeps_In _ _ _ _ _ hI (fun g hg _ => H.fr.block g hg (fun h => h))) (keeps_L keeps_In _ _ _ _ _ hI1 (fun g hg _ => H.fr.block g hg (fun h => h)))) ?_)))))
  rintro _ W ⟨rfl, hb⟩
  replace H := H.below hb
  clear hb
  refine sR rfl rfl (d_pickT rfl rfl rfl) (sR rfl rfl (mv_bx (c := true) rfl rfl (by first | rfl | exact decide_eq_true hs2 | exact decide_eq_false hs2)) ?_)
  refine s_run (w_g rfl rfl rfl rfl) rfl (d_fa rfl rfl tf26_1) (s_run (w_g rfl rfl rfl rfl) rfl (d_ld rfl H rfl ta24 rfl) (s_run (w_g rfl rfl rfl rfl) rfl (d_fa rfl rfl tf26_1) (s_run (w_g rfl rfl rfl rfl) rfl (d_ld rfl H rfl ta24 rfl) (s_eff (e_call (w_g rfl rfl rfl rfl) rfl rfl Tryz.func65 rfl rfl rfl (sameOuts _ (keeps_L keeps_Out _ _ _ _ _ hO (fun g hg _ => H.fr.block g hg (fun h => h))) (keeps_L keeps_Out _ _ _ _ _ hO1 (fun g hg _ => H.fr.block g hg (fun h => h)))) ?_)))))
  rintro _ W ⟨rfl, hb⟩
  replace H := H.below hb
  clear hb
  refine sR rfl rfl (d_pickT rfl rfl rfl) (sAb rfl rfl rfl rfl (l_nil (k_ret ?_)))
  repeat (first | refine r_then ?_ | refine r_blk ?_)
  exact q_ret (v := .bool _) rfl rfl ⟨_, rfl, vb (by have h1 := eq_of_beq hs1; cases t; cases u; simp_all), H.under⟩

theorem in_one {p : DPoint} {A : Option Addr} {m c : Nat} : (inC p A m c).all (·.oneCell') = true := by
 unfold inC pointC
 rw [List.all_append, List.all_append, all_u8L]
 rfl

set_option maxHeartbeats 4000000 in
theorem copyNested {S : Nat → Prop} {v : Value} {l : List (List UInt8)} (w : World) (hl : RL 1 RB w S [v] l) (hm : l.length ≤ 1000000000) (hz : ∀ b ∈ l, b.length ≤ 1000000000000) : Calls Tryz.prog 84 [v].toArray w (Ret (fun v w' => ∃ A c xs S2, v = .slice A l.length c ∧ l.length ≤ c ∧ c ≤ 9223372036854775807 ∧ St nT w w' [Fact.row 35 1 (.slice A l.length c) l.length xs, Fact.els RB 1 S2 xs l])) := by
 have hll := rl_len hl
 obtain ⟨A, c, xs, hv_, hcA_, hcmA_, hr, hel⟩ := hl
 obtain rfl : v = .slice A l.length c := by cases hv_; rfl
 refine k_enter (l := [_]) Tryz.func84 rfl rfl ?_
 have H := St.start nT w
 refine k_seq (k_region (sAs rfl rfl rfl rfl (l_nil (k_seq (k_region (sAs rfl rfl rfl rfl (l_nil (k_seq (k_seq (k_region ?_))))))))))
 refine sAi rfl rfl rfl rfl (l_nil (k_block (k_loop 3 [] (fun mm sl W => ∃ i : Nat, ∃ A2 : Option Addr, ∃ c2 : Nat, ∃ ys : List Value, ∃ S2 : Nat → Prop, l.length - i = mm ∧ sl = [(4, .int .i64 (i : Int)), (3, .slice A2 i c2)] ∧ (i ≤ l.length) ∧ (i ≤ c2 ∧ c2 ≤ 9223372036854775807) ∧ St nT w W [Fact.row 35 1 (.slice A2 i c2) i (ys), Fact.els RB 1 S2 ys (l.take i)]) _ _ ⟨0, none, 0, [], (fun _ => False), rfl, rfl, Nat.zero_le _, ⟨Nat.le_refl _, by omega⟩, ((H.els0 RB 1).nilrow 35 1)⟩ ⟨rfl, rfl, trivial⟩ (fun mm sl ρv W hJ => ?_))))
 clear H; obtain ⟨i, A2, c2, ys, S2, rfl, rfl, hi, hd, H⟩ := hJ
 refine k_one (k_seq (k_seq (k_region (sMi rfl rfl rfl rfl (sMs rfl rfl rfl rfl (sR rfl rfl (d_len rfl rfl tu32) (sR rfl rfl (d_lt rfl rfl rfl) (l_nil (k_cond rfl (fun hc8 => ?_) (fun hc8 => ?_))))))))))
 ·replace hc8 := of_decide_eq_true hc8
  have hlt : i < l.length := by omega
  obtain ⟨g0, o0, rfl, -⟩ := hr.2 (by omega)
  obtain ⟨b, hx⟩ := get_lt hlt
  obtain ⟨B, d, hL, hB⟩ := rb_of (hel i b hx)
  have hz1 := hz b (List.mem_of_getElem? hx)
  refine k_skip (k_seq (k_block (k_region (sMs rfl rfl rfl rfl (sMs rfl rfl rfl rfl (sMi rfl rfl rfl rfl (sR rfl rfl (d_iaG rfl (H.rd hr) rfl rfl (q := i) rfl hlt tu32 ts35) (sR rfl rfl (d_ldE (off := 0) rfl (H.rd hr) hlt hL rfl rfl rfl (by omega) ta35) (sC rfl rfl rfl Tryz.func10 rfl rfl rfl (copyBytes _ b _ (H.bs hB) hz1) ?_)))))))))
  rintro _ W ⟨A9, c9, rfl, hc9, hd9, hn⟩
  replace H := H.new hn
  clear hn
  replace H := H.torb rfl
  refine s_eff (e_bsl (xs := [.tmp 16]) (vals := [.slice _ _ _]) (vs := [.slice _ _ _]) (w_none rfl) rfl rfl rfl rfl rfl rfl tu32 ts35 ty35 rfl rfl rfl H ?_)
  clear H; intro g5_6 W H
  refine s_eff (e_app (w_none rfl) rfl rfl tu32 tx35 rfl rfl rfl H (rd_blk H.blk rfl) (rfl) (by omega) rfl ?_)
  clear H; intro A1 c1 W hc1 hd1 H
  replace H := H.drop
  refine sAs rfl rfl rfl rfl (l_nil ?_)
  replace H := (St.elsnoc (H.perm (.cons _ (.swap _ _ _))) rfl).perm (.swap _ _ _)
  refine k_nil (b_end (k_region (sMi rfl rfl rfl rfl (sR rfl rfl (d_add rfl rfl rfl (by omega)) (sAi rfl rfl rfl rfl (l_nil (k_nil (k_next ?_))))))))
  refine ⟨_, _, _, ?_, rfl, ?_, ?_, ⟨i + 1, A1, c1, _, _, rfl, rfl, by omega, ⟨hc1, hd1⟩, by rw [take_get hx]; exact H⟩⟩
  ·omega
  ·repeat (first | (with_reducible refine .updl _ .ovr ?_); exact rfl | (with_reducible refine .updl _ (.ovr2 ?_ ?_) ?_); rotate_left; exact rfl; exact rfl | (with_reducible refine .upd ?_ ?_); rotate_left; exact rfl)
  ·refine ⟨?_, ?_, trivial⟩
   ·exact vi (by omega)
   ·exact rfl
 ·replace hc8 := of_decide_eq_false hc8
  refine k_exit (x_then (x_then ?_))
  refine x_hit (k_seq ?_)
  obtain rfl : i = l.length := by omega
  rw [List.take_length] at H
  refine k_region (sMs rfl rfl rfl rfl (sAs rfl rfl rfl rfl (l_nil (k_ret ?_))))
  repeat (first | refine r_then ?_ | refine r_blk ?_)
  exact q_ret (v := .slice _ _ _) rfl rfl ⟨_, rfl, A2, c2, ys, S2, rfl, hd.1, hd.2, H⟩

set_option maxHeartbeats 4000000 in
theorem copyIns {S : Nat → Prop} {v : Value} {l : List DIn} (w : World) (hl : RL 34 RIn w S [v] l) (hm : l.length ≤ 1000000000) (h1 : ∀ x ∈ l, x.wit.length ≤ 1000000000 ∧ ∀ b ∈ x.wit, b.length ≤ 1000000000000) : Calls Tryz.prog 39 [v].toArray w (Ret (fun v w' => ∃ A c xs S2, v = .slice A l.length c ∧ l.length ≤ c ∧ c ≤ 9223372036854775807 ∧ St nT w w' [Fact.row 34 34 (.slice A l.length c) l.length xs, Fact.els RIn 34 S2 xs l])) := by
 have hll := rl_len hl
 obtain ⟨A, c, xs, hv_, hcA_, hcmA_, hr, hel⟩ := hl
 obtain rfl : v = .slice A l.length c := by cases hv_; rfl
 refine k_enter (l := [_]) Tryz.func39 rfl rfl ?_
 have H := St.start nT w
 refine k_seq (k_region (sAs rfl rfl rfl rfl (l_nil (k_seq (k_region (sAs rfl rfl rfl rfl (l_nil (k_seq (k_seq (k_region ?_))))))))))
 refine sAi rfl rfl rfl rfl (l_nil (k_block (k_loop 3 [] (fun mm sl W => ∃ i : Nat, ∃ A2 : Option Addr, ∃ c2 : Nat, ∃ ys : List Value, ∃ S2 : Nat → Prop, l.length - i = mm ∧ sl = [(4, .int .i64 (i : Int)), (3, .slice A2 i c2)] ∧ (i ≤ l.length) ∧ (i ≤ c2 ∧ c2 ≤ 9223372036854775807) ∧ St nT w W [Fact.row 34 34 (.slice A2 i c2) i (ys), Fact.els RIn 34 S2 ys (l.take i)]) _ _ ⟨0, none, 0, [], (fun _ => False), rfl, rfl, Nat.zero_le _, ⟨Nat.le_refl _, by omega⟩, ((H.els0 RIn 34).nilrow 34 34)⟩ ⟨rfl, rfl, trivial⟩ (fun mm sl ρv W hJ => ?_))))
 clear H; obtain ⟨i, A2, c2, ys, S2, rfl, rfl, hi, hd, H⟩ := hJ
 refine k_one (k_seq (k_seq (k_region (sMi rfl rfl rfl rfl (sMs rfl rfl rfl rfl (sR rfl rfl (d_len rfl rfl tu23) (sR rfl rfl (d_lt rfl rfl rfl) (l_nil (k_cond rfl (fun hc8 => ?_) (fun hc8 => ?_))))))))))
 ·replace hc8 := of_decide_eq_true hc8
  have hlt : i < l.length := by omega
  obtain ⟨g0, o0, rfl, -⟩ := hr.2 (by omega)
  obtain ⟨x, hx⟩ := get_lt hlt
  obtain ⟨B2, d2, hL, hW, hp, hn⟩ := in_of (hel i x hx)
  have hz1 := h1 x (List.mem_of_getElem? hx)
  refine k_skip (k_seq (k_block (k_draw [(0, true), (1, true), (2, true), (3, true), (4, true), (5, true), (6, true), (7, true), (8, true), (9, true), (10, true), (11, false), (12, true), (13, false), (14, false), (15, true)] [] (by kernel_rfl) (by kernel_rfl) H (List.nil_sublist _) ?_)))
  clear H; intro W H
  refine cR rfl rfl rfl (fun W H => mv_s rfl rfl) (cR rfl rfl rfl (fun W H => mv_s rfl rfl) (cR rfl rfl rfl (fun W H => mv_i rfl rfl) (cR rfl rfl rfl (fun W H => d_iaG rfl (H.rd hr) rfl rfl (q := i) rfl hlt tu23 ts34) (cR rfl rfl rfl (fun W H => d_fa rfl rfl tf34_0) (cR rfl rfl rfl (fun W H => d_ldEM (off := 0) rfl (H.rd hr) hlt hL (sub_in_p hp) rfl rfl (by omega) ta31 ts31) (cR rfl rfl rfl (fun W H => mv_s rfl rfl) (cR rfl rfl rfl (fun W H => mv_i rfl rfl) (cR rfl rfl rfl (fun W H => d_iaG rfl (H.rd hr) rfl rfl (q := i) rfl hlt tu23 ts34) (cR rfl rfl rfl (fun W H => d_fa rfl rfl tf34_1) (cR rfl rfl rfl (fun W H => d_ldE (off := 33) rfl (H.rd hr) hlt hL (sub_in_w hp) rfl rfl (by omega) ta32) ?_))))))))))
  refine c_eff rfl (e_call (w_none rfl) rfl rfl Tryz.func84 rfl rfl rfl (copyNested _ (keeps_L keeps_B _ _ _ _ _ hW (fun g hg _ => H.fr.block g hg (fun h => h))) hz1.1 hz1.2) ?_)
  rintro _ W ⟨A9, c9, xs9, S9, rfl, hc9, hd9, hn⟩
  replace H := H.addlist hn
  clear hn
  refine ⟨H.sub (by repeat (first | exact .refl _ | exact List.nil_sublist _ | refine .cons_cons _ ?_ | refine .cons _ ?_)), ?_⟩
  refine cR rfl rfl rfl (fun W H => d_build (vs := inC x.point A9 x.wit.length c9) rfl (built_fields (places := [(0, 33), (33, 1)]) tz34 (by kernel_rfl) (by kernel_rfl) (fill_next (vs := pointC x.point) (.agg (pointC x.point).toArray) rfl rfl rfl (len_point hp) (Nat.le_of_ble_eq_true rfl) (fill_next (vs := [.slice A9 x.wit.length c9]) (.slice A9 x.wit.length c9) rfl (by first | (simp [(len_point hp)]; done) | (simp [(len_point hp)]; omega)) rfl rfl (Nat.le_of_ble_eq_true rfl) (fill_end (by simp [inC])))))) ?_
  refine c_eff rfl (e_bsl (xs := [.tmp 23]) (vals := [.agg (inC x.point A9 x.wit.length c9).toArray]) (vs := (inC x.point A9 x.wit.length c9)) (w_none rfl) rfl rfl rfl rfl rfl rfl tu23 ts34 ty34 rfl (by simp [agg_cells, len_in hp]) (by simp [agg_cells]) H ?_)
  clear H; intro g5_13 W H
  refine ⟨H.sub (by repeat (first | exact .refl _ | exact List.nil_sublist _ | refine .cons_cons _ ?_ | refine .cons _ ?_)), ?_⟩
  refine c_eff rfl (e_app (w_none rfl) rfl rfl tu23 tx34 rfl rfl rfl H (rd_blk (m := 1) H.blk (len_in hp)) (in_one) (by omega) rfl ?_)
  clear H; intro A1 c1 W hc1 hd1 H
  replace H := H.drop
  refine ⟨H.sub (by repeat (first | exact .refl _ | exact List.nil_sublist _ | refine .cons_cons _ ?_ | refine .cons _ ?_)), ?_⟩
  refine cR rfl rfl rfl (fun W H => as_s rfl rfl) (c_nil ?_)
  replace H := H.rerep (R' := RIn) (cs' := inC x.point A9 x.wit.length c9) (b := x) (fun h => in_rep hp hn h)
  replace H := (St.elsnoc (H.perm (.cons _ (.swap _ _ _))) (len_in hp)).perm (.swap _ _ _)
  refine k_nil (b_end (k_region (sMi rfl rfl rfl rfl (sR rfl rfl (d_add rfl rfl rfl (by omega)) (sAi rfl rfl rfl rfl (l_nil (k_nil (k_next ?_))))))))
  refine ⟨_, _, _, ?_, rfl, ?_, ?_, ⟨i + 1, A1, c1, _, _, rfl, rfl, by omega, ⟨hc1, hd1⟩, by rw [take_get hx]; exact H⟩⟩
  ·omega
  ·repeat (first | (with_reducible refine .updl _ .ovr ?_); exact rfl | (with_reducible refine .updl _ (.ovr2 ?_ ?_) ?_); rotate_left; exact rfl; exact rfl | (with_reducible refine .upd ?_ ?_); rotate_left; exact rfl)
  ·refine ⟨?_, ?_, trivial⟩
   ·exact vi (by omega)
   ·exact rfl
 ·replace hc8 := of_decide_eq_false hc8
  refine k_exit (x_then (x_then ?_))
  refine x_hit (k_seq ?_)
  obtain rfl : i = l.length := by omega
  rw [List.take_length] at H
  refine k_region (sMs rfl rfl rfl rfl (sAs rfl rfl rfl rfl (l_nil (k_ret ?_))))
  repeat (first | refine r_then ?_ | refine r_blk ?_)
  exact q_ret (v := .slice _ _ _) rfl rfl ⟨_, rfl, A2, c2, ys, S2, rfl, hd.1, hd.2, H⟩

set_option maxHeartbeats 4000000 in
theorem copyOuts {S : Nat → Prop} {v : Value} {l : List DOut} (w : World) (hl : RL 2 ROut w S [v] l) (hm : l.length ≤ 1000000000) (h1 : ∀ x ∈ l, x.script.length ≤ 1000000000000) : Calls Tryz.prog 40 [v].toArray w (Ret (fun v w' => ∃ A c xs S2, v = .slice A l.length c ∧ l.length ≤ c ∧ c ≤ 9223372036854775807 ∧ St nT w w' [Fact.row 37 2 (.slice A l.length c) l.length xs, Fact.els ROut 2 S2 xs l])) := by
 have hll := rl_len hl
 obtain ⟨A, c, xs, hv_, hcA_, hcmA_, hr, hel⟩ := hl
 obtain rfl : v = .slice A l.length c := by cases hv_; rfl
 refine k_enter (l := [_]) Tryz.func40 rfl rfl ?_
 have H := St.start nT w
 refine k_seq (k_region (sAs rfl rfl rfl rfl (l_nil (k_seq (k_region (sAs rfl rfl rfl rfl (l_nil (k_seq (k_seq (k_region ?_))))))))))
 refine sAi rfl rfl rfl rfl (l_nil (k_block (k_loop 3 [] (fun mm sl W => ∃ i : Nat, ∃ A2 : Option Addr, ∃ c2 : Nat, ∃ ys : List Value, ∃ S2 : Nat → Prop, l.length - i = mm ∧ sl = [(4, .int .i64 (i : Int)), (3, .slice A2 i c2)] ∧ (i ≤ l.length) ∧ (i ≤ c2 ∧ c2 ≤ 9223372036854775807) ∧ St nT w W [Fact.row 37 2 (.slice A2 i c2) i (ys), Fact.els ROut 2 S2 ys (l.take i)]) _ _ ⟨0, none, 0, [], (fun _ => False), rfl, rfl, Nat.zero_le _, ⟨Nat.le_refl _, by omega⟩, ((H.els0 ROut 2).nilrow 37 2)⟩ ⟨rfl, rfl, trivial⟩ (fun mm sl ρv W hJ => ?_))))
 clear H; obtain ⟨i, A2, c2, ys, S2, rfl, rfl, hi, hd, H⟩ := hJ
 refine k_one (k_seq (k_seq (k_region (sMi rfl rfl rfl rfl (sMs rfl rfl rfl rfl (sR rfl rfl (d_len rfl rfl tu24) (sR rfl rfl (d_lt rfl rfl rfl) (l_nil (k_cond rfl (fun hc8 => ?_) (fun hc8 => ?_))))))))))
 ·replace hc8 := of_decide_eq_true hc8
  have hlt : i < l.length := by omega
  obtain ⟨g0, o0, rfl, -⟩ := hr.2 (by omega)
  obtain ⟨x, hx⟩ := get_lt hlt
  obtain ⟨B2, d2, hL, hB, hn⟩ := out_of (hel i x hx)
  have hz1 := h1 x (List.mem_of_getElem? hx)
  refine k_skip (k_seq (k_block (k_draw [(0, true), (1, true), (2, true), (3, true), (4, true), (5, true), (6, true), (7, true), (8, true), (9, true), (10, true), (11, false), (12, true), (13, false), (14, false), (15, true)] [] (by kernel_rfl) (by kernel_rfl) H (List.nil_sublist _) ?_)))
  clear H; intro W H
  refine cR rfl rfl rfl (fun W H => mv_s rfl rfl) (cR rfl rfl rfl (fun W H => mv_s rfl rfl) (cR rfl rfl rfl (fun W H => mv_i rfl rfl) (cR rfl rfl rfl (fun W H => d_iaG rfl (H.rd hr) rfl rfl (q := i) rfl hlt tu24 ts37) (cR rfl rfl rfl (fun W H => d_fa rfl rfl tf37_0) (cR rfl rfl rfl (fun W H => d_ldE (off := 0) rfl (H.rd hr) hlt hL rfl rfl rfl (by omega) ta3) (cR rfl rfl rfl (fun W H => mv_s rfl rfl) (cR rfl rfl rfl (fun W H => mv_i rfl rfl) (cR rfl rfl rfl (fun W H => d_iaG rfl (H.rd hr) rfl rfl (q := i) rfl hlt tu24 ts37) (cR rfl rfl rfl (fun W H => d_fa rfl rfl tf37_1) (cR rfl rfl rfl (fun W H => d_ldE (off := 1) rfl (H.rd hr) hlt hL rfl rfl rfl (by omega) ta35) ?_))))))))))
  refine c_eff rfl (e_call (w_none rfl) rfl rfl Tryz.func10 rfl rfl rfl (copyBytes _ x.script _ (H.bs hB) hz1) ?_)
  rintro _ W ⟨A9, c9, rfl, hc9, hd9, hn⟩
  replace H := H.new hn
  clear hn
  replace H := H.torb rfl
  refine ⟨H.sub (by repeat (first | exact .refl _ | exact List.nil_sublist _ | refine .cons_cons _ ?_ | refine .cons _ ?_)), ?_⟩
  refine cR rfl rfl rfl (fun W H => d_build (vs := outC x.value A9 x.script.length c9) rfl (built_fields (places := [(0, 1), (1, 1)]) tz37 (by kernel_rfl) (by kernel_rfl) (fill_next (vs := [.int .i64 x.value]) (.int .i64 x.value) rfl rfl rfl rfl (Nat.le_of_ble_eq_true rfl) (fill_next (vs := [.slice A9 x.script.length c9]) (.slice A9 x.script.length c9) rfl (by rfl) rfl rfl (Nat.le_of_ble_eq_true rfl) (fill_end (by simp [outC])))))) ?_
  refine c_eff rfl (e_bsl (xs := [.tmp 23]) (vals := [.agg (outC x.value A9 x.script.length c9).toArray]) (vs := (outC x.value A9 x.script.length c9)) (w_none rfl) rfl rfl rfl rfl rfl rfl tu24 ts37 ty37 rfl (by simp [agg_cells, outC]) (by simp [agg_cells]) H ?_)
  clear H; intro g5_13 W H
  refine ⟨H.sub (by repeat (first | exact .refl _ | exact List.nil_sublist _ | refine .cons_cons _ ?_ | refine .cons _ ?_)), ?_⟩
  refine c_eff rfl (e_app (w_none rfl) rfl rfl tu24 tx37 rfl rfl rfl H (rd_blk (m := 1) H.blk rfl) (rfl) (by omega) rfl ?_)
  clear H; intro A1 c1 W hc1 hd1 H
  replace H := H.drop
  refine ⟨H.sub (by repeat (first | exact .refl _ | exact List.nil_sublist _ | refine .cons_cons _ ?_ | refine .cons _ ?_)), ?_⟩
  refine cR rfl rfl rfl (fun W H => as_s rfl rfl) (c_nil ?_)
  replace H := H.rerep (R' := ROut) (cs' := outC x.value A9 x.script.length c9) (b := x) (fun h => by obtain ⟨v, e, hb⟩ := h; cases e; exact out_rep hn hb)
  replace H := (St.elsnoc (H.perm (.cons _ (.swap _ _ _))) rfl).perm (.swap _ _ _)
  refine k_nil (b_end (k_region (sMi rfl rfl rfl rfl (sR rfl rfl (d_add rfl rfl rfl (by omega)) (sAi rfl rfl rfl rfl (l_nil (k_nil (k_next ?_))))))))
  refine ⟨_, _, _, ?_, rfl, ?_, ?_, ⟨i + 1, A1, c1, _, _, rfl, rfl, by omega, ⟨hc1, hd1⟩, by rw [take_get hx]; exact H⟩⟩
  ·omega
  ·repeat (first | (with_reducible refine .updl _ .ovr ?_); exact rfl | (with_reducible refine .updl _ (.ovr2 ?_ ?_) ?_); rotate_left; exact rfl; exact rfl | (with_reducible refine .upd ?_ ?_); rotate_left; exact rfl)
  ·refine ⟨?_, ?_, trivial⟩
   ·exact vi (by omega)
   ·exact rfl
 ·replace hc8 := of_decide_eq_false hc8
  refine k_exit (x_then (x_then ?_))
  refine x_hit (k_seq ?_)
  obtain rfl : i = l.length := by omega
  rw [List.take_length] at H
  refine k_region (sMs rfl rfl rfl rfl (sAs rfl rfl rfl rfl (l_nil (k_ret ?_))))
  repeat (first | refine r_then ?_ | refine r_blk ?_)
  exact q_ret (v := .slice _ _ _) rfl rfl ⟨_, rfl, A2, c2, ys, S2, rfl, hd.1, hd.2, H⟩

/-- A new transaction, its rows apart from what they lead to. -/
def NewTx (w : World) (t : DTx) (v : Value) (w' : World) : Prop := ∃ A c B d xs ys S0 S1, v = .agg (txC A t.ins.length c B t.outs.length d t.lock).toArray ∧ (t.ins.length ≤ c ∧ c ≤ 9223372036854775807) ∧ (t.outs.length ≤ d ∧ d ≤ 9223372036854775807) ∧ St nT w w' [Fact.row 34 34 (.slice A t.ins.length c) t.ins.length xs, Fact.els RIn 34 S0 xs t.ins, Fact.row 37 2 (.slice B t.outs.length d) t.outs.length ys, Fact.els ROut 2 S1 ys t.outs]
structure Tx.Fits (t : DTx) : Prop where
 ins : t.ins.length ≤ 1000000000
 outs : t.outs.length ≤ 1000000000
 wit : ∀ x ∈ t.ins, x.wit.length ≤ 1000000000 ∧ ∀ b ∈ x.wit, b.length ≤ 1000000000000
 scr : ∀ o ∈ t.outs, o.script.length ≤ 1000000000000
theorem Tx.fits {rows bytes : Nat} {t : DTx} (h : Tx.Small rows bytes t) (h1 : rows ≤ 1000000000) (h2 : bytes ≤ 1000000000) : Tx.Fits t :=
 ⟨by have := h.ins; omega, by have := h.outs; omega, fun x hx => ⟨by have := (h.wit x hx).1; omega, fun b hb => by have := (h.wit x hx).2 b hb; omega⟩, fun o ho => by have := h.scr o ho; omega⟩
theorem NewTx.rep {w W W' : World} {T : Nat → Prop} {L : List Fact} {t : DTx} {v : Value} (h : NewTx W t v W') (H : St T w W L) (hk : I64 t.lock) : ∃ S A c B d, v = .agg (txC A t.ins.length c B t.outs.length d t.lock).toArray ∧ St T w W' (Fact.rep RTx S (txC A t.ins.length c B t.outs.length d t.lock) t :: L) := by
 obtain ⟨A, c, B, d, xs, ys, S0, S1, rfl, _, _, hn⟩ := h
 have H4 := H.add4 hn
 have H3 := (H4.tolist.perm (.trans (.swap _ _ _) (.cons _ (.swap _ _ _)))).tolist.perm (.swap _ _ _)
 exact ⟨_, A, c, B, d, rfl, St.join H3 (fun S2 h1 h2 => tx_rep h1 h2 hk)⟩

set_option maxHeartbeats 4000000 in
theorem copyTx {S : Nat → Prop} {cs : List Value} {t : DTx} (w : World) (ht : RTx w S cs t) (hf : Tx.Fits t) : Calls Tryz.prog 15 [.agg cs.toArray].toArray w (Ret (NewTx w t)) := by
 obtain ⟨A, c, B, d, rfl, hI, hO, hk⟩ := tx_of ht
 refine k_enter (l := [_]) Tryz.func15 rfl rfl ?_
 have H := St.start nT w
 refine k_seq (k_region (s_eff (e_box (vs := (txC A t.ins.length c B t.outs.length d t.lock)) (w_none rfl) rfl rfl rfl rfl H ?_)))
 clear H; intro gm W H
 refine s_eff (e_alloc (w_none rfl) rfl rfl [.slice none 0 0, .slice none 0 0, .int .i64 0] tz26 H ?_)
 clear H; intro go W H
 refine l_nil (k_seq (k_draw [(0, true), (1, true), (3, true), (4, true), (6, true), (7, true), (2, false), (5, false), (8, true), (9, false)] [Fact.blk gm (txC A t.ins.length c B t.outs.length d t.lock) 26] (by kernel_rfl) (by kernel_rfl) H (.cons _ (.refl _)) ?_))
 clear H; intro W H
 refine cR rfl rfl rfl (fun W H => d_fa rfl rfl tf26_0) (cR rfl rfl rfl (fun W H => d_ld rfl H rfl ta23 rfl) (cR rfl rfl rfl (fun W H => d_fa rfl rfl tf26_1) (cR rfl rfl rfl (fun W H => d_ld rfl H rfl ta24 rfl) (cR rfl rfl rfl (fun W H => d_fa rfl rfl tf26_2) (cR rfl rfl rfl (fun W H => d_ld rfl H rfl ta3 rfl) (c_eff rfl (e_call (w_none rfl) rfl rfl Tryz.func39 rfl rfl rfl (copyIns _ (keeps_L keeps_In _ _ _ _ _ hI (fun g hg _ => H.fr.block g hg (fun h => h))) hf.ins hf.wit) ?_)))))))
 rintro _ W ⟨A1, c1, xs1, S1, rfl, hc1, hd1, hn⟩
 replace H := H.add2 hn
 clear hn
 refine ⟨H.sub (by repeat (first | exact .refl _ | exact List.nil_sublist _ | refine .cons_cons _ ?_ | refine .cons _ ?_)), ?_⟩
 refine c_eff rfl (e_call (w_none rfl) rfl rfl Tryz.func40 rfl rfl rfl (copyOuts _ (keeps_L keeps_Out _ _ _ _ _ hO (fun g hg _ => H.fr.block g hg (fun h => h))) hf.outs hf.scr) ?_)
 rintro _ W ⟨A2, c2, xs2, S2, rfl, hc2, hd2, hn⟩
 replace H := H.add2 hn
 clear hn
 refine ⟨H.sub (by repeat (first | exact .refl _ | exact List.nil_sublist _ | refine .cons_cons _ ?_ | refine .cons _ ?_)), ?_⟩
 refine cR rfl rfl rfl (fun W H => d_build (vs := txC A1 t.ins.length c1 A2 t.outs.length c2 t.lock) rfl (built_fields (places := [(0, 1), (1, 1), (2, 1)]) tz26 (by kernel_rfl) (by kernel_rfl) (fill_next (vs := [.slice A1 t.ins.length c1]) (.slice A1 t.ins.length c1) rfl rfl rfl rfl (Nat.le_of_ble_eq_true rfl) (fill_next (vs := [.slice A2 t.outs.length c2]) (.slice A2 t.outs.length c2) rfl (by rfl) rfl rfl (Nat.le_of_ble_eq_true rfl) (fill_next (vs := [.int .i64 t.lock]) (.int .i64 t.lock) rfl (by rfl) rfl rfl (Nat.le_of_ble_eq_true rfl) (fill_end (by simp [txC]))))))) ?_
 refine c_eff rfl (e_sto (w_none rfl) rfl rfl rfl rfl rfl ts26 rfl H rfl ?_)
 clear H; intro W H
 refine ⟨H.sub (by repeat (first | exact .refl _ | exact List.nil_sublist _ | refine .cons_cons _ ?_ | refine .cons _ ?_)), ?_⟩
 refine c_nil (k_ret ?_)
 repeat (first | refine r_then ?_ | refine r_blk ?_)
 refine q_retc rfl (c := txC A1 t.ins.length c1 A2 t.outs.length c2 t.lock) (g := go) H rfl ta26 ts26 ⟨_, rfl, A1, c1, A2, c2, xs1, xs2, S1, S2, rfl, ⟨hc1, hd1⟩, ⟨hc2, hd2⟩, ?_⟩
 exact (H.sub (L' := [_, _, _, _]) (by repeat (first | exact .refl _ | exact List.nil_sublist _ | refine .cons_cons _ ?_ | refine .cons _ ?_))).perm (List.perm_append_comm (l₁ := [_, _]) (l₂ := [_, _]))
end Go.Proofs.YteakkflhndifbaaGreatDoor

namespace Go.Proofs.YteakkflhndifbaaGreatDoor
open Go Go.RowKit
attribute [local irreducible] wpList

def zPt : DPoint := ⟨List.replicate 32 0, 0⟩
theorem tzIn : ((Tryz.prog.info? 34).bind (·.zero)).map (·.cells) = some (inC zPt none 0 0).toArray := by kernel_rfl
theorem within {n a b : Int} (w : World) : Calls Tryz.prog 52 [.int .i64 n, .int .i64 a, .int .i64 b].toArray w (Ret (Is w (.bool (decide (a ≤ n ∧ n ≤ b))))) := by
 refine k_enter (l := [_, _, _]) Tryz.func52 rfl rfl ?_
 have H := St.start nT w
 refine k_seq (k_region (sAb rfl rfl rfl rfl (l_nil (k_seq ?_))))
 rcases Int.lt_or_le n a with h1 | h1
 ·skip
  refine k_region (sMi rfl rfl rfl rfl (sMi rfl rfl rfl rfl (sR rfl rfl (d_ge rfl rfl rfl) (sR rfl rfl (mv_bx (c := false) rfl rfl (by simp; omega)) (s_skip (w_gno rfl rfl rfl rfl rfl) rfl (s_skip (w_gno rfl rfl rfl rfl rfl) rfl (s_skip (w_gno rfl rfl rfl rfl rfl) rfl (sR rfl rfl (d_pickF rfl rfl rfl) (sAb rfl rfl rfl rfl (l_nil ?_))))))))))
  refine k_ret ?_
  repeat (first | refine r_then ?_ | refine r_blk ?_)
  exact q_ret (v := .bool _) rfl rfl ⟨_, rfl, vb (by simp; omega), H.under⟩
 ·skip
  refine k_region (sMi rfl rfl rfl rfl (sMi rfl rfl rfl rfl (sR rfl rfl (d_ge rfl rfl rfl) (sR rfl rfl (mv_bx (c := true) rfl rfl (by simp; omega)) (s_run (w_g rfl rfl rfl rfl) rfl (mv_i rfl rfl) (s_run (w_g rfl rfl rfl rfl) rfl (mv_i rfl rfl) (s_run (w_g rfl rfl rfl rfl) rfl (d_le rfl rfl rfl) (sR rfl rfl (d_pickT rfl rfl rfl) (sAb rfl rfl rfl rfl (l_nil ?_))))))))))
  refine k_ret ?_
  repeat (first | refine r_then ?_ | refine r_blk ?_)
  exact q_ret (v := .bool _) rfl rfl ⟨_, rfl, vb (by simp; omega), H.under⟩

theorem farF {p : DPoint} {A : Option Addr} {m c : Nat} {ws : List (List UInt8)} (w : World) (hp : p.tx.length = 32) : Calls Tryz.prog 51 [.agg (inC p A m c).toArray].toArray w (Ret (Is w (.bool (Tx.far ⟨p, ws⟩)))) := by
 refine k_enter (l := [_]) Tryz.func51 rfl rfl ?_
 have H := St.start nT w
 refine k_seq (k_region (s_eff (e_box (vs := (inC p A m c)) (w_none rfl) rfl rfl rfl rfl H ?_)))
 clear H; intro gx W H
 refine sAb rfl rfl rfl rfl (l_nil (k_seq (k_region (sR rfl rfl (d_fa rfl rfl tf34_0) (sR rfl rfl (d_fa rfl rfl tf31_1) (sR rfl rfl (d_ldX (g := gx) (off := 32) rfl H (sub_in_n hp) rfl rfl ta3) (sC rfl rfl rfl Tryz.func52 rfl rfl rfl (within _) ?_)))))))
 rintro _ W ⟨rfl, hb⟩
 replace H := H.below hb
 clear hb
 refine sR rfl rfl (d_not rfl rfl) (sAb rfl rfl rfl rfl (l_nil (k_ret ?_)))
 repeat (first | refine r_then ?_ | refine r_blk ?_)
 exact q_ret (v := .bool _) rfl rfl ⟨_, rfl, vb (Bool.eq_iff_iff.2 (by unfold Tx.far; simp <;> omega)), H.under⟩

theorem itemF {A : Option Addr} {c : Nat} {b : List UInt8} (w : World) : Calls Tryz.prog 53 [.slice A b.length c].toArray w (Ret (Is w (.bool (decide (64 < b.length))))) := by
 refine k_enter (l := [_]) Tryz.func53 rfl rfl ?_
 have H := St.start nT w
 refine k_seq (k_region (sAb rfl rfl rfl rfl (l_nil (k_seq (k_region (sMs rfl rfl rfl rfl (sR rfl rfl (d_len rfl rfl tu35) (sR rfl rfl (d_gt rfl rfl rfl) (sAb rfl rfl rfl rfl (l_nil ?_))))))))))
 refine k_ret ?_
 repeat (first | refine r_then ?_ | refine r_blk ?_)
 exact q_ret (v := .bool _) rfl rfl ⟨_, rfl, vb (by simp; omega), H.under⟩

theorem scriptF {A : Option Addr} {c : Nat} {o : DOut} (w : World) : Calls Tryz.prog 56 [.agg (outC o.value A o.script.length c).toArray].toArray w (Ret (Is w (.bool (decide (256 < o.script.length))))) := by
 refine k_enter (l := [_]) Tryz.func56 rfl rfl ?_
 have H := St.start nT w
 refine k_seq (k_region (s_eff (e_box (vs := (outC o.value A o.script.length c)) (w_none rfl) rfl rfl rfl rfl H ?_)))
 clear H; intro gx W H
 refine sAb rfl rfl rfl rfl (l_nil (k_seq (k_region (sR rfl rfl (d_fa rfl rfl tf37_1) (sR rfl rfl (d_ld rfl H rfl ta35 rfl) (sR rfl rfl (d_len rfl rfl tu35) (sR rfl rfl (d_gt rfl rfl rfl) (sAb rfl rfl rfl rfl (l_nil (k_ret ?_))))))))))
 repeat (first | refine r_then ?_ | refine r_blk ?_)
 exact q_ret (v := .bool _) rfl rfl ⟨_, rfl, vb (by simp; omega), H.under⟩

theorem any_no {α : Type} {f : α → Bool} {l : List α} {i : Nat} {x : α} (hx : l[i]? = some x) (h : (l.take i).any f = false) (hb : f x = false) : (l.take (i + 1)).any f = false := by
 rw [take_get hx, List.any_append, h]; simp [hb]
theorem any_yes {α : Type} {f : α → Bool} {l : List α} {i : Nat} {x : α} (hx : l[i]? = some x) (hb : f x = true) : l.any f = true := List.any_eq_true.2 ⟨x, List.mem_of_getElem? hx, hb⟩

theorem idxItem {S : Nat → Prop} {v : Value} {l : List (List UInt8)} (w : World) (hl : RL 1 RB w S [v] l) : Calls Tryz.prog 90 [v, .func (.func 53) #[] #[]].toArray w (Ret (fun v' w' => ∃ z : Int, v' = .int .i64 z ∧ decide (0 ≤ z) = l.any (fun b => decide (64 < b.length)) ∧ Below w.heap.size w w')) := by
 have hll := rl_len hl
 obtain ⟨A, c, xs, hv_, hcA_, hcmA_, hr, hel⟩ := hl
 obtain rfl : v = .slice A l.length c := by cases hv_; rfl
 refine k_enter (l := [_, _]) Tryz.func90 rfl rfl ?_
 have H := St.start nT w
 refine k_seq (k_region (sAi rfl rfl rfl rfl (l_nil (k_seq (k_seq (k_region (sMs rfl rfl rfl rfl (sR rfl rfl (d_len rfl rfl tu32) (sMi rfl rfl rfl rfl (l_nil ?_))))))))))
 refine k_block (k_loop 8 [4, 5] (fun mm sl W => ∃ i : Nat, l.length - i = mm ∧ sl = [(8, .int .i64 (i : Int))] ∧ (i ≤ l.length) ∧ ((l.take i).any (fun b => decide (64 < b.length)) = false) ∧ St nT w W []) _ _ ⟨0, rfl, rfl, Nat.zero_le _, rfl, H⟩ ⟨rfl, trivial⟩ (fun mm sl ρv W hJ => ?_))
 clear H; obtain ⟨i, rfl, rfl, hi, hno, H⟩ := hJ
 refine k_one (k_seq (k_region (sR rfl rfl (d_lt rfl rfl rfl) (l_nil (k_seq (k_cond rfl (fun hc9 => ?_) (fun hc9 => ?_)))))))
 ·replace hc9 := of_decide_eq_true hc9
  have hlt : i < l.length := by omega
  obtain ⟨g0, o0, rfl, -⟩ := hr.2 (by omega)
  obtain ⟨b, hx⟩ := get_lt hlt
  obtain ⟨B, d, hL, hB⟩ := rb_of (hel i b hx)
  refine k_skip (k_seq (k_block (k_seq (k_region (sMi rfl rfl rfl rfl (sAi rfl rfl rfl rfl (l_nil (k_seq (k_region (sR rfl rfl (mv_f rfl rfl) ?_))))))))))
  refine sMs rfl rfl rfl rfl (sMi rfl rfl rfl rfl (sR rfl rfl (d_iaG rfl (H.rd hr) rfl rfl (q := i) rfl hlt tu32 ts35) (sR rfl rfl (d_ldE (off := 0) rfl (H.rd hr) hlt hL rfl rfl rfl (by omega) ta35) (s_eff (e_callv (w_none rfl) rfl rfl rfl Tryz.func53 rfl rfl rfl (itemF _) ?_)))))
  rintro _ W ⟨rfl, hb⟩
  replace H := H.below hb
  clear hb
  refine l_nil (k_cond rfl (fun hc16 => ?_) (fun hc16 => ?_))
  ·skip
   refine k_seq (k_region (sMi rfl rfl rfl rfl (sAi rfl rfl rfl rfl (l_nil (k_ret ?_)))))
   repeat (first | refine r_then ?_ | refine r_blk ?_)
   exact q_ret (v := .int _ _) rfl rfl ⟨_, rfl, _, rfl, by rw [any_yes hx hc16]; simp, H.under⟩
  ·skip
   refine k_skip (k_nil (b_end (k_region (sR rfl rfl (d_add rfl rfl rfl (by omega)) (sMi rfl rfl rfl rfl (l_nil (k_nil (k_next ?_))))))))
   refine ⟨_, _, _, ?_, rfl, ?_, ?_, ⟨i + 1, rfl, rfl, by omega, any_no hx hno hc16, H⟩⟩
   ·omega
   ·repeat (first | (with_reducible refine .updl _ .ovr ?_); exact rfl | (with_reducible refine .updl _ (.ovr2 ?_ ?_) ?_); rotate_left; exact rfl; exact rfl | (with_reducible refine .upd ?_ ?_); rotate_left; exact rfl)
   ·refine ⟨?_, trivial⟩
    ·exact vi (by omega)
 ·replace hc9 := of_decide_eq_false hc9
  refine k_exit (x_then (x_then ?_))
  refine x_hit (k_seq ?_)
  obtain rfl : i = l.length := by omega
  rw [List.take_length] at hno
  refine k_region (sAi rfl rfl rfl rfl (l_nil (k_ret ?_)))
  repeat (first | refine r_then ?_ | refine r_blk ?_)
  exact q_ret (v := .int _ _) rfl rfl ⟨_, rfl, _, rfl, by rw [hno]; rfl, H.under⟩

theorem hasItem {S : Nat → Prop} {v : Value} {l : List (List UInt8)} (w : World) (hl : RL 1 RB w S [v] l) : Calls Tryz.prog 55 [v, .func (.func 53) #[] #[]].toArray w (Ret (Is w (.bool (l.any (fun b => decide (64 < b.length)))))) := by
 have hl0 := hl
 obtain ⟨A, c, xs, hv_, hcA_, hcmA_, hr, hel⟩ := hl
 obtain rfl : v = .slice A l.length c := by cases hv_; rfl
 refine k_enter (l := [_, _]) Tryz.func55 rfl rfl ?_
 have H := St.start nT w
 refine k_seq (k_region (sAb rfl rfl rfl rfl (l_nil (k_seq (k_region (sMs rfl rfl rfl rfl (sR rfl rfl (mv_f rfl rfl) (sC rfl rfl rfl Tryz.func90 rfl rfl rfl (idxItem _ (keeps_L keeps_B _ _ _ _ _ hl0 (fun g hg _ => H.fr.block g hg (fun h => h)))) ?_))))))))
 rintro _ W ⟨z, rfl, hz, hb⟩
 replace H := H.below hb
 clear hb
 refine sR rfl rfl (d_ge rfl rfl rfl) (sAb rfl rfl rfl rfl (l_nil (k_ret ?_)))
 repeat (first | refine r_then ?_ | refine r_blk ?_)
 exact q_ret (v := .bool _) rfl rfl ⟨_, rfl, vb (hz), H.under⟩

theorem idxFar {S : Nat → Prop} {v : Value} {l : List DIn} (w : World) (hl : RL 34 RIn w S [v] l) : Calls Tryz.prog 91 [v, .func (.func 51) #[] #[]].toArray w (Ret (fun v' w' => ∃ z : Int, v' = .int .i64 z ∧ decide (0 ≤ z) = l.any Tx.far ∧ Below w.heap.size w w')) := by
 have hll := rl_len hl
 obtain ⟨A, c, xs, hv_, hcA_, hcmA_, hr, hel⟩ := hl
 obtain rfl : v = .slice A l.length c := by cases hv_; rfl
 refine k_enter (l := [_, _]) Tryz.func91 rfl rfl ?_
 have H := St.start nT w
 refine k_seq (k_region (sAi rfl rfl rfl rfl (l_nil (k_seq (k_seq (k_region (sMs rfl rfl rfl rfl (sR rfl rfl (d_len rfl rfl tu23) (sMi rfl rfl rfl rfl (l_nil ?_))))))))))
 refine k_block (k_loop 8 [4, 5] (fun mm sl W => ∃ i : Nat, l.length - i = mm ∧ sl = [(8, .int .i64 (i : Int))] ∧ (i ≤ l.length) ∧ ((l.take i).any Tx.far = false) ∧ St nT w W []) _ _ ⟨0, rfl, rfl, Nat.zero_le _, rfl, H⟩ ⟨rfl, trivial⟩ (fun mm sl ρv W hJ => ?_))
 clear H; obtain ⟨i, rfl, rfl, hi, hno, H⟩ := hJ
 refine k_one (k_seq (k_region (sR rfl rfl (d_lt rfl rfl rfl) (l_nil (k_seq (k_cond rfl (fun hc9 => ?_) (fun hc9 => ?_)))))))
 ·replace hc9 := of_decide_eq_true hc9
  have hlt : i < l.length := by omega
  obtain ⟨g0, o0, rfl, -⟩ := hr.2 (by omega)
  obtain ⟨x, hx⟩ := get_lt hlt
  obtain ⟨B2, d2, hL, hW, hp, hn⟩ := in_of (hel i x hx)
  refine k_skip (k_seq (k_block (k_seq (k_region (sMi rfl rfl rfl rfl (sAi rfl rfl rfl rfl (l_nil (k_seq (k_region (sR rfl rfl (mv_f rfl rfl) ?_))))))))))
  refine sMs rfl rfl rfl rfl (sMi rfl rfl rfl rfl (sR rfl rfl (d_iaG rfl (H.rd hr) rfl rfl (q := i) rfl hlt tu23 ts34) (sR rfl rfl (d_ldEM (off := 0) rfl (H.rd hr) hlt hL (sub_all (len_in hp)) rfl rfl (by omega) ta34 ts34) (s_eff (e_callv (w_none rfl) rfl rfl rfl Tryz.func51 rfl rfl rfl (farF (ws := x.wit) _ hp) ?_)))))
  rintro _ W ⟨rfl, hb⟩
  replace H := H.below hb
  clear hb
  refine l_nil (k_cond rfl (fun hc16 => ?_) (fun hc16 => ?_))
  ·skip
   refine k_seq (k_region (sMi rfl rfl rfl rfl (sAi rfl rfl rfl rfl (l_nil (k_ret ?_)))))
   repeat (first | refine r_then ?_ | refine r_blk ?_)
   exact q_ret (v := .int _ _) rfl rfl ⟨_, rfl, _, rfl, by rw [any_yes hx hc16]; simp, H.under⟩
  ·skip
   refine k_skip (k_nil (b_end (k_region (sR rfl rfl (d_add rfl rfl rfl (by omega)) (sMi rfl rfl rfl rfl (l_nil (k_nil (k_next ?_))))))))
   refine ⟨_, _, _, ?_, rfl, ?_, ?_, ⟨i + 1, rfl, rfl, by omega, any_no hx hno hc16, H⟩⟩
   ·omega
   ·repeat (first | (with_reducible refine .updl _ .ovr ?_); exact rfl | (with_reducible refine .updl _ (.ovr2 ?_ ?_) ?_); rotate_left; exact rfl; exact rfl | (with_reducible refine .upd ?_ ?_); rotate_left; exact rfl)
   ·refine ⟨?_, trivial⟩
    ·exact vi (by omega)
 ·replace hc9 := of_decide_eq_false hc9
  refine k_exit (x_then (x_then ?_))
  refine x_hit (k_seq ?_)
  obtain rfl : i = l.length := by omega
  rw [List.take_length] at hno
  refine k_region (sAi rfl rfl rfl rfl (l_nil (k_ret ?_)))
  repeat (first | refine r_then ?_ | refine r_blk ?_)
  exact q_ret (v := .int _ _) rfl rfl ⟨_, rfl, _, rfl, by rw [hno]; rfl, H.under⟩

theorem hasFar {S : Nat → Prop} {v : Value} {l : List DIn} (w : World) (hl : RL 34 RIn w S [v] l) : Calls Tryz.prog 57 [v, .func (.func 51) #[] #[]].toArray w (Ret (Is w (.bool (l.any Tx.far)))) := by
 have hl0 := hl
 obtain ⟨A, c, xs, hv_, hcA_, hcmA_, hr, hel⟩ := hl
 obtain rfl : v = .slice A l.length c := by cases hv_; rfl
 refine k_enter (l := [_, _]) Tryz.func57 rfl rfl ?_
 have H := St.start nT w
 refine k_seq (k_region (sAb rfl rfl rfl rfl (l_nil (k_seq (k_region (sMs rfl rfl rfl rfl (sR rfl rfl (mv_f rfl rfl) (sC rfl rfl rfl Tryz.func91 rfl rfl rfl (idxFar _ (keeps_L keeps_In _ _ _ _ _ hl0 (fun g hg _ => H.fr.block g hg (fun h => h)))) ?_))))))))
 rintro _ W ⟨z, rfl, hz, hb⟩
 replace H := H.below hb
 clear hb
 refine sR rfl rfl (d_ge rfl rfl rfl) (sAb rfl rfl rfl rfl (l_nil (k_ret ?_)))
 repeat (first | refine r_then ?_ | refine r_blk ?_)
 exact q_ret (v := .bool _) rfl rfl ⟨_, rfl, vb (hz), H.under⟩

theorem idxScript {S : Nat → Prop} {v : Value} {l : List DOut} (w : World) (hl : RL 2 ROut w S [v] l) : Calls Tryz.prog 92 [v, .func (.func 56) #[] #[]].toArray w (Ret (fun v' w' => ∃ z : Int, v' = .int .i64 z ∧ decide (0 ≤ z) = l.any (fun o => decide (256 < o.script.length)) ∧ Below w.heap.size w w')) := by
 have hll := rl_len hl
 obtain ⟨A, c, xs, hv_, hcA_, hcmA_, hr, hel⟩ := hl
 obtain rfl : v = .slice A l.length c := by cases hv_; rfl
 refine k_enter (l := [_, _]) Tryz.func92 rfl rfl ?_
 have H := St.start nT w
 refine k_seq (k_region (sAi rfl rfl rfl rfl (l_nil (k_seq (k_seq (k_region (sMs rfl rfl rfl rfl (sR rfl rfl (d_len rfl rfl tu24) (sMi rfl rfl rfl rfl (l_nil ?_))))))))))
 refine k_block (k_loop 8 [4, 5] (fun mm sl W => ∃ i : Nat, l.length - i = mm ∧ sl = [(8, .int .i64 (i : Int))] ∧ (i ≤ l.length) ∧ ((l.take i).any (fun o => decide (256 < o.script.length)) = false) ∧ St nT w W []) _ _ ⟨0, rfl, rfl, Nat.zero_le _, rfl, H⟩ ⟨rfl, trivial⟩ (fun mm sl ρv W hJ => ?_))
 clear H; obtain ⟨i, rfl, rfl, hi, hno, H⟩ := hJ
 refine k_one (k_seq (k_region (sR rfl rfl (d_lt rfl rfl rfl) (l_nil (k_seq (k_cond rfl (fun hc9 => ?_) (fun hc9 => ?_)))))))
 ·replace hc9 := of_decide_eq_true hc9
  have hlt : i < l.length := by omega
  obtain ⟨g0, o0, rfl, -⟩ := hr.2 (by omega)
  obtain ⟨x, hx⟩ := get_lt hlt
  obtain ⟨B2, d2, hL, hB, hn⟩ := out_of (hel i x hx)
  refine k_skip (k_seq (k_block (k_seq (k_region (sMi rfl rfl rfl rfl (sAi rfl rfl rfl rfl (l_nil (k_seq (k_region (sR rfl rfl (mv_f rfl rfl) ?_))))))))))
  refine sMs rfl rfl rfl rfl (sMi rfl rfl rfl rfl (sR rfl rfl (d_iaG rfl (H.rd hr) rfl rfl (q := i) rfl hlt tu24 ts37) (sR rfl rfl (d_ldEM (off := 0) rfl (H.rd hr) hlt hL rfl rfl rfl (by omega) ta37 ts37) (s_eff (e_callv (w_none rfl) rfl rfl rfl Tryz.func56 rfl rfl rfl (scriptF _) ?_)))))
  rintro _ W ⟨rfl, hb⟩
  replace H := H.below hb
  clear hb
  refine l_nil (k_cond rfl (fun hc16 => ?_) (fun hc16 => ?_))
  ·skip
   refine k_seq (k_region (sMi rfl rfl rfl rfl (sAi rfl rfl rfl rfl (l_nil (k_ret ?_)))))
   repeat (first | refine r_then ?_ | refine r_blk ?_)
   exact q_ret (v := .int _ _) rfl rfl ⟨_, rfl, _, rfl, by rw [any_yes hx hc16]; simp, H.under⟩
  ·skip
   refine k_skip (k_nil (b_end (k_region (sR rfl rfl (d_add rfl rfl rfl (by omega)) (sMi rfl rfl rfl rfl (l_nil (k_nil (k_next ?_))))))))
   refine ⟨_, _, _, ?_, rfl, ?_, ?_, ⟨i + 1, rfl, rfl, by omega, any_no hx hno hc16, H⟩⟩
   ·omega
   ·repeat (first | (with_reducible refine .updl _ .ovr ?_); exact rfl | (with_reducible refine .updl _ (.ovr2 ?_ ?_) ?_); rotate_left; exact rfl; exact rfl | (with_reducible refine .upd ?_ ?_); rotate_left; exact rfl)
   ·refine ⟨?_, trivial⟩
    ·exact vi (by omega)
 ·replace hc9 := of_decide_eq_false hc9
  refine k_exit (x_then (x_then ?_))
  refine x_hit (k_seq ?_)
  obtain rfl : i = l.length := by omega
  rw [List.take_length] at hno
  refine k_region (sAi rfl rfl rfl rfl (l_nil (k_ret ?_)))
  repeat (first | refine r_then ?_ | refine r_blk ?_)
  exact q_ret (v := .int _ _) rfl rfl ⟨_, rfl, _, rfl, by rw [hno]; rfl, H.under⟩

theorem hasScript {S : Nat → Prop} {v : Value} {l : List DOut} (w : World) (hl : RL 2 ROut w S [v] l) : Calls Tryz.prog 60 [v, .func (.func 56) #[] #[]].toArray w (Ret (Is w (.bool (l.any (fun o => decide (256 < o.script.length)))))) := by
 have hl0 := hl
 obtain ⟨A, c, xs, hv_, hcA_, hcmA_, hr, hel⟩ := hl
 obtain rfl : v = .slice A l.length c := by cases hv_; rfl
 refine k_enter (l := [_, _]) Tryz.func60 rfl rfl ?_
 have H := St.start nT w
 refine k_seq (k_region (sAb rfl rfl rfl rfl (l_nil (k_seq (k_region (sMs rfl rfl rfl rfl (sR rfl rfl (mv_f rfl rfl) (sC rfl rfl rfl Tryz.func92 rfl rfl rfl (idxScript _ (keeps_L keeps_Out _ _ _ _ _ hl0 (fun g hg _ => H.fr.block g hg (fun h => h)))) ?_))))))))
 rintro _ W ⟨z, rfl, hz, hb⟩
 replace H := H.below hb
 clear hb
 refine sR rfl rfl (d_ge rfl rfl rfl) (sAb rfl rfl rfl rfl (l_nil (k_ret ?_)))
 repeat (first | refine r_then ?_ | refine r_blk ?_)
 exact q_ret (v := .bool _) rfl rfl ⟨_, rfl, vb (hz), H.under⟩

theorem wideF {S : Nat → Prop} {p : DPoint} {A : Option Addr} {c q : Nat} {ws : List (List UInt8)} (w : World) (hp : p.tx.length = 32) (hW : RL 1 RB w S [.slice A ws.length c] ws) (hq : Gat w q [.func (.func 53) #[] #[]]) : Calls Tryz.prog 54 [.agg (inC p A ws.length c).toArray, .pointer (some ⟨q, 0, none⟩)].toArray w (Ret (Is w (.bool (Tx.longX ⟨p, ws⟩)))) := by
 refine k_enter (l := [_, _]) Tryz.func54 rfl rfl ?_
 have H := St.start nT w
 refine k_seq (k_region (s_eff (e_box (vs := (inC p A ws.length c)) (w_none rfl) rfl rfl rfl rfl H ?_)))
 clear H; intro gx W H
 refine sAb rfl rfl rfl rfl (l_nil (k_seq ?_))
 rcases Nat.lt_or_ge 16 ws.length with h1 | h1
 ·skip
  refine k_region (sR rfl rfl (d_fa rfl rfl tf34_1) (sR rfl rfl (d_ldX (g := gx) (off := 33) rfl H (sub_in_w hp) rfl rfl ta32) (sR rfl rfl (d_len rfl rfl tu32) (sR rfl rfl (d_gt rfl rfl rfl) (sR rfl rfl (mv_bx (c := true) rfl rfl (by simp; omega)) (s_skip (w_gno rfl rfl rfl rfl rfl) rfl (s_skip (w_gno rfl rfl rfl rfl rfl) rfl (s_skip (w_gno rfl rfl rfl rfl rfl) rfl (s_skip (w_gno rfl rfl rfl rfl rfl) rfl (sR rfl rfl (d_pickT rfl rfl rfl) ?_))))))))))
  refine sAb rfl rfl rfl rfl (l_nil (k_ret ?_))
  repeat (first | refine r_then ?_ | refine r_blk ?_)
  exact q_ret (v := .bool _) rfl rfl ⟨_, rfl, vb (by unfold Tx.longX; simp; omega), H.under⟩
 ·skip
  refine k_region (sR rfl rfl (d_fa rfl rfl tf34_1) (sR rfl rfl (d_ldX (g := gx) (off := 33) rfl H (sub_in_w hp) rfl rfl ta32) (sR rfl rfl (d_len rfl rfl tu32) (sR rfl rfl (d_gt rfl rfl rfl) (sR rfl rfl (mv_bx (c := false) rfl rfl (by simp; omega)) (s_run (w_g rfl rfl rfl rfl) rfl (d_fa rfl rfl tf34_1) (s_run (w_g rfl rfl rfl rfl) rfl (d_ldX (g := gx) (off := 33) rfl H (sub_in_w hp) rfl rfl ta32) (s_run (w_g rfl rfl rfl rfl) rfl (d_ldG rfl ((H.gat hq)) rfl ta46 rfl) (s_eff (e_call (w_g rfl rfl rfl rfl) rfl rfl Tryz.func55 rfl rfl rfl (hasItem _ (keeps_L keeps_B _ _ _ _ _ hW (fun g hg _ => H.fr.block g hg (fun h => h)))) ?_))))))))))
  rintro _ W ⟨rfl, hb⟩
  replace H := H.below hb
  clear hb
  refine sR rfl rfl (d_pickF rfl rfl rfl) (sAb rfl rfl rfl rfl (l_nil (k_ret ?_)))
  repeat (first | refine r_then ?_ | refine r_blk ?_)
  exact q_ret (v := .bool _) rfl rfl ⟨_, rfl, vb (by unfold Tx.longX; rw [decide_eq_false (show ¬ 16 < (DIn.mk p ws).wit.length from by simpa using h1)]; rfl), H.under⟩

theorem idxWide {S : Nat → Prop} {v : Value} {l : List DIn} (w : World) (hl : RL 34 RIn w S [v] l) {q : Nat} (hq : Gat w q [.func (.func 53) #[] #[]]) : Calls Tryz.prog 91 [v, .func (.func 54) #[] [.pointer (some ⟨q, 0, none⟩)].toArray].toArray w (Ret (fun v' w' => ∃ z : Int, v' = .int .i64 z ∧ decide (0 ≤ z) = l.any Tx.longX ∧ Below w.heap.size w w')) := by
 have hll := rl_len hl
 obtain ⟨A, c, xs, hv_, hcA_, hcmA_, hr, hel⟩ := hl
 obtain rfl : v = .slice A l.length c := by cases hv_; rfl
 refine k_enter (l := [_, _]) Tryz.func91 rfl rfl ?_
 have H := St.start nT w
 refine k_seq (k_region (sAi rfl rfl rfl rfl (l_nil (k_seq (k_seq (k_region (sMs rfl rfl rfl rfl (sR rfl rfl (d_len rfl rfl tu23) (sMi rfl rfl rfl rfl (l_nil ?_))))))))))
 refine k_block (k_loop 8 [4, 5] (fun mm sl W => ∃ i : Nat, l.length - i = mm ∧ sl = [(8, .int .i64 (i : Int))] ∧ (i ≤ l.length) ∧ ((l.take i).any Tx.longX = false) ∧ St nT w W []) _ _ ⟨0, rfl, rfl, Nat.zero_le _, rfl, H⟩ ⟨rfl, trivial⟩ (fun mm sl ρv W hJ => ?_))
 clear H; obtain ⟨i, rfl, rfl, hi, hno, H⟩ := hJ
 refine k_one (k_seq (k_region (sR rfl rfl (d_lt rfl rfl rfl) (l_nil (k_seq (k_cond rfl (fun hc9 => ?_) (fun hc9 => ?_)))))))
 ·replace hc9 := of_decide_eq_true hc9
  have hlt : i < l.length := by omega
  obtain ⟨g0, o0, rfl, -⟩ := hr.2 (by omega)
  obtain ⟨x, hx⟩ := get_lt hlt
  obtain ⟨B2, d2, hL, hW, hp, hn⟩ := in_of (hel i x hx)
  refine k_skip (k_seq (k_block (k_seq (k_region (sMi rfl rfl rfl rfl (sAi rfl rfl rfl rfl (l_nil (k_seq (k_region (sR rfl rfl (mv_f rfl rfl) ?_))))))))))
  refine sMs rfl rfl rfl rfl (sMi rfl rfl rfl rfl (sR rfl rfl (d_iaG rfl (H.rd hr) rfl rfl (q := i) rfl hlt tu23 ts34) (sR rfl rfl (d_ldEM (off := 0) rfl (H.rd hr) hlt hL (sub_all (len_in hp)) rfl rfl (by omega) ta34 ts34) (s_eff (e_callv (w_none rfl) rfl rfl rfl Tryz.func54 rfl rfl rfl (wideF (ws := x.wit) _ hp (keeps_L keeps_B _ _ _ _ _ hW (fun g hg _ => H.fr.block g hg (fun h => h))) (H.gat hq)) ?_)))))
  rintro _ W ⟨rfl, hb⟩
  replace H := H.below hb
  clear hb
  refine l_nil (k_cond rfl (fun hc16 => ?_) (fun hc16 => ?_))
  ·skip
   refine k_seq (k_region (sMi rfl rfl rfl rfl (sAi rfl rfl rfl rfl (l_nil (k_ret ?_)))))
   repeat (first | refine r_then ?_ | refine r_blk ?_)
   exact q_ret (v := .int _ _) rfl rfl ⟨_, rfl, _, rfl, by rw [any_yes hx hc16]; simp, H.under⟩
  ·skip
   refine k_skip (k_nil (b_end (k_region (sR rfl rfl (d_add rfl rfl rfl (by omega)) (sMi rfl rfl rfl rfl (l_nil (k_nil (k_next ?_))))))))
   refine ⟨_, _, _, ?_, rfl, ?_, ?_, ⟨i + 1, rfl, rfl, by omega, any_no hx hno hc16, H⟩⟩
   ·omega
   ·repeat (first | (with_reducible refine .updl _ .ovr ?_); exact rfl | (with_reducible refine .updl _ (.ovr2 ?_ ?_) ?_); rotate_left; exact rfl; exact rfl | (with_reducible refine .upd ?_ ?_); rotate_left; exact rfl)
   ·refine ⟨?_, trivial⟩
    ·exact vi (by omega)
 ·replace hc9 := of_decide_eq_false hc9
  refine k_exit (x_then (x_then ?_))
  refine x_hit (k_seq ?_)
  obtain rfl : i = l.length := by omega
  rw [List.take_length] at hno
  refine k_region (sAi rfl rfl rfl rfl (l_nil (k_ret ?_)))
  repeat (first | refine r_then ?_ | refine r_blk ?_)
  exact q_ret (v := .int _ _) rfl rfl ⟨_, rfl, _, rfl, by rw [hno]; rfl, H.under⟩

theorem hasWide {S : Nat → Prop} {v : Value} {l : List DIn} (w : World) (hl : RL 34 RIn w S [v] l) {q : Nat} (hq : Gat w q [.func (.func 53) #[] #[]]) : Calls Tryz.prog 57 [v, .func (.func 54) #[] [.pointer (some ⟨q, 0, none⟩)].toArray].toArray w (Ret (Is w (.bool (l.any Tx.longX)))) := by
 have hl0 := hl
 obtain ⟨A, c, xs, hv_, hcA_, hcmA_, hr, hel⟩ := hl
 obtain rfl : v = .slice A l.length c := by cases hv_; rfl
 refine k_enter (l := [_, _]) Tryz.func57 rfl rfl ?_
 have H := St.start nT w
 refine k_seq (k_region (sAb rfl rfl rfl rfl (l_nil (k_seq (k_region (sMs rfl rfl rfl rfl (sR rfl rfl (mv_f rfl rfl) (sC rfl rfl rfl Tryz.func91 rfl rfl rfl (idxWide _ (keeps_L keeps_In _ _ _ _ _ hl0 (fun g hg _ => H.fr.block g hg (fun h => h))) (H.gat hq)) ?_))))))))
 rintro _ W ⟨z, rfl, hz, hb⟩
 replace H := H.below hb
 clear hb
 refine sR rfl rfl (d_ge rfl rfl rfl) (sAb rfl rfl rfl rfl (l_nil (k_ret ?_)))
 repeat (first | refine r_then ?_ | refine r_blk ?_)
 exact q_ret (v := .bool _) rfl rfl ⟨_, rfl, vb (hz), H.under⟩

theorem key_point {p : DPoint} (h : p.tx.length = 32) (hn : I64 p.n) : ∃ l, keyOf Tryz.prog 31 (.agg (pointC p).toArray) = some l := by
 have hf : (Value.agg (pointC p).toArray).formed Tryz.prog 31 = true := by
  unfold Value.formed
  rw [Tryz.underlying31]
  show ((pointC p).toArray.size == Tryz.prog.cellsOf 31) = true
  rw [ce31, List.size_toArray, len_point h]; rfl
 have hk : Tryz.prog.keyType 31 = true := by kernel_rfl
 obtain ⟨d, hd⟩ : ∃ d, Tryz.prog.types.size = d + 2 := ⟨Tryz.prog.types.size - 2, by have : 2 ≤ Tryz.prog.types.size := Nat.le_of_ble_eq_true (by kernel_rfl); omega⟩
 obtain ⟨ls, hl⟩ := key_st (P := Tryz.prog) (d := d + 2) (cs := pointC p) Tryz.underlying31 (by kernel_rfl) (by rw [ce31, len_point h]) (fun f hf => by
  simp at hf
  rcases hf with rfl | rfl
  ·show ∃ ls, Tryz.prog.keyLits (d + 2) 29 (sub (pointC p) 0 (Tryz.prog.cellsOf 29)) = some ls
   rw [ce29, sub_pt_tx h]
   exact key_a tu29 tu5 ce5 ce29 h
  ·show ∃ ls, Tryz.prog.keyLits (d + 2) 3 (sub (pointC p) 32 (Tryz.prog.cellsOf 3)) = some ls
   rw [ce3, sub_pt_n h]
   exact key_i tu3 hn)
 refine ⟨.string (keyBytes ls), ?_⟩
 unfold keyOf
 rw [Tryz.underlying31]
 simp only [hk, hf, Bool.and_self, if_true, hd]
 have e : (Value.agg (pointC p).toArray).cells.toList = pointC p := rfl
 rw [e, hl]; rfl
theorem klaw : Go.WideMaps.KeyLaw Tryz.prog 31 := deep_law (m := 4) (by decide) (by kernel_rfl) (by kernel_rfl) (by rw [Tryz.underlying31])
theorem u8v_inj : ∀ {a b : List UInt8}, a.map u8v = b.map u8v → a = b
 | [], [], _ => rfl
 | [], _ :: _, h => by simp at h
 | _ :: _, [], h => by simp at h
 | x :: a, y :: b, h => by
  rw [List.map_cons, List.map_cons, List.cons.injEq] at h
  obtain ⟨h1, h2⟩ := h
  have h3 : x = y := by
   have : (x.toNat : Int) = (y.toNat : Int) := by injection h1
   exact UInt8.toNat_inj.1 (by omega)
  rw [h3, u8v_inj h2]
def keyV (p : DPoint) : Value := .agg (pointC p).toArray
theorem keyV_inj {p q : DPoint} (h : keyV p = keyV q) : p = q := by
 have e : pointC p = pointC q := by
  unfold keyV at h
  injection h with h
  exact List.toArray_inj h
 unfold pointC at e
 obtain ⟨e1, e2⟩ := List.append_inj' e rfl
 have h2 : p.n = q.n := by
  have := (List.cons.inj e2).1
  injection this
 cases p; cases q
 simp only [DPoint.mk.injEq]
 exact ⟨u8v_inj e1, h2⟩
theorem putV_map {s : List DPoint} {p : DPoint} : putV (s.map keyV) (keyV p) = (Tx.putP s p).map keyV := by
 by_cases h : p ∈ s
 ·rw [putV_in (List.mem_map_of_mem (f := keyV) h)]
  unfold Tx.putP
  rw [if_pos (Tx.mem_any.2 h)]
 ·rw [putV_new (fun hm => by
   obtain ⟨q, hq, he⟩ := List.mem_map.1 hm
   exact h (keyV_inj he ▸ hq))]
  unfold Tx.putP
  rw [if_neg (fun e => h (Tx.mem_any.1 e)), List.map_append]; rfl
theorem setP_step {l : List DIn} {i : Nat} {x : DIn} (hx : l[i]? = some x) : Tx.setP ((l.take (i + 1)).map (·.point)) = Tx.putP (Tx.setP ((l.take i).map (·.point))) x.point := by
 rw [take_get hx, List.map_append]
 unfold Tx.setP
 rw [List.foldl_append]; rfl

set_option maxHeartbeats 4000000 in
theorem pointsP {S : Nat → Prop} {v : Value} {l : List DIn} (w : World) (hl : RL 34 RIn w S [v] l) : Calls Tryz.prog 58 [v].toArray w (Ret (Is w (.bool (!Tx.twice (l.map (·.point)))))) := by
 have hll := rl_len hl
 obtain ⟨A, c, xs, hv_, hcA_, hcmA_, hr, hel⟩ := hl
 obtain rfl : v = .slice A l.length c := by cases hv_; rfl
 refine k_enter (l := [_]) Tryz.func58 rfl rfl ?_
 have H := St.start nT w
 refine k_seq (k_region (sAb rfl rfl rfl rfl (l_nil (k_seq (k_region (s_eff (e_mkmap (k := 31) (w_none rfl) rfl rfl H ?_)))))))
 clear H; intro gp W H
 refine sR rfl rfl (d_asg rfl rfl) (l_nil (k_seq (k_seq (k_region (sMs rfl rfl rfl rfl (sR rfl rfl (d_len rfl rfl tu23) (sMi rfl rfl rfl rfl (l_nil (k_block (k_loop 9 [5] (fun mm sl W => ∃ i : Nat, l.length - i = mm ∧ sl = [(9, .int .i64 (i : Int))] ∧ (i ≤ l.length) ∧ St nT w W [Fact.mp Tryz.prog 31 gp ((Tx.setP ((l.take (i)).map (·.point))).map keyV)]) _ _ ⟨0, rfl, rfl, Nat.zero_le _, H⟩ ⟨rfl, trivial⟩ (fun mm sl ρv W hJ => ?_)))))))))))
 clear H; obtain ⟨i, rfl, rfl, hi, H⟩ := hJ
 refine k_one (k_seq (k_region (sR rfl rfl (d_lt rfl rfl rfl) (l_nil (k_seq (k_cond rfl (fun hc10 => ?_) (fun hc10 => ?_)))))))
 ·replace hc10 := of_decide_eq_true hc10
  have hlt : i < l.length := by omega
  obtain ⟨g0, o0, rfl, -⟩ := hr.2 (by omega)
  obtain ⟨x, hx⟩ := get_lt hlt
  obtain ⟨B2, d2, hL, hW, hp, hn⟩ := in_of (hel i x hx)
  refine k_skip (k_seq (k_block (k_seq (k_region (sR rfl rfl (d_iaG rfl (H.rd hr) rfl rfl (q := i) rfl hlt tu23 ts34) (sR rfl rfl (d_ldEM (off := 0) rfl (H.rd hr) hlt hL (sub_all (len_in hp)) rfl rfl (by omega) ta34 ts34) (s_eff (e_alloc (w_none rfl) rfl rfl (inC zPt none 0 0) tzIn H ?_))))))))
  clear H; intro gx W H
  refine s_eff (e_stoK (inC x.point B2 x.wit.length d2) (w_none rfl) rfl rfl rfl rfl rfl ts34 (len_in hp) in_one H (by rw [len_in (p := zPt) rfl]; decide) (spl_all ((len_in hp).trans (len_in (p := zPt) rfl).symm)) ?_)
  clear H; intro W H
  refine l_nil (k_region (sR rfl rfl (d_move rfl rfl) (sR rfl rfl (d_fa rfl rfl tf34_0) (sR rfl rfl (d_ldXM (g := gx) (off := 0) rfl H (sub_in_p hp) (len_point hp) rfl rfl rfl ta31 ts31) (s_eff (e_mapup (e := 3) (ks := (Tx.setP ((l.take i).map (·.point))).map keyV) (key := keyV x.point) klaw (w_none rfl) rfl rfl (by kernel_rfl) rfl rfl rfl (key_point hp hn) H ?_))))))
  clear H; intro W H
  refine l_nil (k_nil (b_end (k_region (sR rfl rfl (d_add rfl rfl rfl (by omega)) (sMi rfl rfl rfl rfl (l_nil (k_nil (k_next ?_))))))))
  refine ⟨_, _, _, ?_, rfl, ?_, ?_, ⟨i + 1, rfl, rfl, by omega, by rw [setP_step hx, ← putV_map]; exact H.drop⟩⟩
  ·omega
  ·repeat (first | (with_reducible refine .updl _ .ovr ?_); exact rfl | (with_reducible refine .updl _ (.ovr2 ?_ ?_) ?_); rotate_left; exact rfl; exact rfl | (with_reducible refine .upd ?_ ?_); rotate_left; exact rfl)
  ·refine ⟨?_, trivial⟩
   ·exact vi (by omega)
 ·replace hc10 := of_decide_eq_false hc10
  refine k_exit (x_then (x_then ?_))
  refine x_hit (k_seq ?_)
  obtain rfl : i = l.length := by omega
  rw [List.take_length] at H
  refine k_region (sR rfl rfl (d_move rfl rfl) (sR rfl rfl (d_maplen (e := 3) (k := 31) (ks := (Tx.setP (l.map (·.point))).map keyV) rfl rfl (by kernel_rfl) H) ?_))
  refine sMs rfl rfl rfl rfl (sR rfl rfl (d_len rfl rfl tu23) (sR rfl rfl (d_eq rfl rfl rfl) (sAb rfl rfl rfl rfl (l_nil (k_ret ?_)))))
  repeat (first | refine r_then ?_ | refine r_blk ?_)
  exact q_ret (v := .bool _) rfl rfl ⟨_, rfl, vb (by rw [List.length_map, ← Tx.len_set, List.length_map]; exact Bool.eq_iff_iff.2 (by rw [beq_iff_eq, decide_eq_true_iff]; omega)), H.under⟩

set_option maxHeartbeats 4000000 in
theorem valuesP {S : Nat → Prop} {v : Value} {l : List DOut} (w : World) (hl : RL 2 ROut w S [v] l) : Calls Tryz.prog 59 [v].toArray w (Ret (Is w (.bool (Tx.valOk l)))) := by
 have hll := rl_len hl
 obtain ⟨A, c, xs, hv_, hcA_, hcmA_, hr, hel⟩ := hl
 obtain rfl : v = .slice A l.length c := by cases hv_; rfl
 refine k_enter (l := [_]) Tryz.func59 rfl rfl ?_
 have H := St.start nT w
 refine k_seq (k_region (sAb rfl rfl rfl rfl (l_nil (k_seq (k_region (sAi rfl rfl rfl rfl (l_nil (k_seq (k_seq (k_region ?_))))))))))
 refine sMs rfl rfl rfl rfl (sR rfl rfl (d_len rfl rfl tu24) (sMi rfl rfl rfl rfl (l_nil (k_block (k_loop 8 [2, 3, 5] (fun mm sl W => ∃ i : Nat, l.length - i = mm ∧ sl = [(8, .int .i64 (i : Int)), (3, .int .i64 (1125899906842624 - Tx.sum (l.take i)))] ∧ (i ≤ l.length) ∧ (∀ o ∈ l.take i, 1 ≤ o.value) ∧ (Tx.sum (l.take i) ≤ 1125899906842624) ∧ St nT w W []) _ _ ⟨0, rfl, rfl, Nat.zero_le _, fun o h => by simp at h, (show (0 : Int) ≤ 1125899906842624 by decide), H⟩ ⟨rfl, rfl, trivial⟩ (fun mm sl ρv W hJ => ?_))))))
 clear H; obtain ⟨i, rfl, rfl, hi, hv, hs, H⟩ := hJ
 refine k_one (k_seq (k_region (sR rfl rfl (d_lt rfl rfl rfl) (l_nil (k_seq (k_cond rfl (fun hc9 => ?_) (fun hc9 => ?_)))))))
 ·replace hc9 := of_decide_eq_true hc9
  have hlt : i < l.length := by omega
  obtain ⟨g0, o0, rfl, -⟩ := hr.2 (by omega)
  obtain ⟨x, hx⟩ := get_lt hlt
  obtain ⟨B2, d2, hL, hB, hn⟩ := out_of (hel i x hx)
  have hsp := Tx.sum_pos hv
  have hn1 := hn.1
  have hn2 := hn.2
  refine k_skip (k_seq (k_block (k_seq (k_region (sR rfl rfl (d_iaG rfl (H.rd hr) rfl rfl (q := i) rfl hlt tu24 ts37) (sR rfl rfl (d_ldEM (off := 0) rfl (H.rd hr) hlt hL rfl rfl rfl (by omega) ta37 ts37) (s_eff (e_alloc (w_none rfl) rfl rfl [.int .i64 0, .slice none 0 0] tz37 H ?_))))))))
  clear H; intro gx W H
  refine s_eff (e_sto (w_none rfl) rfl rfl rfl rfl rfl ts37 rfl H rfl ?_)
  clear H; intro W H
  refine l_nil (k_seq (k_seq ?_))
  rcases Int.lt_or_le x.value 1 with h1 | h1
  ·skip
   refine k_region (sR rfl rfl (d_fa rfl rfl tf37_0) (sR rfl rfl (d_ld rfl H rfl ta3 rfl) (sR rfl rfl (d_lt rfl rfl rfl) (sR rfl rfl (mv_bx (c := true) rfl rfl (by simp; omega)) (s_skip (w_gno rfl rfl rfl rfl rfl) rfl (s_skip (w_gno rfl rfl rfl rfl rfl) rfl (s_skip (w_gno rfl rfl rfl rfl rfl) rfl (s_skip (w_gno rfl rfl rfl rfl rfl) rfl (sR rfl rfl (d_pickT rfl rfl rfl) (l_nil ?_))))))))))
   refine k_condT rfl rfl (k_seq (k_region (sAb rfl rfl rfl rfl (l_nil (k_ret ?_)))))
   repeat (first | refine r_then ?_ | refine r_blk ?_)
   exact q_ret (v := .bool _) rfl rfl ⟨_, rfl, vb ((Tx.val_bad hx (.inl h1)).symm), H.under⟩
  ·skip
   refine k_region (sR rfl rfl (d_fa rfl rfl tf37_0) (sR rfl rfl (d_ld rfl H rfl ta3 rfl) (sR rfl rfl (d_lt rfl rfl rfl) (sR rfl rfl (mv_bx (c := false) rfl rfl (by simp; omega)) (s_run (w_g rfl rfl rfl rfl) rfl (d_fa rfl rfl tf37_0) (s_run (w_g rfl rfl rfl rfl) rfl (d_ld rfl H rfl ta3 rfl) (s_run (w_g rfl rfl rfl rfl) rfl (mv_i rfl rfl) (s_run (w_g rfl rfl rfl rfl) rfl (d_gt rfl rfl rfl) (sR rfl rfl (d_pickF rfl rfl rfl) (l_nil ?_))))))))))
   refine k_cond rfl (fun hc20 => ?_) (fun hc20 => ?_)
   ·replace hc20 := of_decide_eq_true hc20
    refine k_seq (k_region (sAb rfl rfl rfl rfl (l_nil (k_ret ?_))))
    repeat (first | refine r_then ?_ | refine r_blk ?_)
    exact q_ret (v := .bool _) rfl rfl ⟨_, rfl, vb ((Tx.val_bad hx (.inr (by omega))).symm), H.under⟩
   ·replace hc20 := of_decide_eq_false hc20
    refine k_skip (k_region (sMi rfl rfl rfl rfl (sR rfl rfl (d_fa rfl rfl tf37_0) (sR rfl rfl (d_ld rfl H rfl ta3 rfl) (sR rfl rfl (d_sub rfl rfl rfl (by omega)) (sAi rfl rfl rfl rfl (l_nil (k_nil (b_end (k_region ?_))))))))))
    refine sR rfl rfl (d_add rfl rfl rfl (by omega)) (sMi rfl rfl rfl rfl (l_nil (k_nil (k_next ?_))))
    have hst := Tx.sum_step hx
    refine ⟨_, _, _, ?_, rfl, ?_, ?_, ⟨i + 1, rfl, rfl, by omega, fun o ho => by
      rw [take_get hx] at ho
      rcases List.mem_append.1 ho with h | h
      ·exact hv o h
      ·obtain rfl : o = x := by simpa using h
       omega, by omega, H.drop⟩⟩
    ·omega
    ·repeat (first | (with_reducible refine .updl _ .ovr ?_); exact rfl | (with_reducible refine .updl _ (.ovr2 ?_ ?_) ?_); rotate_left; exact rfl; exact rfl | (with_reducible refine .upd ?_ ?_); rotate_left; exact rfl)
    ·refine ⟨?_, ?_, trivial⟩
     ·exact vi (by omega)
     ·exact vi (by omega)
 ·replace hc9 := of_decide_eq_false hc9
  refine k_exit (x_then (x_then ?_))
  refine x_hit (k_seq ?_)
  obtain rfl : i = l.length := by omega
  rw [List.take_length] at hv hs
  refine k_region (sAb rfl rfl rfl rfl (l_nil (k_ret ?_)))
  repeat (first | refine r_then ?_ | refine r_blk ?_)
  exact q_ret (v := .bool _) rfl rfl ⟨_, rfl, vb ((Tx.val_good hv hs).symm), H.under⟩

set_option maxHeartbeats 4000000 in
theorem checkTP {S : Nat → Prop} {cs : List Value} {t : DTx} (w : World) (ht : RTx w S cs t) : Calls Tryz.prog 19 [.agg cs.toArray].toArray w (Ret (Is w (.int .i64 (Tx.chk t)))) := by
 obtain ⟨A, c, B, d, rfl, hI, hO, hk⟩ := tx_of ht
 refine k_enter (l := [_]) Tryz.func19 rfl rfl ?_
 have H := St.start nT w
 refine k_seq (k_region (s_eff (e_box (vs := (txC A t.ins.length c B t.outs.length d t.lock)) (w_none rfl) rfl rfl rfl rfl H ?_)))
 clear H; intro gm W H
 refine sAi rfl rfl rfl rfl (l_nil (k_seq (k_region (sR rfl rfl (as_f rfl rfl) (l_nil (k_seq (k_region (s_eff (e_alloc (w_none rfl) rfl rfl [.nilFunc] tz46 H ?_)))))))))
 clear H; intro gi W H
 refine s_eff (e_sto (w_none rfl) rfl rfl rfl rfl rfl ts46 rfl H rfl ?_)
 clear H; intro W H
 refine l_nil (k_seq (k_region (sR rfl rfl (d_mkf rfl rfl rfl) (sR rfl rfl (as_f rfl rfl) (l_nil (k_seq (k_region (sR rfl rfl (as_f rfl rfl) (l_nil (k_seq ?_))))))))))
 refine k_block (k_seq ?_)
 rcases Decidable.em (1 ≤ t.ins.length ∧ t.ins.length ≤ 8) with h1 | h1
 ·skip
  refine k_region (sR rfl rfl (d_fa rfl rfl tf26_0) (sR rfl rfl (d_ld rfl H rfl ta23 rfl) (sR rfl rfl (d_len rfl rfl tu23) (sC rfl rfl rfl Tryz.func52 rfl rfl rfl (within _) ?_))))
  rintro _ W ⟨rfl, hb⟩
  replace H := H.below hb
  clear hb
  refine sR rfl rfl (d_not rfl rfl) (sR rfl rfl (mv_bx (c := false) rfl rfl (by simp; omega)) (s_run (w_g rfl rfl rfl rfl) rfl (d_fa rfl rfl tf26_1) (s_run (w_g rfl rfl rfl rfl) rfl (d_ld rfl H rfl ta24 rfl) (s_run (w_g rfl rfl rfl rfl) rfl (d_len rfl rfl tu24) (s_eff (e_call (w_g rfl rfl rfl rfl) rfl rfl Tryz.func52 rfl rfl rfl (within _) ?_))))))
  rintro _ W ⟨rfl, hb⟩
  replace H := H.below hb
  clear hb
  refine s_run (w_g rfl rfl rfl rfl) rfl (d_not rfl rfl) (sR rfl rfl (d_pickF rfl rfl rfl) (sAb rfl rfl rfl rfl (l_nil (k_cond rfl (fun hc8 => ?_) (fun hc8 => ?_)))))
  ·have h2 : ¬ (1 ≤ t.outs.length ∧ t.outs.length ≤ 8) := by simp at hc8; omega
   refine k_seq (k_region (sAi rfl rfl rfl rfl (l_nil (k_ret ?_))))
   repeat (first | refine r_then ?_ | refine r_blk ?_)
   exact q_ret (v := .int _ _) rfl rfl ⟨_, rfl, vi (by unfold Tx.chk; rw [if_pos (by omega)]), H.under⟩
  ·have h2 : 1 ≤ t.outs.length ∧ t.outs.length ≤ 8 := by simp at hc8; omega
   refine k_seq ?_
   rcases hf : t.ins.any Tx.far with _ | _
   ·skip
    refine k_region (sR rfl rfl (d_fa rfl rfl tf26_0) (sR rfl rfl (d_ld rfl H rfl ta23 rfl) (sR rfl rfl (mv_f rfl rfl) (sC rfl rfl rfl Tryz.func57 rfl rfl rfl (hasFar _ (keeps_L keeps_In _ _ _ _ _ hI (fun g hg _ => H.fr.block g hg (fun h => h)))) ?_))))
    rintro _ W ⟨rfl, hb⟩
    replace H := H.below hb
    clear hb
    refine sR rfl rfl (mv_bx (c := false) rfl rfl (by rw [hf])) ?_
    refine s_run (w_g rfl rfl rfl rfl) rfl (d_fa rfl rfl tf26_2) (s_run (w_g rfl rfl rfl rfl) rfl (d_ld rfl H rfl ta3 rfl) (s_eff (e_call (w_g rfl rfl rfl rfl) rfl rfl Tryz.func52 rfl rfl rfl (within _) ?_)))
    rintro _ W ⟨rfl, hb⟩
    replace H := H.below hb
    clear hb
    refine s_run (w_g rfl rfl rfl rfl) rfl (d_not rfl rfl) (sR rfl rfl (d_pickF rfl rfl rfl) (sAb rfl rfl rfl rfl (l_nil (k_cond rfl (fun hc21 => ?_) (fun hc21 => ?_)))))
    ·have h3 : ¬ (0 ≤ t.lock ∧ t.lock ≤ 1073741824) := by simp at hc21; omega
     refine k_seq (k_region (sAi rfl rfl rfl rfl (l_nil (k_ret ?_))))
     repeat (first | refine r_then ?_ | refine r_blk ?_)
     exact q_ret (v := .int _ _) rfl rfl ⟨_, rfl, vi (by unfold Tx.chk; rw [if_neg (show ¬ (t.ins.length < 1 ∨ 8 < t.ins.length ∨ t.outs.length < 1 ∨ 8 < t.outs.length) by omega), if_pos (by omega)]), H.under⟩
    ·have h3 : 0 ≤ t.lock ∧ t.lock ≤ 1073741824 := by simp at hc21; omega
     refine k_seq (k_region (sR rfl rfl (d_fa rfl rfl tf26_0) (sR rfl rfl (d_ld rfl H rfl ta23 rfl) (sC rfl rfl rfl Tryz.func58 rfl rfl rfl (pointsP _ (keeps_L keeps_In _ _ _ _ _ hI (fun g hg _ => H.fr.block g hg (fun h => h)))) ?_))))
     rintro _ W ⟨rfl, hb⟩
     replace H := H.below hb
     clear hb
     refine sR rfl rfl (d_not rfl rfl) (sAb rfl rfl rfl rfl (l_nil (k_cond rfl (fun hc32 => ?_) (fun hc32 => ?_))))
     ·have htw : Tx.twice (t.ins.map (·.point)) = true := by simpa using hc32
      refine k_seq (k_region (sAi rfl rfl rfl rfl (l_nil (k_ret ?_))))
      repeat (first | refine r_then ?_ | refine r_blk ?_)
      exact q_ret (v := .int _ _) rfl rfl ⟨_, rfl, vi (by unfold Tx.chk; rw [if_neg (show ¬ (t.ins.length < 1 ∨ 8 < t.ins.length ∨ t.outs.length < 1 ∨ 8 < t.outs.length) by omega), if_neg (show ¬ (t.ins.any Tx.far = true ∨ t.lock < 0 ∨ 1073741824 < t.lock) by rw [hf]; simp; omega), if_pos htw]), H.under⟩
     ·have htw : Tx.twice (t.ins.map (·.point)) = false := by simpa using hc32
      refine k_seq (k_region (sR rfl rfl (d_fa rfl rfl tf26_1) (sR rfl rfl (d_ld rfl H rfl ta24 rfl) (sC rfl rfl rfl Tryz.func59 rfl rfl rfl (valuesP _ (keeps_L keeps_Out _ _ _ _ _ hO (fun g hg _ => H.fr.block g hg (fun h => h)))) ?_))))
      rintro _ W ⟨rfl, hb⟩
      replace H := H.below hb
      clear hb
      refine sR rfl rfl (d_not rfl rfl) (sAb rfl rfl rfl rfl (l_nil (k_cond rfl (fun hc37 => ?_) (fun hc37 => ?_))))
      ·have hvo : Tx.valOk t.outs = false := by simpa using hc37
       refine k_seq (k_region (sAi rfl rfl rfl rfl (l_nil (k_ret ?_))))
       repeat (first | refine r_then ?_ | refine r_blk ?_)
       exact q_ret (v := .int _ _) rfl rfl ⟨_, rfl, vi (by unfold Tx.chk; rw [if_neg (show ¬ (t.ins.length < 1 ∨ 8 < t.ins.length ∨ t.outs.length < 1 ∨ 8 < t.outs.length) by omega), if_neg (show ¬ (t.ins.any Tx.far = true ∨ t.lock < 0 ∨ 1073741824 < t.lock) by rw [hf]; simp; omega), if_neg (show ¬ Tx.twice (t.ins.map (·.point)) = true by rw [htw]; simp), if_pos hvo]), H.under⟩
      ·have hvo : Tx.valOk t.outs = true := by simpa using hc37
       refine k_seq ?_
       rcases hlo : t.outs.any (fun o => decide (256 < o.script.length)) with _ | _
       ·skip
        refine k_region (sR rfl rfl (d_fa rfl rfl tf26_1) (sR rfl rfl (d_ld rfl H rfl ta24 rfl) (sR rfl rfl (mv_f rfl rfl) (sC rfl rfl rfl Tryz.func60 rfl rfl rfl (hasScript _ (keeps_L keeps_Out _ _ _ _ _ hO (fun g hg _ => H.fr.block g hg (fun h => h)))) ?_))))
        rintro _ W ⟨rfl, hb⟩
        replace H := H.below hb
        clear hb
        refine sR rfl rfl (mv_bx (c := false) rfl rfl (by rw [hlo])) ?_
        refine s_run (w_g rfl rfl rfl rfl) rfl (d_fa rfl rfl tf26_0) (s_run (w_g rfl rfl rfl rfl) rfl (d_ld rfl H rfl ta23 rfl) (s_run (w_g rfl rfl rfl rfl) rfl (mv_f rfl rfl) (s_eff (e_call (w_g rfl rfl rfl rfl) rfl rfl Tryz.func57 rfl rfl rfl (hasWide _ (keeps_L keeps_In _ _ _ _ _ hI (fun g hg _ => H.fr.block g hg (fun h => h))) (gat_of (H.blk (g := gi)))) ?_))))
        rintro _ W ⟨rfl, hb⟩
        replace H := H.below hb
        clear hb
        refine sR rfl rfl (d_pickF rfl rfl rfl) (sAb rfl rfl rfl rfl (l_nil (k_cond rfl (fun hc42 => ?_) (fun hc42 => ?_))))
        ·have hli : t.ins.any Tx.longX = true := hc42
         refine k_seq (k_region (sAi rfl rfl rfl rfl (l_nil (k_ret ?_))))
         repeat (first | refine r_then ?_ | refine r_blk ?_)
         exact q_ret (v := .int _ _) rfl rfl ⟨_, rfl, vi (by unfold Tx.chk; rw [if_neg (show ¬ (t.ins.length < 1 ∨ 8 < t.ins.length ∨ t.outs.length < 1 ∨ 8 < t.outs.length) by omega), if_neg (show ¬ (t.ins.any Tx.far = true ∨ t.lock < 0 ∨ 1073741824 < t.lock) by rw [hf]; simp; omega), if_neg (show ¬ Tx.twice (t.ins.map (·.point)) = true by rw [htw]; simp), if_neg (show ¬ Tx.valOk t.outs = false by rw [hvo]; simp), if_pos (by unfold Tx.long; rw [hli]; simp)]), H.under⟩
        ·have hli : t.ins.any Tx.longX = false := hc42
         refine k_skip (k_nil (b_end (k_seq (k_region (sAi rfl rfl rfl rfl (l_nil (k_ret ?_)))))))
         repeat (first | refine r_then ?_ | refine r_blk ?_)
         exact q_ret (v := .int _ _) rfl rfl ⟨_, rfl, vi (by unfold Tx.chk; rw [if_neg (show ¬ (t.ins.length < 1 ∨ 8 < t.ins.length ∨ t.outs.length < 1 ∨ 8 < t.outs.length) by omega), if_neg (show ¬ (t.ins.any Tx.far = true ∨ t.lock < 0 ∨ 1073741824 < t.lock) by rw [hf]; simp; omega), if_neg (show ¬ Tx.twice (t.ins.map (·.point)) = true by rw [htw]; simp), if_neg (show ¬ Tx.valOk t.outs = false by rw [hvo]; simp), if_neg (by unfold Tx.long; rw [hlo, hli]; simp)]), H.under⟩
       ·skip
        refine k_region (sR rfl rfl (d_fa rfl rfl tf26_1) (sR rfl rfl (d_ld rfl H rfl ta24 rfl) (sR rfl rfl (mv_f rfl rfl) (sC rfl rfl rfl Tryz.func60 rfl rfl rfl (hasScript _ (keeps_L keeps_Out _ _ _ _ _ hO (fun g hg _ => H.fr.block g hg (fun h => h)))) ?_))))
        rintro _ W ⟨rfl, hb⟩
        replace H := H.below hb
        clear hb
        refine sR rfl rfl (mv_bx (c := true) rfl rfl (by rw [hlo])) ?_
        refine s_skip (w_gno rfl rfl rfl rfl rfl) rfl (s_skip (w_gno rfl rfl rfl rfl rfl) rfl (s_skip (w_gno rfl rfl rfl rfl rfl) rfl (s_skip (w_gno rfl rfl rfl rfl rfl) rfl (sR rfl rfl (d_pickT rfl rfl rfl) (sAb rfl rfl rfl rfl (l_nil (k_condT rfl rfl (k_seq (k_region (sAi rfl rfl rfl rfl ?_))))))))))
        refine l_nil (k_ret ?_)
        repeat (first | refine r_then ?_ | refine r_blk ?_)
        exact q_ret (v := .int _ _) rfl rfl ⟨_, rfl, vi (by unfold Tx.chk; rw [if_neg (show ¬ (t.ins.length < 1 ∨ 8 < t.ins.length ∨ t.outs.length < 1 ∨ 8 < t.outs.length) by omega), if_neg (show ¬ (t.ins.any Tx.far = true ∨ t.lock < 0 ∨ 1073741824 < t.lock) by rw [hf]; simp; omega), if_neg (show ¬ Tx.twice (t.ins.map (·.point)) = true by rw [htw]; simp), if_neg (show ¬ Tx.valOk t.outs = false by rw [hvo]; simp), if_pos (by unfold Tx.long; rw [hlo]; rfl)]), H.under⟩
   ·skip
    refine k_region (sR rfl rfl (d_fa rfl rfl tf26_0) (sR rfl rfl (d_ld rfl H rfl ta23 rfl) (sR rfl rfl (mv_f rfl rfl) (sC rfl rfl rfl Tryz.func57 rfl rfl rfl (hasFar _ (keeps_L keeps_In _ _ _ _ _ hI (fun g hg _ => H.fr.block g hg (fun h => h)))) ?_))))
    rintro _ W ⟨rfl, hb⟩
    replace H := H.below hb
    clear hb
    refine sR rfl rfl (mv_bx (c := true) rfl rfl (by rw [hf])) ?_
    refine s_skip (w_gno rfl rfl rfl rfl rfl) rfl (s_skip (w_gno rfl rfl rfl rfl rfl) rfl (s_skip (w_gno rfl rfl rfl rfl rfl) rfl (s_skip (w_gno rfl rfl rfl rfl rfl) rfl (sR rfl rfl (d_pickT rfl rfl rfl) (sAb rfl rfl rfl rfl (l_nil (k_condT rfl rfl (k_seq (k_region (sAi rfl rfl rfl rfl ?_))))))))))
    refine l_nil (k_ret ?_)
    repeat (first | refine r_then ?_ | refine r_blk ?_)
    exact q_ret (v := .int _ _) rfl rfl ⟨_, rfl, vi (by unfold Tx.chk; rw [if_neg (show ¬ (t.ins.length < 1 ∨ 8 < t.ins.length ∨ t.outs.length < 1 ∨ 8 < t.outs.length) by omega), if_pos (.inl hf)]), H.under⟩
 ·skip
  refine k_region (sR rfl rfl (d_fa rfl rfl tf26_0) (sR rfl rfl (d_ld rfl H rfl ta23 rfl) (sR rfl rfl (d_len rfl rfl tu23) (sC rfl rfl rfl Tryz.func52 rfl rfl rfl (within _) ?_))))
  rintro _ W ⟨rfl, hb⟩
  replace H := H.below hb
  clear hb
  refine sR rfl rfl (d_not rfl rfl) (sR rfl rfl (mv_bx (c := true) rfl rfl (by simp; omega)) (s_skip (w_gno rfl rfl rfl rfl rfl) rfl (s_skip (w_gno rfl rfl rfl rfl rfl) rfl (s_skip (w_gno rfl rfl rfl rfl rfl) rfl (s_skip (w_gno rfl rfl rfl rfl rfl) rfl (s_skip (w_gno rfl rfl rfl rfl rfl) rfl (sR rfl rfl (d_pickT rfl rfl rfl) (sAb rfl rfl rfl rfl (l_nil (k_condT rfl rfl ?_))))))))))
  refine k_seq (k_region (sAi rfl rfl rfl rfl (l_nil (k_ret ?_))))
  repeat (first | refine r_then ?_ | refine r_blk ?_)
  exact q_ret (v := .int _ _) rfl rfl ⟨_, rfl, vi (by unfold Tx.chk; rw [if_pos (by omega)]), H.under⟩
end Go.Proofs.YteakkflhndifbaaGreatDoor

namespace Go.Proofs.YteakkflhndifbaaGreatDoor
open Go Go.RowKit
attribute [local irreducible] wpList

theorem flat_at {α : Type} {f : α → List UInt8} {l : List α} {i : Nat} {x : α} (h : l[i]? = some x) : ((l.take (i + 1)).map f).flatten = ((l.take i).map f).flatten ++ f x := by rw [take_get h]; simp
theorem len_take_flat {α : Type} {f : α → List UInt8} {k i : Nat} {l : List α} (h : ∀ x ∈ l, (f x).length ≤ k) (hi : i ≤ l.length) : ((l.take i).map f).flatten.length ≤ i * k := by
 have := len_flat_le (f := f) (k := k) (l := l.take i) (fun x hx => h x (List.mem_of_mem_take hx))
 rw [List.length_take, Nat.min_eq_left hi] at this
 exact this
theorem toU_cast' {u : Nat} (h : u ≤ 9223372036854775807) : Pk.toU (u : Int) = u := by rw [Pk.toU_pos _ (by omega) (by omega)]; omega

set_option maxHeartbeats 4000000 in
theorem rowI {S : Nat → Prop} {v : Value} {b : List UInt8} {p : DPoint} {A : Option Addr} {m c : Nat} (w : World) (hG : Gat w 0 formsC) (hb : Bs w S v b) (hl : b.length ≤ 10000000000) (hp : p.tx.length = 32) (hn : I64 p.n) : Calls Tryz.prog 42 [v, .agg (inC p A m c).toArray].toArray w (Ret (NewB 5 w (b ++ Tx.encP p))) := by
 have hb0 := hb
 obtain ⟨Ab, cb, rfl, _, _, _⟩ := hb.op
 refine k_enter (l := [_, _]) Tryz.func42 rfl rfl ?_
 have H := St.start nT w
 refine k_seq (k_region (s_eff (e_box (vs := (inC p A m c)) (w_none rfl) rfl rfl rfl rfl H ?_)))
 clear H; intro gx W H
 refine sAs rfl rfl rfl rfl (l_nil (k_seq (k_draw [(0, true), (1, true), (2, true), (3, true), (5, true), (6, true), (7, true), (4, false), (8, false), (9, true)] [Fact.blk gx (inC p A m c) 34] (by kernel_rfl) (by kernel_rfl) H (.refl _) ?_)))
 clear H; intro W H
 refine cR rfl rfl rfl (fun W H => mv_s rfl rfl) (cR rfl rfl rfl (fun W H => d_fa rfl rfl tf34_0) (cR rfl rfl rfl (fun W H => d_fa rfl rfl tf31_0) (cR rfl rfl rfl (fun W H => d_ldXM (g := gx) (off := 0) rfl H (sub_in_tx hp) (by rw [List.length_map]; exact hp) rfl rfl rfl ta29 ts29) ?_)))
 refine cR rfl rfl rfl (fun W H => d_fa rfl rfl tf34_0) (cR rfl rfl rfl (fun W H => d_fa rfl rfl tf31_1) (cR rfl rfl rfl (fun W H => d_ldX (g := gx) (off := 32) rfl H (sub_in_n hp) rfl rfl ta3) (c_eff rfl (e_call (w_none rfl) rfl rfl Tryz.func44 rfl rfl rfl (packHash (b := b) (h := p.tx) _ (H.bs hb0) (by omega) hp) ?_))))
 rintro _ W ⟨A1, c1, rfl, hc1, hd1, hn⟩
 replace H := H.new hn
 clear hn
 refine ⟨H.sub (by repeat (first | exact .refl _ | exact List.nil_sublist _ | refine .cons_cons _ ?_ | refine .cons _ ?_)), ?_⟩
 refine c_eff rfl (e_call (w_none rfl) rfl rfl Tryz.func43 rfl rfl rfl (packInt (b := b ++ p.tx) p.n _ (H.gat hG) (H.rowbs (A := A1) rfl) hn (by rw [List.length_append]; omega)) ?_)
 rintro _ W ⟨A2, c2, rfl, hc2, hd2, hn⟩
 replace H := H.new hn
 clear hn
 refine ⟨H.sub (by repeat (first | exact .refl _ | exact List.nil_sublist _ | refine .cons_cons _ ?_ | refine .cons _ ?_)), ?_⟩
 refine cR rfl rfl rfl (fun W H => as_s rfl rfl) (c_nil (k_ret ?_))
 repeat (first | refine r_then ?_ | refine r_blk ?_)
 rw [List.append_assoc] at hc2 H ⊢
 exact q_ret (v := .slice _ _ _) rfl rfl ⟨_, rfl, H.newB rfl rfl hc2 hd2⟩

set_option maxHeartbeats 4000000 in
theorem rowO {S S1 : Nat → Prop} {v : Value} {b : List UInt8} {o : DOut} {A : Option Addr} {c : Nat} (w : World) (hG : Gat w 0 formsC) (hb : Bs w S v b) (hl : b.length ≤ 10000000000) (hs : Bs w S1 (.slice A o.script.length c) o.script) (hsl : o.script.length ≤ 10000000000) (hn : I64 o.value) : Calls Tryz.prog 46 [v, .agg (outC o.value A o.script.length c).toArray].toArray w (Ret (NewB 5 w (b ++ Tx.encO o))) := by
 have hb0 := hb
 obtain ⟨Ab, cb, rfl, _, _, _⟩ := hb.op
 have hq1 := Pk.len_int (Pk.toU o.value)
 refine k_enter (l := [_, _]) Tryz.func46 rfl rfl ?_
 have H := St.start nT w
 refine k_seq (k_region (s_eff (e_box (vs := (outC o.value A o.script.length c)) (w_none rfl) rfl rfl rfl rfl H ?_)))
 clear H; intro gx W H
 refine sAs rfl rfl rfl rfl (l_nil (k_seq (k_draw [(0, true), (1, true), (2, true), (4, true), (5, true), (3, false), (6, false), (7, true)] [Fact.blk gx (outC o.value A o.script.length c) 37] (by kernel_rfl) (by kernel_rfl) H (.refl _) ?_)))
 clear H; intro W H
 refine cR rfl rfl rfl (fun W H => mv_s rfl rfl) (cR rfl rfl rfl (fun W H => d_fa rfl rfl tf37_0) (cR rfl rfl rfl (fun W H => d_ld rfl H rfl ta3 rfl) (cR rfl rfl rfl (fun W H => d_fa rfl rfl tf37_1) (cR rfl rfl rfl (fun W H => d_ld rfl H rfl ta35 rfl) (c_eff rfl (e_call (w_none rfl) rfl rfl Tryz.func43 rfl rfl rfl (packInt (b := b) o.value _ (H.gat hG) (H.bs hb0) hn (by omega)) ?_))))))
 rintro _ W ⟨A1, c1, rfl, hc1, hd1, hn⟩
 replace H := H.new hn
 clear hn
 refine ⟨H.sub (by repeat (first | exact .refl _ | exact List.nil_sublist _ | refine .cons_cons _ ?_ | refine .cons _ ?_)), ?_⟩
 refine c_eff rfl (e_call (w_none rfl) rfl rfl Tryz.func33 rfl rfl rfl (packBlob (b := b ++ Pk.int (Pk.toU o.value)) (p := o.script) _ (H.gat hG) (H.rowbs (A := A1) rfl) (by rw [List.length_append]; omega) (H.bs hs) (by omega)) ?_)
 rintro _ W ⟨A2, c2, rfl, hc2, hd2, hn⟩
 replace H := H.new hn
 clear hn
 refine ⟨H.sub (by repeat (first | exact .refl _ | exact List.nil_sublist _ | refine .cons_cons _ ?_ | refine .cons _ ?_)), ?_⟩
 refine cR rfl rfl rfl (fun W H => as_s rfl rfl) (c_nil (k_ret ?_))
 repeat (first | refine r_then ?_ | refine r_blk ?_)
 rw [show b ++ Pk.int (Pk.toU o.value) ++ (Pk.int o.script.length ++ o.script) = b ++ Tx.encO o by unfold Tx.encO Pk.blob; rw [List.append_assoc]] at hc2 H ⊢
 exact q_ret (v := .slice _ _ _) rfl rfl ⟨_, rfl, H.newB rfl rfl hc2 hd2⟩

set_option maxHeartbeats 4000000 in
theorem rowsIn {S S1 : Nat → Prop} {v u : Value} {b : List UInt8} {l : List DIn} (w : World) (hG : Gat w 0 formsC) (hb : Bs w S v b) (hbl : b.length ≤ 1000000) (hl : RL 34 RIn w S1 [u] l) (hn : l.length ≤ 100000) (hk : ∀ x ∈ l, (Tx.encI x).length ≤ 10000) : Calls Tryz.prog 41 [v, u, .func (.func 42) #[] #[]].toArray w (Ret (NewB 5 w (b ++ encL Tx.encI l))) := by
 have hb0 := hb
 obtain ⟨Ab, cb, rfl, _, _, _⟩ := hb.op
 have hll := rl_len hl
 obtain ⟨A, c, xs, hv_, hcA_, hcmA_, hr, hel⟩ := hl
 obtain rfl : u = .slice A l.length c := by cases hv_; rfl
 have hq1 := Pk.len_int (Pk.toU (l.length : Int))
 have hbb : (b ++ Pk.int (Pk.toU (l.length : Int))).length ≤ 2000000 := by rw [List.length_append]; omega
 have he0 : (b ++ Pk.int (Pk.toU (l.length : Int))) = ((b ++ Pk.int (Pk.toU (l.length : Int))) ++ ((l.take 0).map Tx.encI).flatten) := by simp
 refine k_enter (l := [_, _, _]) Tryz.func41 rfl rfl ?_
 have H := St.start nT w
 refine k_seq (k_region (sAs rfl rfl rfl rfl (l_nil (k_seq (k_region (sMs rfl rfl rfl rfl (sMs rfl rfl rfl rfl (sR rfl rfl (d_len rfl rfl tu23) (sC rfl rfl rfl Tryz.func43 rfl rfl rfl (packInt (b := b) (l.length : Int) _ (H.gat hG) (H.bs hb0) (by omega) (by omega)) ?_)))))))))
 rintro _ W ⟨A1, c1, rfl, hc1, hd1, hn⟩
 replace H := H.new hn
 clear hn
 rw [he0] at hc1 H
 refine sAs rfl rfl rfl rfl (l_nil (k_seq (k_seq (k_region (sMs rfl rfl rfl rfl (sR rfl rfl (d_len rfl rfl tu23) (sMi rfl rfl rfl rfl (l_nil (k_block (k_loop 15 [0, 8] (fun mm sl W => ∃ i : Nat, ∃ A2 : Option Addr, ∃ d2 : Nat, l.length - i = mm ∧ sl = [(15, .int .i64 (i : Int)), (0, .slice A2 ((b ++ Pk.int (Pk.toU (l.length : Int))) ++ ((l.take i).map Tx.encI).flatten).length d2)] ∧ (i ≤ l.length) ∧ (((b ++ Pk.int (Pk.toU (l.length : Int))) ++ ((l.take i).map Tx.encI).flatten).length ≤ d2 ∧ d2 ≤ 9223372036854775807) ∧ St nT w W [Fact.row 5 1 (.slice A2 ((b ++ Pk.int (Pk.toU (l.length : Int))) ++ ((l.take i).map Tx.encI).flatten).length d2) ((b ++ Pk.int (Pk.toU (l.length : Int))) ++ ((l.take i).map Tx.encI).flatten).length (((b ++ Pk.int (Pk.toU (l.length : Int))) ++ ((l.take i).map Tx.encI).flatten).map u8v)]) _ _ ⟨0, A1, c1, rfl, rfl, Nat.zero_le _, ⟨hc1, hd1⟩, H⟩ ⟨rfl, sl_eq (congrArg List.length he0), trivial⟩ (fun mm sl ρv W hJ => ?_)))))))))))
 clear H; obtain ⟨i, A2, d2, rfl, rfl, hi, hd, H⟩ := hJ
 refine k_one (k_seq (k_region (sR rfl rfl (d_lt rfl rfl rfl) (l_nil (k_seq (k_cond rfl (fun hc16 => ?_) (fun hc16 => ?_)))))))
 ·replace hc16 := of_decide_eq_true hc16
  have hlt : i < l.length := by omega
  obtain ⟨g0, o0, rfl, -⟩ := hr.2 (by omega)
  obtain ⟨x, hx⟩ := get_lt hlt
  obtain ⟨B3, d3, hL, hW, hp, hn9⟩ := in_of (hel i x hx)
  have hkx := hk x (List.mem_of_getElem? hx)
  have hfl := len_take_flat hk hi
  have hA : ((b ++ Pk.int (Pk.toU (l.length : Int))) ++ ((l.take i).map Tx.encI).flatten).length ≤ 10000000000 := by rw [List.length_append]; omega
  refine k_skip (k_seq (k_block (k_seq (k_region (sR rfl rfl (d_iaG rfl (H.rd hr) rfl rfl (q := i) rfl hlt tu23 ts34) (sR rfl rfl (d_ldEM (off := 0) rfl (H.rd hr) hlt hL (sub_all (len_in hp)) rfl rfl (by omega) ta34 ts34) (s_eff (e_alloc (w_none rfl) rfl rfl (inC zPt none 0 0) tzIn H ?_))))))))
  clear H; intro gx W H
  refine s_eff (e_stoK (inC x.point B3 x.wit.length d3) (w_none rfl) rfl rfl rfl rfl rfl ts34 (len_in hp) in_one H (by rw [len_in (p := zPt) rfl]; decide) (spl_all ((len_in hp).trans (len_in (p := zPt) rfl).symm)) ?_)
  clear H; intro W H
  refine l_nil (k_region (sR rfl rfl (mv_f rfl rfl) (sMs rfl rfl rfl rfl (sR rfl rfl (d_ldXM (g := gx) (off := 0) rfl H (sub_all (len_in hp)) (len_in hp) rfl rfl rfl ta34 ts34) (s_eff (e_callv (w_none rfl) rfl rfl rfl Tryz.func42 rfl rfl rfl (rowI (b := ((b ++ Pk.int (Pk.toU (l.length : Int))) ++ ((l.take i).map Tx.encI).flatten)) _ (H.gat hG) (H.rowbs (A := A2) rfl) hA hp hn9) ?_))))))
  rintro _ W ⟨A7, c7, rfl, hc7, hd7, hn⟩
  replace H := H.new hn
  clear hn
  refine sAs rfl rfl rfl rfl (l_nil (k_nil (b_end (k_region (sR rfl rfl (d_add rfl rfl rfl (by omega)) (sMi rfl rfl rfl rfl (l_nil (k_nil (k_next ?_)))))))))
  have he : ((b ++ Pk.int (Pk.toU (l.length : Int))) ++ ((l.take (i + 1)).map Tx.encI).flatten) = ((b ++ Pk.int (Pk.toU (l.length : Int))) ++ ((l.take i).map Tx.encI).flatten) ++ Tx.encI x := by rw [flat_at hx]; simp only [List.append_assoc]
  refine ⟨_, _, _, ?_, rfl, ?_, ?_, ⟨i + 1, A7, c7, rfl, rfl, by omega, ⟨by rw [he]; exact hc7, hd7⟩, by rw [he]; exact H.sub (L' := [_]) (.cons_cons _ (List.nil_sublist _))⟩⟩
  ·omega
  ·repeat (first | (with_reducible refine .updl _ .ovr ?_); exact rfl | (with_reducible refine .updl _ (.ovr2 ?_ ?_) ?_); rotate_left; exact rfl; exact rfl | (with_reducible refine .upd ?_ ?_); rotate_left; exact rfl)
  ·refine ⟨?_, ?_, trivial⟩
   ·exact vi (by omega)
   ·exact sl_eq (by first | (rw [he]; done) | (rw [he]; rfl))
 ·replace hc16 := of_decide_eq_false hc16
  refine k_exit (x_then (x_then ?_))
  refine x_hit (k_seq ?_)
  obtain rfl : i = l.length := by omega
  have hE : ((b ++ Pk.int (Pk.toU (l.length : Int))) ++ ((l.take l.length).map Tx.encI).flatten) = b ++ encL Tx.encI l := by rw [List.take_length]; unfold encL; rw [toU_cast' (by omega), List.append_assoc]
  rw [hE] at hd H ⊢
  refine k_region (sMs rfl rfl rfl rfl (sAs rfl rfl rfl rfl (l_nil (k_ret ?_))))
  repeat (first | refine r_then ?_ | refine r_blk ?_)
  exact q_ret (v := .slice _ _ _) rfl rfl ⟨_, rfl, H.newB rfl rfl hd.1 hd.2⟩

set_option maxHeartbeats 4000000 in
theorem rowsOut {S S1 : Nat → Prop} {v u : Value} {b : List UInt8} {l : List DOut} (w : World) (hG : Gat w 0 formsC) (hb : Bs w S v b) (hbl : b.length ≤ 1000000) (hl : RL 2 ROut w S1 [u] l) (hn : l.length ≤ 100000) (hk : ∀ x ∈ l, (Tx.encO x).length ≤ 10000) (hsl : ∀ x ∈ l, x.script.length ≤ 10000000000) : Calls Tryz.prog 45 [v, u, .func (.func 46) #[] #[]].toArray w (Ret (NewB 5 w (b ++ encL Tx.encO l))) := by
 have hb0 := hb
 obtain ⟨Ab, cb, rfl, _, _, _⟩ := hb.op
 have hll := rl_len hl
 obtain ⟨A, c, xs, hv_, hcA_, hcmA_, hr, hel⟩ := hl
 obtain rfl : u = .slice A l.length c := by cases hv_; rfl
 have hq1 := Pk.len_int (Pk.toU (l.length : Int))
 have hbb : (b ++ Pk.int (Pk.toU (l.length : Int))).length ≤ 2000000 := by rw [List.length_append]; omega
 have he0 : (b ++ Pk.int (Pk.toU (l.length : Int))) = ((b ++ Pk.int (Pk.toU (l.length : Int))) ++ ((l.take 0).map Tx.encO).flatten) := by simp
 refine k_enter (l := [_, _, _]) Tryz.func45 rfl rfl ?_
 have H := St.start nT w
 refine k_seq (k_region (sAs rfl rfl rfl rfl (l_nil (k_seq (k_region (sMs rfl rfl rfl rfl (sMs rfl rfl rfl rfl (sR rfl rfl (d_len rfl rfl tu24) (sC rfl rfl rfl Tryz.func43 rfl rfl rfl (packInt (b := b) (l.length : Int) _ (H.gat hG) (H.bs hb0) (by omega) (by omega)) ?_)))))))))
 rintro _ W ⟨A1, c1, rfl, hc1, hd1, hn⟩
 replace H := H.new hn
 clear hn
 rw [he0] at hc1 H
 refine sAs rfl rfl rfl rfl (l_nil (k_seq (k_seq (k_region (sMs rfl rfl rfl rfl (sR rfl rfl (d_len rfl rfl tu24) (sMi rfl rfl rfl rfl (l_nil (k_block (k_loop 15 [0, 8] (fun mm sl W => ∃ i : Nat, ∃ A2 : Option Addr, ∃ d2 : Nat, l.length - i = mm ∧ sl = [(15, .int .i64 (i : Int)), (0, .slice A2 ((b ++ Pk.int (Pk.toU (l.length : Int))) ++ ((l.take i).map Tx.encO).flatten).length d2)] ∧ (i ≤ l.length) ∧ (((b ++ Pk.int (Pk.toU (l.length : Int))) ++ ((l.take i).map Tx.encO).flatten).length ≤ d2 ∧ d2 ≤ 9223372036854775807) ∧ St nT w W [Fact.row 5 1 (.slice A2 ((b ++ Pk.int (Pk.toU (l.length : Int))) ++ ((l.take i).map Tx.encO).flatten).length d2) ((b ++ Pk.int (Pk.toU (l.length : Int))) ++ ((l.take i).map Tx.encO).flatten).length (((b ++ Pk.int (Pk.toU (l.length : Int))) ++ ((l.take i).map Tx.encO).flatten).map u8v)]) _ _ ⟨0, A1, c1, rfl, rfl, Nat.zero_le _, ⟨hc1, hd1⟩, H⟩ ⟨rfl, sl_eq (congrArg List.length he0), trivial⟩ (fun mm sl ρv W hJ => ?_)))))))))))
 clear H; obtain ⟨i, A2, d2, rfl, rfl, hi, hd, H⟩ := hJ
 refine k_one (k_seq (k_region (sR rfl rfl (d_lt rfl rfl rfl) (l_nil (k_seq (k_cond rfl (fun hc16 => ?_) (fun hc16 => ?_)))))))
 ·replace hc16 := of_decide_eq_true hc16
  have hlt : i < l.length := by omega
  obtain ⟨g0, o0, rfl, -⟩ := hr.2 (by omega)
  obtain ⟨x, hx⟩ := get_lt hlt
  obtain ⟨B3, d3, hL, hB, hn9⟩ := out_of (hel i x hx)
  have hkx := hk x (List.mem_of_getElem? hx)
  have hfl := len_take_flat hk hi
  have hA : ((b ++ Pk.int (Pk.toU (l.length : Int))) ++ ((l.take i).map Tx.encO).flatten).length ≤ 10000000000 := by rw [List.length_append]; omega
  refine k_skip (k_seq (k_block (k_seq (k_region (sR rfl rfl (d_iaG rfl (H.rd hr) rfl rfl (q := i) rfl hlt tu24 ts37) (sR rfl rfl (d_ldEM (off := 0) rfl (H.rd hr) hlt hL rfl rfl rfl (by omega) ta37 ts37) (s_eff (e_alloc (w_none rfl) rfl rfl [.int .i64 0, .slice none 0 0] tz37 H ?_))))))))
  clear H; intro gx W H
  refine s_eff (e_sto (w_none rfl) rfl rfl rfl rfl rfl ts37 rfl H rfl ?_)
  clear H; intro W H
  refine l_nil (k_region (sR rfl rfl (mv_f rfl rfl) (sMs rfl rfl rfl rfl (sR rfl rfl (d_ldm rfl H rfl ta37 ts37 rfl) (s_eff (e_callv (w_none rfl) rfl rfl rfl Tryz.func46 rfl rfl rfl (rowO (b := ((b ++ Pk.int (Pk.toU (l.length : Int))) ++ ((l.take i).map Tx.encO).flatten)) _ (H.gat hG) (H.rowbs (A := A2) rfl) hA (H.bs hB) (hsl x (List.mem_of_getElem? hx)) hn9) ?_))))))
  rintro _ W ⟨A7, c7, rfl, hc7, hd7, hn⟩
  replace H := H.new hn
  clear hn
  refine sAs rfl rfl rfl rfl (l_nil (k_nil (b_end (k_region (sR rfl rfl (d_add rfl rfl rfl (by omega)) (sMi rfl rfl rfl rfl (l_nil (k_nil (k_next ?_)))))))))
  have he : ((b ++ Pk.int (Pk.toU (l.length : Int))) ++ ((l.take (i + 1)).map Tx.encO).flatten) = ((b ++ Pk.int (Pk.toU (l.length : Int))) ++ ((l.take i).map Tx.encO).flatten) ++ Tx.encO x := by rw [flat_at hx]; simp only [List.append_assoc]
  refine ⟨_, _, _, ?_, rfl, ?_, ?_, ⟨i + 1, A7, c7, rfl, rfl, by omega, ⟨by rw [he]; exact hc7, hd7⟩, by rw [he]; exact H.sub (L' := [_]) (.cons_cons _ (List.nil_sublist _))⟩⟩
  ·omega
  ·repeat (first | (with_reducible refine .updl _ .ovr ?_); exact rfl | (with_reducible refine .updl _ (.ovr2 ?_ ?_) ?_); rotate_left; exact rfl; exact rfl | (with_reducible refine .upd ?_ ?_); rotate_left; exact rfl)
  ·refine ⟨?_, ?_, trivial⟩
   ·exact vi (by omega)
   ·exact sl_eq (by first | (rw [he]; done) | (rw [he]; rfl))
 ·replace hc16 := of_decide_eq_false hc16
  refine k_exit (x_then (x_then ?_))
  refine x_hit (k_seq ?_)
  obtain rfl : i = l.length := by omega
  have hE : ((b ++ Pk.int (Pk.toU (l.length : Int))) ++ ((l.take l.length).map Tx.encO).flatten) = b ++ encL Tx.encO l := by rw [List.take_length]; unfold encL; rw [toU_cast' (by omega), List.append_assoc]
  rw [hE] at hd H ⊢
  refine k_region (sMs rfl rfl rfl rfl (sAs rfl rfl rfl rfl (l_nil (k_ret ?_))))
  repeat (first | refine r_then ?_ | refine r_blk ?_)
  exact q_ret (v := .slice _ _ _) rfl rfl ⟨_, rfl, H.newB rfl rfl hd.1 hd.2⟩

set_option maxHeartbeats 4000000 in
theorem rowsItem {S S1 : Nat → Prop} {v u : Value} {b : List UInt8} {l : List (List UInt8)} (w : World) (hG : Gat w 0 formsC) (hb : Bs w S v b) (hbl : b.length ≤ 1000000) (hl : RL 1 RB w S1 [u] l) (hn : l.length ≤ 100000) (hk : ∀ x ∈ l, (Pk.blob x).length ≤ 10000) (hsl : ∀ x ∈ l, x.length ≤ 10000000000) : Calls Tryz.prog 32 [v, u, .func (.func 33) #[] #[]].toArray w (Ret (NewB 5 w (b ++ encL Pk.blob l))) := by
 have hb0 := hb
 obtain ⟨Ab, cb, rfl, _, _, _⟩ := hb.op
 have hll := rl_len hl
 obtain ⟨A, c, xs, hv_, hcA_, hcmA_, hr, hel⟩ := hl
 obtain rfl : u = .slice A l.length c := by cases hv_; rfl
 have hq1 := Pk.len_int (Pk.toU (l.length : Int))
 have hbb : (b ++ Pk.int (Pk.toU (l.length : Int))).length ≤ 2000000 := by rw [List.length_append]; omega
 have he0 : (b ++ Pk.int (Pk.toU (l.length : Int))) = ((b ++ Pk.int (Pk.toU (l.length : Int))) ++ ((l.take 0).map Pk.blob).flatten) := by simp
 refine k_enter (l := [_, _, _]) Tryz.func32 rfl rfl ?_
 have H := St.start nT w
 refine k_seq (k_region (sAs rfl rfl rfl rfl (l_nil (k_seq (k_region (sMs rfl rfl rfl rfl (sMs rfl rfl rfl rfl (sR rfl rfl (d_len rfl rfl tu32) (sC rfl rfl rfl Tryz.func43 rfl rfl rfl (packInt (b := b) (l.length : Int) _ (H.gat hG) (H.bs hb0) (by omega) (by omega)) ?_)))))))))
 rintro _ W ⟨A1, c1, rfl, hc1, hd1, hn⟩
 replace H := H.new hn
 clear hn
 rw [he0] at hc1 H
 refine sAs rfl rfl rfl rfl (l_nil (k_seq (k_seq (k_region (sMs rfl rfl rfl rfl (sR rfl rfl (d_len rfl rfl tu32) (sMi rfl rfl rfl rfl (l_nil (k_block (k_loop 15 [0, 8] (fun mm sl W => ∃ i : Nat, ∃ A2 : Option Addr, ∃ d2 : Nat, l.length - i = mm ∧ sl = [(15, .int .i64 (i : Int)), (0, .slice A2 ((b ++ Pk.int (Pk.toU (l.length : Int))) ++ ((l.take i).map Pk.blob).flatten).length d2)] ∧ (i ≤ l.length) ∧ (((b ++ Pk.int (Pk.toU (l.length : Int))) ++ ((l.take i).map Pk.blob).flatten).length ≤ d2 ∧ d2 ≤ 9223372036854775807) ∧ St nT w W [Fact.row 5 1 (.slice A2 ((b ++ Pk.int (Pk.toU (l.length : Int))) ++ ((l.take i).map Pk.blob).flatten).length d2) ((b ++ Pk.int (Pk.toU (l.length : Int))) ++ ((l.take i).map Pk.blob).flatten).length (((b ++ Pk.int (Pk.toU (l.length : Int))) ++ ((l.take i).map Pk.blob).flatten).map u8v)]) _ _ ⟨0, A1, c1, rfl, rfl, Nat.zero_le _, ⟨hc1, hd1⟩, H⟩ ⟨rfl, sl_eq (congrArg List.length he0), trivial⟩ (fun mm sl ρv W hJ => ?_)))))))))))
 clear H; obtain ⟨i, A2, d2, rfl, rfl, hi, hd, H⟩ := hJ
 refine k_one (k_seq (k_region (sR rfl rfl (d_lt rfl rfl rfl) (l_nil (k_seq (k_cond rfl (fun hc16 => ?_) (fun hc16 => ?_)))))))
 ·replace hc16 := of_decide_eq_true hc16
  have hlt : i < l.length := by omega
  obtain ⟨g0, o0, rfl, -⟩ := hr.2 (by omega)
  obtain ⟨x, hx⟩ := get_lt hlt
  obtain ⟨B3, d3, hL, hB⟩ := rb_of (hel i x hx)
  have hkx := hk x (List.mem_of_getElem? hx)
  have hfl := len_take_flat hk hi
  have hA : ((b ++ Pk.int (Pk.toU (l.length : Int))) ++ ((l.take i).map Pk.blob).flatten).length ≤ 10000000000 := by rw [List.length_append]; omega
  refine k_skip (k_seq (k_block (k_seq (k_region (sR rfl rfl (d_iaG rfl (H.rd hr) rfl rfl (q := i) rfl hlt tu32 ts35) (sR rfl rfl (d_ldE (off := 0) rfl (H.rd hr) hlt hL rfl rfl rfl (by omega) ta35) (sAs rfl rfl rfl rfl (l_nil (k_region (sR rfl rfl (mv_f rfl rfl) ?_))))))))))
  refine sMs rfl rfl rfl rfl (sMs rfl rfl rfl rfl (s_eff (e_callv (w_none rfl) rfl rfl rfl Tryz.func33 rfl rfl rfl (packBlob (b := ((b ++ Pk.int (Pk.toU (l.length : Int))) ++ ((l.take i).map Pk.blob).flatten)) (p := x) _ (H.gat hG) (H.rowbs (A := A2) rfl) (by omega) (H.bs hB) (by have := hsl x (List.mem_of_getElem? hx); omega)) ?_)))
  rintro _ W ⟨A7, c7, rfl, hc7, hd7, hn⟩
  replace H := H.new hn
  clear hn
  refine sAs rfl rfl rfl rfl (l_nil (k_nil (b_end (k_region (sR rfl rfl (d_add rfl rfl rfl (by omega)) (sMi rfl rfl rfl rfl (l_nil (k_nil (k_next ?_)))))))))
  have he : ((b ++ Pk.int (Pk.toU (l.length : Int))) ++ ((l.take (i + 1)).map Pk.blob).flatten) = ((b ++ Pk.int (Pk.toU (l.length : Int))) ++ ((l.take i).map Pk.blob).flatten) ++ Pk.blob x := by rw [flat_at hx]; simp only [List.append_assoc]
  refine ⟨_, _, _, ?_, rfl, ?_, ?_, ⟨i + 1, A7, c7, rfl, rfl, by omega, ⟨by rw [he]; exact hc7, hd7⟩, by rw [he]; exact H.sub (L' := [_]) (.cons_cons _ (List.nil_sublist _))⟩⟩
  ·omega
  ·repeat (first | (with_reducible refine .updl _ .ovr ?_); exact rfl | (with_reducible refine .updl _ (.ovr2 ?_ ?_) ?_); rotate_left; exact rfl; exact rfl | (with_reducible refine .upd ?_ ?_); rotate_left; exact rfl)
  ·refine ⟨?_, ?_, trivial⟩
   ·exact vi (by omega)
   ·exact sl_eq (by first | (rw [he]; done) | (rw [he]; rfl))
 ·replace hc16 := of_decide_eq_false hc16
  refine k_exit (x_then (x_then ?_))
  refine x_hit (k_seq ?_)
  obtain rfl : i = l.length := by omega
  have hE : ((b ++ Pk.int (Pk.toU (l.length : Int))) ++ ((l.take l.length).map Pk.blob).flatten) = b ++ encL Pk.blob l := by rw [List.take_length]; unfold encL; rw [toU_cast' (by omega), List.append_assoc]
  rw [hE] at hd H ⊢
  refine k_region (sMs rfl rfl rfl rfl (sAs rfl rfl rfl rfl (l_nil (k_ret ?_))))
  repeat (first | refine r_then ?_ | refine r_blk ?_)
  exact q_ret (v := .slice _ _ _) rfl rfl ⟨_, rfl, H.newB rfl rfl hd.1 hd.2⟩

def Tx.b1 (t : DTx) : List UInt8 := [] ++ encL Tx.encI t.ins

set_option maxHeartbeats 4000000 in
theorem bareTP {S : Nat → Prop} {cs : List Value} {t : DTx} (w : World) (ht : RTx w S cs t) (hG : Gat w 0 formsC) : Calls Tryz.prog 16 [.agg cs.toArray].toArray w (Ret (fun v w' => ∃ x, v = .tuple #[x, .int .i64 (Tx.chk t)] ∧ NewB 5 w (Tx.bare t) x w')) := by
 obtain ⟨A, c, B, d, rfl, hI, hO, hk⟩ := tx_of ht
 have hok := tx_ok ht
 refine k_enter (l := [_]) Tryz.func16 rfl rfl ?_
 have H := St.start nT w
 refine k_seq (k_region (s_eff (e_box (vs := (txC A t.ins.length c B t.outs.length d t.lock)) (w_none rfl) rfl rfl rfl rfl H ?_)))
 clear H; intro gm W H
 refine sAs rfl rfl rfl rfl (sAi rfl rfl rfl rfl (l_nil (k_seq (k_seq (k_region (sR rfl rfl (d_ldXM (g := gm) (off := 0) rfl H (sub_all (a := txC A t.ins.length c B t.outs.length d t.lock) (m := 3) rfl) rfl rfl rfl rfl ta26 ts26) (sC rfl rfl rfl Tryz.func19 rfl rfl rfl (checkTP _ (keeps_Tx _ _ _ _ _ ht (fun g hg _ => H.fr.block g hg (fun h => h)))) ?_)))))))
 rintro _ W ⟨rfl, hb⟩
 replace H := H.below hb
 clear hb
 refine sAi rfl rfl rfl rfl (l_nil (k_seq (k_region (sMi rfl rfl rfl rfl (sR rfl rfl (d_ne rfl rfl rfl) (l_nil (k_cond rfl (fun hc9 => ?_) (fun hc9 => ?_))))))))
 ·have hne : ¬ Tx.chk t = 0 := by simpa using hc9
  refine k_seq (k_region (sMi rfl rfl rfl rfl (sAs rfl rfl rfl rfl (sAi rfl rfl rfl rfl (l_nil (k_ret ?_))))))
  repeat (first | refine r_then ?_ | refine r_blk ?_)
  have hp0 : Tx.bare t = [] := by unfold Tx.bare; rw [if_neg hne]
  rw [hp0]
  replace H := H.nilrow 5 1
  exact q_ret2 (v := .slice _ _ _) (x := .int _ _) rfl rfl rfl ⟨_, rfl, _, rfl, H.newB (l := []) rfl rfl (Nat.le_refl _) (by omega)⟩
 ·have hne : Tx.chk t = 0 := by simpa using hc9
  have hch := Tx.chk_of hne
  obtain ⟨q1, q2, q3, q4, q5, q6, q7, q8⟩ := hch
  have hlb := Tx.len_bareB hne hok
  unfold Tx.bareB at hlb
  rw [List.length_append, List.length_append] at hlb
  refine k_skip (k_seq (k_region (sR rfl rfl (d_fa rfl rfl tf26_0) (sR rfl rfl (d_ld rfl H rfl ta23 rfl) (sC rfl rfl rfl Tryz.func41 rfl rfl rfl (rowsIn (b := []) _ (H.gat hG) (Bs.nil (S := (0 ≤ ·))) (by simp) (keeps_L keeps_In _ _ _ _ _ hI (fun g hg _ => H.fr.block g hg (fun h => h))) (by omega) (fun x hx => by have := Tx.len_encP (hok.1 x hx).1; show (Tx.encP x.point).length ≤ _; omega)) ?_)))))
  rintro _ W ⟨A1, c1, rfl, hc1, hd1, hn⟩
  replace H := H.new hn
  clear hn
  refine sAs rfl rfl rfl rfl (l_nil (k_seq (k_region (sMs rfl rfl rfl rfl (sR rfl rfl (d_fa rfl rfl tf26_1) (sR rfl rfl (d_ld rfl H rfl ta24 rfl) (sC rfl rfl rfl Tryz.func45 rfl rfl rfl (rowsOut (b := [] ++ encL Tx.encI t.ins) _ (H.gat hG) (H.rowbs (A := A1) rfl) (by rw [List.nil_append]; omega) (keeps_L keeps_Out _ _ _ _ _ hO (fun g hg _ => H.fr.block g hg (fun h => h))) (by omega) (fun x hx => by have := Tx.len_encO (q7 x hx); omega) (fun x hx => by have := q7 x hx; omega)) ?_)))))))
  rintro _ W ⟨A2, c2, rfl, hc2, hd2, hn⟩
  replace H := H.new hn
  clear hn
  refine sAs rfl rfl rfl rfl (l_nil (k_seq (k_region (sMs rfl rfl rfl rfl (sR rfl rfl (d_fa rfl rfl tf26_2) (sR rfl rfl (d_ld rfl H rfl ta3 rfl) (sC rfl rfl rfl Tryz.func43 rfl rfl rfl (packInt (b := ([] ++ encL Tx.encI t.ins) ++ encL Tx.encO t.outs) t.lock _ (H.gat hG) (H.rowbs (A := A2) rfl) hk (by rw [List.nil_append, List.length_append]; omega)) ?_)))))))
  rintro _ W ⟨A3, c3, rfl, hc3, hd3, hn⟩
  replace H := H.new hn
  clear hn
  refine sAs rfl rfl rfl rfl (sAi rfl rfl rfl rfl (l_nil (k_ret ?_)))
  repeat (first | refine r_then ?_ | refine r_blk ?_)
  have hp0 : ([] ++ encL Tx.encI t.ins ++ encL Tx.encO t.outs) ++ Pk.int (Pk.toU t.lock) = Tx.bare t := by unfold Tx.bare Tx.bareB; rw [if_pos hne, List.nil_append, List.append_assoc]
  rw [hp0] at hc3 H ⊢
  rw [hne]
  exact q_ret2 (v := .slice _ _ _) (x := .int _ _) rfl rfl rfl ⟨_, rfl, _, rfl, H.newB rfl rfl hc3 hd3⟩

set_option maxHeartbeats 4000000 in
theorem putTP {S : Nat → Prop} {cs : List Value} {t : DTx} (w : World) (ht : RTx w S cs t) (hG : Gat w 0 formsC) : Calls Tryz.prog 9 [.agg cs.toArray].toArray w (Ret (fun v w' => ∃ x, v = .tuple #[x, .int .i64 (Tx.chk t)] ∧ NewB 5 w (Tx.put t) x w')) := by
 obtain ⟨A, c, B, d, rfl, hI, hO, hk⟩ := tx_of ht
 have hok := tx_ok ht
 have hIl := rl_len hI
 have hI0 := hI
 obtain ⟨A_, c_, xs, hv_, _, _, hr, hel⟩ := hI
 cases hv_
 refine k_enter (l := [_]) Tryz.func9 rfl rfl ?_
 have H := St.start nT w
 refine k_seq (k_region (s_eff (e_box (vs := (txC A t.ins.length c B t.outs.length d t.lock)) (w_none rfl) rfl rfl rfl rfl H ?_)))
 clear H; intro gm W H
 refine sAs rfl rfl rfl rfl (sAi rfl rfl rfl rfl (l_nil (k_seq (k_region (sR rfl rfl (d_ldXM (g := gm) (off := 0) rfl H (sub_all (a := txC A t.ins.length c B t.outs.length d t.lock) (m := 3) rfl) rfl rfl rfl rfl ta26 ts26) (sC rfl rfl rfl Tryz.func16 rfl rfl rfl (bareTP _ (keeps_Tx _ _ _ _ _ ht (fun g hg _ => H.fr.block g hg (fun h => h))) (H.gat hG)) ?_))))))
 rintro _ W ⟨_, rfl, A1, c1, rfl, hc1, hd1, hn⟩
 replace H := H.new hn
 clear hn
 refine sR rfl rfl (mv_t rfl rfl) (sR rfl rfl (d_ext rfl rfl rfl) (sR rfl rfl (d_ext rfl rfl rfl) (sAs rfl rfl rfl rfl (sAi rfl rfl rfl rfl (l_nil (k_seq (k_seq (k_region (sMi rfl rfl rfl rfl (sR rfl rfl (d_ne rfl rfl rfl) ?_))))))))))
 refine l_nil (k_cond rfl (fun hc14 => ?_) (fun hc14 => ?_))
 ·have hne : ¬ Tx.chk t = 0 := by simpa using hc14
  refine k_seq (k_region (sMi rfl rfl rfl rfl (sAs rfl rfl rfl rfl (sAi rfl rfl rfl rfl (l_nil (k_ret ?_))))))
  repeat (first | refine r_then ?_ | refine r_blk ?_)
  have hp0 : Tx.put t = [] := by unfold Tx.put; rw [if_neg hne]
  rw [hp0]
  replace H := H.nilrow 5 1
  exact q_ret2 (v := .slice _ _ _) (x := .int _ _) rfl rfl rfl ⟨_, rfl, _, rfl, H.newB (l := []) rfl rfl (Nat.le_refl _) (by omega)⟩
 ·have hne : Tx.chk t = 0 := by simpa using hc14
  have hch := Tx.chk_of hne
  obtain ⟨q1, q2, q3, q4, q5, q6, q7, q8⟩ := hch
  have hlb := Tx.len_bareB hne hok
  have e0 : Tx.bare t = (Tx.bareB t ++ ((t.ins.take 0).map Tx.encWI).flatten) := by unfold Tx.bare; rw [if_pos hne]; simp
  rw [e0] at hc1 H
  refine k_skip (k_seq (k_seq (k_region (sR rfl rfl (d_fa rfl rfl tf26_0) (sR rfl rfl (d_ld rfl H rfl ta23 rfl) (sR rfl rfl (d_len rfl rfl tu23) (sMi rfl rfl rfl rfl (l_nil (k_block (k_loop 19 [4, 7] (fun mm sl W => ∃ i : Nat, ∃ A2 : Option Addr, ∃ d2 : Nat, t.ins.length - i = mm ∧ sl = [(19, .int .i64 (i : Int)), (4, .slice A2 (Tx.bareB t ++ ((t.ins.take i).map Tx.encWI).flatten).length d2)] ∧ (i ≤ t.ins.length) ∧ ((Tx.bareB t ++ ((t.ins.take i).map Tx.encWI).flatten).length ≤ d2 ∧ d2 ≤ 9223372036854775807) ∧ St nT w W [Fact.row 5 1 (.slice A2 (Tx.bareB t ++ ((t.ins.take i).map Tx.encWI).flatten).length d2) (Tx.bareB t ++ ((t.ins.take i).map Tx.encWI).flatten).length ((Tx.bareB t ++ ((t.ins.take i).map Tx.encWI).flatten).map u8v)]) _ _ ⟨0, A1, c1, rfl, rfl, Nat.zero_le _, ⟨hc1, hd1⟩, H.sub (L' := [_]) (.cons_cons _ (List.nil_sublist _))⟩ ⟨rfl, sl_eq (by rw [e0]), trivial⟩ (fun mm sl ρv W hJ => ?_)))))))))))
  clear H; obtain ⟨i, A2, d2, rfl, rfl, hi, hd, H⟩ := hJ
  refine k_one (k_seq (k_region (sR rfl rfl (d_lt rfl rfl rfl) (l_nil (k_seq (k_cond rfl (fun hc20 => ?_) (fun hc20 => ?_)))))))
  ·replace hc20 := of_decide_eq_true hc20
   have hlt : i < t.ins.length := by omega
   obtain ⟨g0, o0, rfl, -⟩ := hr.2 (by omega)
   obtain ⟨x, hx⟩ := get_lt hlt
   obtain ⟨B3, d3, hL, hW, hp, hn⟩ := in_of (hel i x hx)
   have hq8 := q8 x (List.mem_of_getElem? hx)
   have hfl := len_take_flat (f := Tx.encWI) (k := 1177) (fun y hy => Tx.len_encW (q8 y hy).1 (q8 y hy).2) hi
   have hA : (Tx.bareB t ++ ((t.ins.take i).map Tx.encWI).flatten).length ≤ 1000000 := by rw [List.length_append]; omega
   refine k_skip (k_seq (k_block (k_seq (k_region (sR rfl rfl (d_iaG (q := i) rfl (H.rd hr) rfl rfl rfl hlt tu23 ts34) (sR rfl rfl (d_ldEM (off := 0) rfl (H.rd hr) hlt hL (sub_all (len_in hp)) rfl rfl (by omega) ta34 ts34) (s_eff (e_alloc (w_none rfl) rfl rfl (inC zPt none 0 0) tzIn H ?_))))))))
   clear H; intro gx W H
   refine s_eff (e_stoK (inC x.point B3 x.wit.length d3) (w_none rfl) rfl rfl rfl rfl rfl ts34 (len_in hp) in_one H (by rw [len_in (p := zPt) rfl]; decide) (spl_all ((len_in hp).trans (len_in (p := zPt) rfl).symm)) ?_)
   clear H; intro W H
   refine l_nil (k_region (sMs rfl rfl rfl rfl (sR rfl rfl (d_fa rfl rfl tf34_1) (sR rfl rfl (d_ldX (g := gx) (off := 33) rfl H (sub_in_w hp) rfl rfl ta32) (sC rfl rfl rfl Tryz.func32 rfl rfl rfl (rowsItem (b := (Tx.bareB t ++ ((t.ins.take i).map Tx.encWI).flatten)) _ (H.gat hG) (H.rowbs (A := A2) rfl) hA (keeps_L keeps_B _ _ _ _ _ hW (fun g hg _ => H.fr.block g hg (fun h => h))) (by omega) (fun y hy => by have := Tx.len_blob (hq8.2 y hy); omega) (fun y hy => by have := hq8.2 y hy; omega)) ?_)))))
   rintro _ W ⟨A7, c7, rfl, hc7, hd7, hn⟩
   replace H := H.new hn
   clear hn
   refine sAs rfl rfl rfl rfl (l_nil (k_nil (b_end (k_region (sR rfl rfl (d_add rfl rfl rfl (by omega)) (sMi rfl rfl rfl rfl (l_nil (k_nil (k_next ?_)))))))))
   have he : (Tx.bareB t ++ ((t.ins.take (i + 1)).map Tx.encWI).flatten) = (Tx.bareB t ++ ((t.ins.take i).map Tx.encWI).flatten) ++ encL Pk.blob x.wit := by rw [flat_at hx]; simp only [List.append_assoc]; rfl
   refine ⟨_, _, _, ?_, rfl, ?_, ?_, ⟨i + 1, A7, c7, rfl, rfl, by omega, ⟨by rw [he]; exact hc7, hd7⟩, by rw [he]; exact H.sub (L' := [_]) (.cons_cons _ (List.nil_sublist _))⟩⟩
   ·omega
   ·repeat (first | (with_reducible refine .updl _ .ovr ?_); exact rfl | (with_reducible refine .updl _ (.ovr2 ?_ ?_) ?_); rotate_left; exact rfl; exact rfl | (with_reducible refine .upd ?_ ?_); rotate_left; exact rfl)
   ·refine ⟨?_, ?_, trivial⟩
    ·exact vi (by omega)
    ·exact sl_eq (by rw [he])
  ·replace hc20 := of_decide_eq_false hc20
   refine k_exit (x_then (x_then ?_))
   refine x_hit (k_seq ?_)
   obtain rfl : i = t.ins.length := by omega
   have hE : (Tx.bareB t ++ ((t.ins.take t.ins.length).map Tx.encWI).flatten) = Tx.put t := by rw [List.take_length]; unfold Tx.put; rw [if_pos hne]; rfl
   rw [hE] at hd H ⊢
   refine k_region (sMs rfl rfl rfl rfl (sAs rfl rfl rfl rfl (sAi rfl rfl rfl rfl (l_nil (k_ret ?_)))))
   repeat (first | refine r_then ?_ | refine r_blk ?_)
   rw [hne]
   exact q_ret2 (v := .slice _ _ _) (x := .int _ _) rfl rfl rfl ⟨_, rfl, _, rfl, H.newB rfl rfl hd.1 hd.2⟩
end Go.Proofs.YteakkflhndifbaaGreatDoor
