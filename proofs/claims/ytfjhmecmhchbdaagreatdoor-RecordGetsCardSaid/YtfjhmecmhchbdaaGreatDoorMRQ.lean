/- Texts of this claim, laid together: RecRef, K67. -/
import Derived.Test.YtfjhmecmhchbdaaGreatDoorMH
import Derived.Test.YtfjhmecmhchbdaaGreatDoorMR
set_option linter.unusedVariables false
set_option linter.unusedSimpArgs false

namespace Go.Proofs.YtfjhmecmhchbdaaGreatDoor
open Go Go.RowKit

namespace Rc
theorem for_cases (r : DRecord) : (r.kind ≠ 1 ∧ beqDeal r.deal zDeal = false ∧ foreign r = true)
    ∨ ((r.kind = 1 ∨ beqDeal r.deal zDeal = true) ∧ r.kind ≠ 2 ∧ (r.secret == z32) = false ∧ foreign r = true)
    ∨ ((r.kind = 1 ∨ beqDeal r.deal zDeal = true) ∧ (r.kind = 2 ∨ (r.secret == z32) = true) ∧ r.kind ≠ 3 ∧ r.move ≠ 0 ∧ foreign r = true)
    ∨ ((r.kind = 1 ∨ beqDeal r.deal zDeal = true) ∧ (r.kind = 2 ∨ (r.secret == z32) = true) ∧ r.kind ≠ 3 ∧ r.move = 0 ∧ none r.tx = false ∧ foreign r = true)
    ∨ ((r.kind = 1 ∨ beqDeal r.deal zDeal = true) ∧ (r.kind = 2 ∨ (r.secret == z32) = true) ∧ (r.kind = 3 ∨ (r.move = 0 ∧ none r.tx = true)) ∧ r.kind ≠ 4 ∧ r.state ≠ 0 ∧ foreign r = true)
    ∨ ((r.kind = 1 ∨ beqDeal r.deal zDeal = true) ∧ (r.kind = 2 ∨ (r.secret == z32) = true) ∧ (r.kind = 3 ∨ (r.move = 0 ∧ none r.tx = true)) ∧ (r.kind = 4 ∨ r.state = 0) ∧ foreign r = false) := by
  have hf : foreign r = ((decide (r.kind ≠ 1) && !beqDeal r.deal zDeal) || ((decide (r.kind ≠ 2) && !(r.secret == z32)) || ((decide (r.kind ≠ 3) && (decide (r.move ≠ 0) || !none r.tx)) || (decide (r.kind ≠ 4) && decide (r.state ≠ 0))))) := rfl
  rw [hf]
  cases beqDeal r.deal zDeal <;> cases (r.secret == z32) <;> cases none r.tx <;> by_cases k1 : r.kind = 1 <;> by_cases k2 : r.kind = 2 <;> by_cases k3 : r.kind = 3 <;> by_cases k4 : r.kind = 4 <;> by_cases k5 : r.move = 0 <;> by_cases k6 : r.state = 0 <;> simp [k1, k2, k3, k4, k5, k6]
end Rc
/-- A record in new memory. -/
def NewRec (w : World) (r : DRecord) (v : Value) (w' : World) : Prop := ∃ S A c B d, v = .agg (recC r (txC A r.tx.ins.length c B r.tx.outs.length d r.tx.lock)).toArray ∧ St nT w w' [Fact.rep RTx S (txC A r.tx.ins.length c B r.tx.outs.length d r.tx.lock) r.tx]
end Go.Proofs.YtfjhmecmhchbdaaGreatDoor

namespace Go.Proofs.YtfjhmecmhchbdaaGreatDoor
open Go Go.RowKit
attribute [local irreducible] wpList

theorem inR {n a b : Int} (w : World) : Calls Tryz.prog 35 [.int .i64 n, .int .i64 a, .int .i64 b].toArray w (Ret (Is w (.bool (decide (a ≤ n ∧ n ≤ b))))) := by
  refine k_enter (l := [_, _, _]) Tryz.func35 rfl rfl ?_
  have H := St.start nT w
  refine k_seq ?_
  refine k_region ?_
  refine s_run (w_none rfl) rfl (as_b rfl rfl) ?_
  refine l_nil ?_
  refine k_seq ?_
  rcases Int.lt_or_le n a with h1 | h1
  · skip
    refine k_region ?_
    refine s_run (w_none rfl) rfl (mv_i rfl rfl) ?_
    refine s_run (w_none rfl) rfl (mv_i rfl rfl) ?_
    refine s_run (w_none rfl) rfl (d_ge rfl rfl rfl) ?_
    refine s_run (w_none rfl) rfl (mv_bx (c := false) rfl rfl (by simp; omega)) ?_
    refine s_skip (w_gno rfl rfl rfl rfl rfl) rfl ?_
    refine s_skip (w_gno rfl rfl rfl rfl rfl) rfl ?_
    refine s_skip (w_gno rfl rfl rfl rfl rfl) rfl ?_
    refine s_run (w_none rfl) rfl (d_pickF rfl rfl rfl) ?_
    refine s_run (w_none rfl) rfl (as_b rfl rfl) ?_
    refine l_nil ?_
    refine k_ret ?_
    repeat (first | refine r_then ?_ | refine r_blk ?_)
    exact q_ret (v := .bool _) rfl rfl ⟨_, rfl, vb (by simp; omega), H.under⟩
  · skip
    refine k_region ?_
    refine s_run (w_none rfl) rfl (mv_i rfl rfl) ?_
    refine s_run (w_none rfl) rfl (mv_i rfl rfl) ?_
    refine s_run (w_none rfl) rfl (d_ge rfl rfl rfl) ?_
    refine s_run (w_none rfl) rfl (mv_bx (c := true) rfl rfl (by simp; omega)) ?_
    refine s_run (w_g rfl rfl rfl rfl) rfl (mv_i rfl rfl) ?_
    refine s_run (w_g rfl rfl rfl rfl) rfl (mv_i rfl rfl) ?_
    refine s_run (w_g rfl rfl rfl rfl) rfl (d_le rfl rfl rfl) ?_
    refine s_run (w_none rfl) rfl (d_pickT rfl rfl rfl) ?_
    refine s_run (w_none rfl) rfl (as_b rfl rfl) ?_
    refine l_nil ?_
    refine k_ret ?_
    repeat (first | refine r_then ?_ | refine r_blk ?_)
    exact q_ret (v := .bool _) rfl rfl ⟨_, rfl, vb (by simp; omega), H.under⟩

set_option maxHeartbeats 4000000 in
theorem dealR {d : DDeal} (w : World) (hh : d.hash.length = 32) : Calls Tryz.prog 11 [.agg (dealC d).toArray].toArray w (Ret (Is w (.int .i64 (Rc.checkDeal d)))) := by
  refine k_enter (l := [_]) Tryz.func11 rfl rfl ?_
  have H := St.start nT w
  refine k_seq ?_
  refine k_region ?_
  refine s_eff (e_box (vs := (dealC d)) (w_none rfl) rfl rfl rfl rfl H ?_)
  clear H; intro gd W H
  refine s_run (w_none rfl) rfl (as_i rfl rfl) ?_
  refine l_nil ?_
  refine k_seq ?_
  rcases (show (¬ (0 ≤ d.paid.whereA ∧ d.paid.whereA ≤ 2)) ∨ ((0 ≤ d.paid.whereA ∧ d.paid.whereA ≤ 2) ∧ ¬ (1 ≤ d.paid.amount ∧ d.paid.amount ≤ 1125899906842624)) ∨ ((0 ≤ d.paid.whereA ∧ d.paid.whereA ≤ 2) ∧ (1 ≤ d.paid.amount ∧ d.paid.amount ≤ 1125899906842624) ∧ ¬ (0 ≤ d.paid.untilA ∧ d.paid.untilA ≤ 1073741824)) ∨ (((0 ≤ d.paid.whereA ∧ d.paid.whereA ≤ 2) ∧ (1 ≤ d.paid.amount ∧ d.paid.amount ≤ 1125899906842624) ∧ (0 ≤ d.paid.untilA ∧ d.paid.untilA ≤ 1073741824)) ∧ (¬ (0 ≤ d.got.whereA ∧ d.got.whereA ≤ 2))) ∨ (((0 ≤ d.paid.whereA ∧ d.paid.whereA ≤ 2) ∧ (1 ≤ d.paid.amount ∧ d.paid.amount ≤ 1125899906842624) ∧ (0 ≤ d.paid.untilA ∧ d.paid.untilA ≤ 1073741824)) ∧ ((0 ≤ d.got.whereA ∧ d.got.whereA ≤ 2) ∧ ¬ (1 ≤ d.got.amount ∧ d.got.amount ≤ 1125899906842624))) ∨ (((0 ≤ d.paid.whereA ∧ d.paid.whereA ≤ 2) ∧ (1 ≤ d.paid.amount ∧ d.paid.amount ≤ 1125899906842624) ∧ (0 ≤ d.paid.untilA ∧ d.paid.untilA ≤ 1073741824)) ∧ ((0 ≤ d.got.whereA ∧ d.got.whereA ≤ 2) ∧ (1 ≤ d.got.amount ∧ d.got.amount ≤ 1125899906842624) ∧ ¬ (0 ≤ d.got.untilA ∧ d.got.untilA ≤ 1073741824))) ∨ (((0 ≤ d.paid.whereA ∧ d.paid.whereA ≤ 2) ∧ (1 ≤ d.paid.amount ∧ d.paid.amount ≤ 1125899906842624) ∧ (0 ≤ d.paid.untilA ∧ d.paid.untilA ≤ 1073741824)) ∧ ((0 ≤ d.got.whereA ∧ d.got.whereA ≤ 2) ∧ (1 ≤ d.got.amount ∧ d.got.amount ≤ 1125899906842624) ∧ (0 ≤ d.got.untilA ∧ d.got.untilA ≤ 1073741824))) by omega) with h1 | h1 | h1 | h1 | h1 | h1 | h1
  · skip
    refine k_region ?_
    refine s_run (w_none rfl) rfl (d_fa rfl rfl tf27_2) ?_
    refine s_run (w_none rfl) rfl (d_ldXM (g := gd) (cs := legC d.paid) (off := 2) rfl H rfl rfl rfl rfl rfl ta23 ts23) ?_
    refine s_run (w_none rfl) rfl (d_fa rfl rfl tf27_3) ?_
    refine s_run (w_none rfl) rfl (d_ldXM (g := gd) (cs := legC d.got) (off := 5) rfl H rfl rfl rfl rfl rfl ta23 ts23) ?_
    refine s_eff (e_bsl (xs := [.tmp 6, .tmp 8]) (vals := [.agg (legC d.paid).toArray, .agg (legC d.got).toArray]) (vs := (legC d.paid ++ legC d.got)) (w_none rfl) rfl rfl rfl rfl rfl rfl tu69 ts23 ty23 rfl rfl rfl H ?_)
    clear H; intro gl W H
    refine s_run (w_none rfl) rfl (as_s rfl rfl) ?_
    refine l_nil ?_
    refine k_seq ?_
    refine k_seq ?_
    refine k_region ?_
    refine s_run (w_none rfl) rfl (as_i rfl rfl) ?_
    refine l_nil ?_
    refine k_block ?_
    refine k_unr (k_one ?_)
    refine k_seq ?_
    refine k_seq ?_
    refine k_region ?_
    refine s_run (w_none rfl) rfl (mv_i rfl rfl) ?_
    refine s_run (w_none rfl) rfl (d_lt rfl rfl rfl) ?_
    refine l_nil ?_
    refine k_condT rfl rfl ?_
    refine k_skip ?_
    refine k_seq ?_
    refine k_block ?_
    refine k_seq ?_
    refine k_region ?_
    refine s_run (w_none rfl) rfl (mv_s rfl rfl) ?_
    refine s_run (w_none rfl) rfl (mv_i rfl rfl) ?_
    refine s_run (w_none rfl) rfl (d_iaP (q := 0) rfl rfl rfl rfl (by decide) tu69 ts23) ?_
    refine s_run (w_none rfl) rfl (d_fa rfl rfl tf23_0) ?_
    refine s_run (w_none rfl) rfl (d_ldX (g := gl) (off := 0 + 0 * 3 + 0) rfl H rfl rfl rfl ta3) ?_
    refine s_eff (e_call (w_none rfl) rfl rfl Tryz.func35 rfl rfl rfl (inR _) ?_)
    rintro _ W ⟨rfl, hb⟩
    replace H := H.below hb
    clear hb
    refine s_run (w_none rfl) rfl (d_not rfl rfl) ?_
    refine s_run (w_none rfl) rfl (mv_bx (c := true) rfl rfl (by first | rfl | (simp; omega) | simp_all)) ?_
    refine s_skip (w_gno rfl rfl rfl rfl rfl) rfl ?_
    refine s_skip (w_gno rfl rfl rfl rfl rfl) rfl ?_
    refine s_skip (w_gno rfl rfl rfl rfl rfl) rfl ?_
    refine s_skip (w_gno rfl rfl rfl rfl rfl) rfl ?_
    refine s_skip (w_gno rfl rfl rfl rfl rfl) rfl ?_
    refine s_skip (w_gno rfl rfl rfl rfl rfl) rfl ?_
    refine s_skip (w_gno rfl rfl rfl rfl rfl) rfl ?_
    refine s_run (w_none rfl) rfl (d_pickT rfl rfl rfl) ?_
    refine s_run (w_none rfl) rfl (mv_bx (c := true) rfl rfl (by first | rfl | (simp; omega) | simp_all)) ?_
    refine s_skip (w_gno rfl rfl rfl rfl rfl) rfl ?_
    refine s_skip (w_gno rfl rfl rfl rfl rfl) rfl ?_
    refine s_skip (w_gno rfl rfl rfl rfl rfl) rfl ?_
    refine s_skip (w_gno rfl rfl rfl rfl rfl) rfl ?_
    refine s_skip (w_gno rfl rfl rfl rfl rfl) rfl ?_
    refine s_skip (w_gno rfl rfl rfl rfl rfl) rfl ?_
    refine s_skip (w_gno rfl rfl rfl rfl rfl) rfl ?_
    refine s_run (w_none rfl) rfl (d_pickT rfl rfl rfl) ?_
    refine l_nil ?_
    refine k_condT rfl (by first | rfl | (simp; omega) | (simp; done) | simp_all) ?_
    refine k_seq ?_
    refine k_region ?_
    refine s_run (w_none rfl) rfl (as_i rfl rfl) ?_
    refine l_nil ?_
    refine k_ret ?_
    repeat (first | refine r_then ?_ | refine r_blk ?_)
    have hn : ¬ Rc.dealOk d = true := fun e => by obtain ⟨a1, a2, a3, a4, a5, a6⟩ := Rc.deal_of e; have b3 := Rc.leg_of a3; have b4 := Rc.leg_of a4; omega
    exact q_ret (v := .int _ _) rfl rfl ⟨_, rfl, vi ((Rc.deal_no hn).symm), H.under⟩
  · skip
    refine k_region ?_
    refine s_run (w_none rfl) rfl (d_fa rfl rfl tf27_2) ?_
    refine s_run (w_none rfl) rfl (d_ldXM (g := gd) (cs := legC d.paid) (off := 2) rfl H rfl rfl rfl rfl rfl ta23 ts23) ?_
    refine s_run (w_none rfl) rfl (d_fa rfl rfl tf27_3) ?_
    refine s_run (w_none rfl) rfl (d_ldXM (g := gd) (cs := legC d.got) (off := 5) rfl H rfl rfl rfl rfl rfl ta23 ts23) ?_
    refine s_eff (e_bsl (xs := [.tmp 6, .tmp 8]) (vals := [.agg (legC d.paid).toArray, .agg (legC d.got).toArray]) (vs := (legC d.paid ++ legC d.got)) (w_none rfl) rfl rfl rfl rfl rfl rfl tu69 ts23 ty23 rfl rfl rfl H ?_)
    clear H; intro gl W H
    refine s_run (w_none rfl) rfl (as_s rfl rfl) ?_
    refine l_nil ?_
    refine k_seq ?_
    refine k_seq ?_
    refine k_region ?_
    refine s_run (w_none rfl) rfl (as_i rfl rfl) ?_
    refine l_nil ?_
    refine k_block ?_
    refine k_unr (k_one ?_)
    refine k_seq ?_
    refine k_seq ?_
    refine k_region ?_
    refine s_run (w_none rfl) rfl (mv_i rfl rfl) ?_
    refine s_run (w_none rfl) rfl (d_lt rfl rfl rfl) ?_
    refine l_nil ?_
    refine k_condT rfl rfl ?_
    refine k_skip ?_
    refine k_seq ?_
    refine k_block ?_
    refine k_seq ?_
    refine k_region ?_
    refine s_run (w_none rfl) rfl (mv_s rfl rfl) ?_
    refine s_run (w_none rfl) rfl (mv_i rfl rfl) ?_
    refine s_run (w_none rfl) rfl (d_iaP (q := 0) rfl rfl rfl rfl (by decide) tu69 ts23) ?_
    refine s_run (w_none rfl) rfl (d_fa rfl rfl tf23_0) ?_
    refine s_run (w_none rfl) rfl (d_ldX (g := gl) (off := 0 + 0 * 3 + 0) rfl H rfl rfl rfl ta3) ?_
    refine s_eff (e_call (w_none rfl) rfl rfl Tryz.func35 rfl rfl rfl (inR _) ?_)
    rintro _ W ⟨rfl, hb⟩
    replace H := H.below hb
    clear hb
    refine s_run (w_none rfl) rfl (d_not rfl rfl) ?_
    refine s_run (w_none rfl) rfl (mv_bx (c := false) rfl rfl (by first | rfl | (simp; omega) | simp_all)) ?_
    refine s_run (w_g rfl rfl rfl rfl) rfl (mv_s rfl rfl) ?_
    refine s_run (w_g rfl rfl rfl rfl) rfl (mv_i rfl rfl) ?_
    refine s_run (w_g rfl rfl rfl rfl) rfl (d_iaP (q := 0) rfl rfl rfl rfl (by decide) tu69 ts23) ?_
    refine s_run (w_g rfl rfl rfl rfl) rfl (d_fa rfl rfl tf23_1) ?_
    refine s_run (w_g rfl rfl rfl rfl) rfl (d_ldX (g := gl) (off := 0 + 0 * 3 + 1) rfl H rfl rfl rfl ta3) ?_
    refine s_eff (e_call (w_g rfl rfl rfl rfl) rfl rfl Tryz.func35 rfl rfl rfl (inR _) ?_)
    rintro _ W ⟨rfl, hb⟩
    replace H := H.below hb
    clear hb
    refine s_run (w_g rfl rfl rfl rfl) rfl (d_not rfl rfl) ?_
    refine s_run (w_none rfl) rfl (d_pickF rfl rfl rfl) ?_
    refine s_run (w_none rfl) rfl (mv_bx (c := true) rfl rfl (by first | rfl | (simp; omega) | simp_all)) ?_
    refine s_skip (w_gno rfl rfl rfl rfl rfl) rfl ?_
    refine s_skip (w_gno rfl rfl rfl rfl rfl) rfl ?_
    refine s_skip (w_gno rfl rfl rfl rfl rfl) rfl ?_
    refine s_skip (w_gno rfl rfl rfl rfl rfl) rfl ?_
    refine s_skip (w_gno rfl rfl rfl rfl rfl) rfl ?_
    refine s_skip (w_gno rfl rfl rfl rfl rfl) rfl ?_
    refine s_skip (w_gno rfl rfl rfl rfl rfl) rfl ?_
    refine s_run (w_none rfl) rfl (d_pickT rfl rfl rfl) ?_
    refine l_nil ?_
    refine k_condT rfl (by first | rfl | (simp; omega) | (simp; done) | simp_all) ?_
    refine k_seq ?_
    refine k_region ?_
    refine s_run (w_none rfl) rfl (as_i rfl rfl) ?_
    refine l_nil ?_
    refine k_ret ?_
    repeat (first | refine r_then ?_ | refine r_blk ?_)
    have hn : ¬ Rc.dealOk d = true := fun e => by obtain ⟨a1, a2, a3, a4, a5, a6⟩ := Rc.deal_of e; have b3 := Rc.leg_of a3; have b4 := Rc.leg_of a4; omega
    exact q_ret (v := .int _ _) rfl rfl ⟨_, rfl, vi ((Rc.deal_no hn).symm), H.under⟩
  · skip
    refine k_region ?_
    refine s_run (w_none rfl) rfl (d_fa rfl rfl tf27_2) ?_
    refine s_run (w_none rfl) rfl (d_ldXM (g := gd) (cs := legC d.paid) (off := 2) rfl H rfl rfl rfl rfl rfl ta23 ts23) ?_
    refine s_run (w_none rfl) rfl (d_fa rfl rfl tf27_3) ?_
    refine s_run (w_none rfl) rfl (d_ldXM (g := gd) (cs := legC d.got) (off := 5) rfl H rfl rfl rfl rfl rfl ta23 ts23) ?_
    refine s_eff (e_bsl (xs := [.tmp 6, .tmp 8]) (vals := [.agg (legC d.paid).toArray, .agg (legC d.got).toArray]) (vs := (legC d.paid ++ legC d.got)) (w_none rfl) rfl rfl rfl rfl rfl rfl tu69 ts23 ty23 rfl rfl rfl H ?_)
    clear H; intro gl W H
    refine s_run (w_none rfl) rfl (as_s rfl rfl) ?_
    refine l_nil ?_
    refine k_seq ?_
    refine k_seq ?_
    refine k_region ?_
    refine s_run (w_none rfl) rfl (as_i rfl rfl) ?_
    refine l_nil ?_
    refine k_block ?_
    refine k_unr (k_one ?_)
    refine k_seq ?_
    refine k_seq ?_
    refine k_region ?_
    refine s_run (w_none rfl) rfl (mv_i rfl rfl) ?_
    refine s_run (w_none rfl) rfl (d_lt rfl rfl rfl) ?_
    refine l_nil ?_
    refine k_condT rfl rfl ?_
    refine k_skip ?_
    refine k_seq ?_
    refine k_block ?_
    refine k_seq ?_
    refine k_region ?_
    refine s_run (w_none rfl) rfl (mv_s rfl rfl) ?_
    refine s_run (w_none rfl) rfl (mv_i rfl rfl) ?_
    refine s_run (w_none rfl) rfl (d_iaP (q := 0) rfl rfl rfl rfl (by decide) tu69 ts23) ?_
    refine s_run (w_none rfl) rfl (d_fa rfl rfl tf23_0) ?_
    refine s_run (w_none rfl) rfl (d_ldX (g := gl) (off := 0 + 0 * 3 + 0) rfl H rfl rfl rfl ta3) ?_
    refine s_eff (e_call (w_none rfl) rfl rfl Tryz.func35 rfl rfl rfl (inR _) ?_)
    rintro _ W ⟨rfl, hb⟩
    replace H := H.below hb
    clear hb
    refine s_run (w_none rfl) rfl (d_not rfl rfl) ?_
    refine s_run (w_none rfl) rfl (mv_bx (c := false) rfl rfl (by first | rfl | (simp; omega) | simp_all)) ?_
    refine s_run (w_g rfl rfl rfl rfl) rfl (mv_s rfl rfl) ?_
    refine s_run (w_g rfl rfl rfl rfl) rfl (mv_i rfl rfl) ?_
    refine s_run (w_g rfl rfl rfl rfl) rfl (d_iaP (q := 0) rfl rfl rfl rfl (by decide) tu69 ts23) ?_
    refine s_run (w_g rfl rfl rfl rfl) rfl (d_fa rfl rfl tf23_1) ?_
    refine s_run (w_g rfl rfl rfl rfl) rfl (d_ldX (g := gl) (off := 0 + 0 * 3 + 1) rfl H rfl rfl rfl ta3) ?_
    refine s_eff (e_call (w_g rfl rfl rfl rfl) rfl rfl Tryz.func35 rfl rfl rfl (inR _) ?_)
    rintro _ W ⟨rfl, hb⟩
    replace H := H.below hb
    clear hb
    refine s_run (w_g rfl rfl rfl rfl) rfl (d_not rfl rfl) ?_
    refine s_run (w_none rfl) rfl (d_pickF rfl rfl rfl) ?_
    refine s_run (w_none rfl) rfl (mv_bx (c := false) rfl rfl (by first | rfl | (simp; omega) | simp_all)) ?_
    refine s_run (w_g rfl rfl rfl rfl) rfl (mv_s rfl rfl) ?_
    refine s_run (w_g rfl rfl rfl rfl) rfl (mv_i rfl rfl) ?_
    refine s_run (w_g rfl rfl rfl rfl) rfl (d_iaP (q := 0) rfl rfl rfl rfl (by decide) tu69 ts23) ?_
    refine s_run (w_g rfl rfl rfl rfl) rfl (d_fa rfl rfl tf23_2) ?_
    refine s_run (w_g rfl rfl rfl rfl) rfl (d_ldX (g := gl) (off := 0 + 0 * 3 + 2) rfl H rfl rfl rfl ta3) ?_
    refine s_eff (e_call (w_g rfl rfl rfl rfl) rfl rfl Tryz.func35 rfl rfl rfl (inR _) ?_)
    rintro _ W ⟨rfl, hb⟩
    replace H := H.below hb
    clear hb
    refine s_run (w_g rfl rfl rfl rfl) rfl (d_not rfl rfl) ?_
    refine s_run (w_none rfl) rfl (d_pickF rfl rfl rfl) ?_
    refine l_nil ?_
    refine k_condT rfl (by first | rfl | (simp; omega) | (simp; done) | simp_all) ?_
    refine k_seq ?_
    refine k_region ?_
    refine s_run (w_none rfl) rfl (as_i rfl rfl) ?_
    refine l_nil ?_
    refine k_ret ?_
    repeat (first | refine r_then ?_ | refine r_blk ?_)
    have hn : ¬ Rc.dealOk d = true := fun e => by obtain ⟨a1, a2, a3, a4, a5, a6⟩ := Rc.deal_of e; have b3 := Rc.leg_of a3; have b4 := Rc.leg_of a4; omega
    exact q_ret (v := .int _ _) rfl rfl ⟨_, rfl, vi ((Rc.deal_no hn).symm), H.under⟩
  · skip
    refine k_region ?_
    refine s_run (w_none rfl) rfl (d_fa rfl rfl tf27_2) ?_
    refine s_run (w_none rfl) rfl (d_ldXM (g := gd) (cs := legC d.paid) (off := 2) rfl H rfl rfl rfl rfl rfl ta23 ts23) ?_
    refine s_run (w_none rfl) rfl (d_fa rfl rfl tf27_3) ?_
    refine s_run (w_none rfl) rfl (d_ldXM (g := gd) (cs := legC d.got) (off := 5) rfl H rfl rfl rfl rfl rfl ta23 ts23) ?_
    refine s_eff (e_bsl (xs := [.tmp 6, .tmp 8]) (vals := [.agg (legC d.paid).toArray, .agg (legC d.got).toArray]) (vs := (legC d.paid ++ legC d.got)) (w_none rfl) rfl rfl rfl rfl rfl rfl tu69 ts23 ty23 rfl rfl rfl H ?_)
    clear H; intro gl W H
    refine s_run (w_none rfl) rfl (as_s rfl rfl) ?_
    refine l_nil ?_
    refine k_seq ?_
    refine k_seq ?_
    refine k_region ?_
    refine s_run (w_none rfl) rfl (as_i rfl rfl) ?_
    refine l_nil ?_
    refine k_block ?_
    refine k_unr (k_one ?_)
    refine k_seq ?_
    refine k_seq ?_
    refine k_region ?_
    refine s_run (w_none rfl) rfl (mv_i rfl rfl) ?_
    refine s_run (w_none rfl) rfl (d_lt rfl rfl rfl) ?_
    refine l_nil ?_
    refine k_condT rfl rfl ?_
    refine k_skip ?_
    refine k_seq ?_
    refine k_block ?_
    refine k_seq ?_
    refine k_region ?_
    refine s_run (w_none rfl) rfl (mv_s rfl rfl) ?_
    refine s_run (w_none rfl) rfl (mv_i rfl rfl) ?_
    refine s_run (w_none rfl) rfl (d_iaP (q := 0) rfl rfl rfl rfl (by decide) tu69 ts23) ?_
    refine s_run (w_none rfl) rfl (d_fa rfl rfl tf23_0) ?_
    refine s_run (w_none rfl) rfl (d_ldX (g := gl) (off := 0 + 0 * 3 + 0) rfl H rfl rfl rfl ta3) ?_
    refine s_eff (e_call (w_none rfl) rfl rfl Tryz.func35 rfl rfl rfl (inR _) ?_)
    rintro _ W ⟨rfl, hb⟩
    replace H := H.below hb
    clear hb
    refine s_run (w_none rfl) rfl (d_not rfl rfl) ?_
    refine s_run (w_none rfl) rfl (mv_bx (c := false) rfl rfl (by first | rfl | (simp; omega) | simp_all)) ?_
    refine s_run (w_g rfl rfl rfl rfl) rfl (mv_s rfl rfl) ?_
    refine s_run (w_g rfl rfl rfl rfl) rfl (mv_i rfl rfl) ?_
    refine s_run (w_g rfl rfl rfl rfl) rfl (d_iaP (q := 0) rfl rfl rfl rfl (by decide) tu69 ts23) ?_
    refine s_run (w_g rfl rfl rfl rfl) rfl (d_fa rfl rfl tf23_1) ?_
    refine s_run (w_g rfl rfl rfl rfl) rfl (d_ldX (g := gl) (off := 0 + 0 * 3 + 1) rfl H rfl rfl rfl ta3) ?_
    refine s_eff (e_call (w_g rfl rfl rfl rfl) rfl rfl Tryz.func35 rfl rfl rfl (inR _) ?_)
    rintro _ W ⟨rfl, hb⟩
    replace H := H.below hb
    clear hb
    refine s_run (w_g rfl rfl rfl rfl) rfl (d_not rfl rfl) ?_
    refine s_run (w_none rfl) rfl (d_pickF rfl rfl rfl) ?_
    refine s_run (w_none rfl) rfl (mv_bx (c := false) rfl rfl (by first | rfl | (simp; omega) | simp_all)) ?_
    refine s_run (w_g rfl rfl rfl rfl) rfl (mv_s rfl rfl) ?_
    refine s_run (w_g rfl rfl rfl rfl) rfl (mv_i rfl rfl) ?_
    refine s_run (w_g rfl rfl rfl rfl) rfl (d_iaP (q := 0) rfl rfl rfl rfl (by decide) tu69 ts23) ?_
    refine s_run (w_g rfl rfl rfl rfl) rfl (d_fa rfl rfl tf23_2) ?_
    refine s_run (w_g rfl rfl rfl rfl) rfl (d_ldX (g := gl) (off := 0 + 0 * 3 + 2) rfl H rfl rfl rfl ta3) ?_
    refine s_eff (e_call (w_g rfl rfl rfl rfl) rfl rfl Tryz.func35 rfl rfl rfl (inR _) ?_)
    rintro _ W ⟨rfl, hb⟩
    replace H := H.below hb
    clear hb
    refine s_run (w_g rfl rfl rfl rfl) rfl (d_not rfl rfl) ?_
    refine s_run (w_none rfl) rfl (d_pickF rfl rfl rfl) ?_
    refine l_nil ?_
    refine k_condF rfl (by first | rfl | (simp; omega) | (simp; done) | simp_all) ?_
    refine k_skip ?_
    refine k_nil ?_
    refine b_end ?_
    refine k_region ?_
    refine s_run (w_none rfl) rfl (mv_i rfl rfl) ?_
    refine s_run (w_none rfl) rfl (d_add rfl rfl rfl (by omega)) ?_
    refine s_run (w_none rfl) rfl (as_i rfl rfl) ?_
    refine l_nil ?_
    refine k_nil ?_
    refine k_next (hd_of (k_one ?_))
    refine k_seq ?_
    refine k_seq ?_
    refine k_region ?_
    refine s_run (w_none rfl) rfl (mv_i rfl rfl) ?_
    refine s_run (w_none rfl) rfl (d_lt rfl rfl rfl) ?_
    refine l_nil ?_
    refine k_condT rfl rfl ?_
    refine k_skip ?_
    refine k_seq ?_
    refine k_block ?_
    refine k_seq ?_
    refine k_region ?_
    refine s_run (w_none rfl) rfl (mv_s rfl rfl) ?_
    refine s_run (w_none rfl) rfl (mv_i rfl rfl) ?_
    refine s_run (w_none rfl) rfl (d_iaP (q := 1) rfl rfl rfl rfl (by decide) tu69 ts23) ?_
    refine s_run (w_none rfl) rfl (d_fa rfl rfl tf23_0) ?_
    refine s_run (w_none rfl) rfl (d_ldX (g := gl) (off := 0 + 1 * 3 + 0) rfl H rfl rfl rfl ta3) ?_
    refine s_eff (e_call (w_none rfl) rfl rfl Tryz.func35 rfl rfl rfl (inR _) ?_)
    rintro _ W ⟨rfl, hb⟩
    replace H := H.below hb
    clear hb
    refine s_run (w_none rfl) rfl (d_not rfl rfl) ?_
    refine s_run (w_none rfl) rfl (mv_bx (c := true) rfl rfl (by first | rfl | (simp; omega) | simp_all)) ?_
    refine s_skip (w_gno rfl rfl rfl rfl rfl) rfl ?_
    refine s_skip (w_gno rfl rfl rfl rfl rfl) rfl ?_
    refine s_skip (w_gno rfl rfl rfl rfl rfl) rfl ?_
    refine s_skip (w_gno rfl rfl rfl rfl rfl) rfl ?_
    refine s_skip (w_gno rfl rfl rfl rfl rfl) rfl ?_
    refine s_skip (w_gno rfl rfl rfl rfl rfl) rfl ?_
    refine s_skip (w_gno rfl rfl rfl rfl rfl) rfl ?_
    refine s_run (w_none rfl) rfl (d_pickT rfl rfl rfl) ?_
    refine s_run (w_none rfl) rfl (mv_bx (c := true) rfl rfl (by first | rfl | (simp; omega) | simp_all)) ?_
    refine s_skip (w_gno rfl rfl rfl rfl rfl) rfl ?_
    refine s_skip (w_gno rfl rfl rfl rfl rfl) rfl ?_
    refine s_skip (w_gno rfl rfl rfl rfl rfl) rfl ?_
    refine s_skip (w_gno rfl rfl rfl rfl rfl) rfl ?_
    refine s_skip (w_gno rfl rfl rfl rfl rfl) rfl ?_
    refine s_skip (w_gno rfl rfl rfl rfl rfl) rfl ?_
    refine s_skip (w_gno rfl rfl rfl rfl rfl) rfl ?_
    refine s_run (w_none rfl) rfl (d_pickT rfl rfl rfl) ?_
    refine l_nil ?_
    refine k_condT rfl (by first | rfl | (simp; omega) | (simp; done) | simp_all) ?_
    refine k_seq ?_
    refine k_region ?_
    refine s_run (w_none rfl) rfl (as_i rfl rfl) ?_
    refine l_nil ?_
    refine k_ret ?_
    repeat (first | refine r_then ?_ | refine r_blk ?_)
    have hn : ¬ Rc.dealOk d = true := fun e => by obtain ⟨a1, a2, a3, a4, a5, a6⟩ := Rc.deal_of e; have b3 := Rc.leg_of a3; have b4 := Rc.leg_of a4; omega
    exact q_ret (v := .int _ _) rfl rfl ⟨_, rfl, vi ((Rc.deal_no hn).symm), H.under⟩
  · skip
    refine k_region ?_
    refine s_run (w_none rfl) rfl (d_fa rfl rfl tf27_2) ?_
    refine s_run (w_none rfl) rfl (d_ldXM (g := gd) (cs := legC d.paid) (off := 2) rfl H rfl rfl rfl rfl rfl ta23 ts23) ?_
    refine s_run (w_none rfl) rfl (d_fa rfl rfl tf27_3) ?_
    refine s_run (w_none rfl) rfl (d_ldXM (g := gd) (cs := legC d.got) (off := 5) rfl H rfl rfl rfl rfl rfl ta23 ts23) ?_
    refine s_eff (e_bsl (xs := [.tmp 6, .tmp 8]) (vals := [.agg (legC d.paid).toArray, .agg (legC d.got).toArray]) (vs := (legC d.paid ++ legC d.got)) (w_none rfl) rfl rfl rfl rfl rfl rfl tu69 ts23 ty23 rfl rfl rfl H ?_)
    clear H; intro gl W H
    refine s_run (w_none rfl) rfl (as_s rfl rfl) ?_
    refine l_nil ?_
    refine k_seq ?_
    refine k_seq ?_
    refine k_region ?_
    refine s_run (w_none rfl) rfl (as_i rfl rfl) ?_
    refine l_nil ?_
    refine k_block ?_
    refine k_unr (k_one ?_)
    refine k_seq ?_
    refine k_seq ?_
    refine k_region ?_
    refine s_run (w_none rfl) rfl (mv_i rfl rfl) ?_
    refine s_run (w_none rfl) rfl (d_lt rfl rfl rfl) ?_
    refine l_nil ?_
    refine k_condT rfl rfl ?_
    refine k_skip ?_
    refine k_seq ?_
    refine k_block ?_
    refine k_seq ?_
    refine k_region ?_
    refine s_run (w_none rfl) rfl (mv_s rfl rfl) ?_
    refine s_run (w_none rfl) rfl (mv_i rfl rfl) ?_
    refine s_run (w_none rfl) rfl (d_iaP (q := 0) rfl rfl rfl rfl (by decide) tu69 ts23) ?_
    refine s_run (w_none rfl) rfl (d_fa rfl rfl tf23_0) ?_
    refine s_run (w_none rfl) rfl (d_ldX (g := gl) (off := 0 + 0 * 3 + 0) rfl H rfl rfl rfl ta3) ?_
    refine s_eff (e_call (w_none rfl) rfl rfl Tryz.func35 rfl rfl rfl (inR _) ?_)
    rintro _ W ⟨rfl, hb⟩
    replace H := H.below hb
    clear hb
    refine s_run (w_none rfl) rfl (d_not rfl rfl) ?_
    refine s_run (w_none rfl) rfl (mv_bx (c := false) rfl rfl (by first | rfl | (simp; omega) | simp_all)) ?_
    refine s_run (w_g rfl rfl rfl rfl) rfl (mv_s rfl rfl) ?_
    refine s_run (w_g rfl rfl rfl rfl) rfl (mv_i rfl rfl) ?_
    refine s_run (w_g rfl rfl rfl rfl) rfl (d_iaP (q := 0) rfl rfl rfl rfl (by decide) tu69 ts23) ?_
    refine s_run (w_g rfl rfl rfl rfl) rfl (d_fa rfl rfl tf23_1) ?_
    refine s_run (w_g rfl rfl rfl rfl) rfl (d_ldX (g := gl) (off := 0 + 0 * 3 + 1) rfl H rfl rfl rfl ta3) ?_
    refine s_eff (e_call (w_g rfl rfl rfl rfl) rfl rfl Tryz.func35 rfl rfl rfl (inR _) ?_)
    rintro _ W ⟨rfl, hb⟩
    replace H := H.below hb
    clear hb
    refine s_run (w_g rfl rfl rfl rfl) rfl (d_not rfl rfl) ?_
    refine s_run (w_none rfl) rfl (d_pickF rfl rfl rfl) ?_
    refine s_run (w_none rfl) rfl (mv_bx (c := false) rfl rfl (by first | rfl | (simp; omega) | simp_all)) ?_
    refine s_run (w_g rfl rfl rfl rfl) rfl (mv_s rfl rfl) ?_
    refine s_run (w_g rfl rfl rfl rfl) rfl (mv_i rfl rfl) ?_
    refine s_run (w_g rfl rfl rfl rfl) rfl (d_iaP (q := 0) rfl rfl rfl rfl (by decide) tu69 ts23) ?_
    refine s_run (w_g rfl rfl rfl rfl) rfl (d_fa rfl rfl tf23_2) ?_
    refine s_run (w_g rfl rfl rfl rfl) rfl (d_ldX (g := gl) (off := 0 + 0 * 3 + 2) rfl H rfl rfl rfl ta3) ?_
    refine s_eff (e_call (w_g rfl rfl rfl rfl) rfl rfl Tryz.func35 rfl rfl rfl (inR _) ?_)
    rintro _ W ⟨rfl, hb⟩
    replace H := H.below hb
    clear hb
    refine s_run (w_g rfl rfl rfl rfl) rfl (d_not rfl rfl) ?_
    refine s_run (w_none rfl) rfl (d_pickF rfl rfl rfl) ?_
    refine l_nil ?_
    refine k_condF rfl (by first | rfl | (simp; omega) | (simp; done) | simp_all) ?_
    refine k_skip ?_
    refine k_nil ?_
    refine b_end ?_
    refine k_region ?_
    refine s_run (w_none rfl) rfl (mv_i rfl rfl) ?_
    refine s_run (w_none rfl) rfl (d_add rfl rfl rfl (by omega)) ?_
    refine s_run (w_none rfl) rfl (as_i rfl rfl) ?_
    refine l_nil ?_
    refine k_nil ?_
    refine k_next (hd_of (k_one ?_))
    refine k_seq ?_
    refine k_seq ?_
    refine k_region ?_
    refine s_run (w_none rfl) rfl (mv_i rfl rfl) ?_
    refine s_run (w_none rfl) rfl (d_lt rfl rfl rfl) ?_
    refine l_nil ?_
    refine k_condT rfl rfl ?_
    refine k_skip ?_
    refine k_seq ?_
    refine k_block ?_
    refine k_seq ?_
    refine k_region ?_
    refine s_run (w_none rfl) rfl (mv_s rfl rfl) ?_
    refine s_run (w_none rfl) rfl (mv_i rfl rfl) ?_
    refine s_run (w_none rfl) rfl (d_iaP (q := 1) rfl rfl rfl rfl (by decide) tu69 ts23) ?_
    refine s_run (w_none rfl) rfl (d_fa rfl rfl tf23_0) ?_
    refine s_run (w_none rfl) rfl (d_ldX (g := gl) (off := 0 + 1 * 3 + 0) rfl H rfl rfl rfl ta3) ?_
    refine s_eff (e_call (w_none rfl) rfl rfl Tryz.func35 rfl rfl rfl (inR _) ?_)
    rintro _ W ⟨rfl, hb⟩
    replace H := H.below hb
    clear hb
    refine s_run (w_none rfl) rfl (d_not rfl rfl) ?_
    refine s_run (w_none rfl) rfl (mv_bx (c := false) rfl rfl (by first | rfl | (simp; omega) | simp_all)) ?_
    refine s_run (w_g rfl rfl rfl rfl) rfl (mv_s rfl rfl) ?_
    refine s_run (w_g rfl rfl rfl rfl) rfl (mv_i rfl rfl) ?_
    refine s_run (w_g rfl rfl rfl rfl) rfl (d_iaP (q := 1) rfl rfl rfl rfl (by decide) tu69 ts23) ?_
    refine s_run (w_g rfl rfl rfl rfl) rfl (d_fa rfl rfl tf23_1) ?_
    refine s_run (w_g rfl rfl rfl rfl) rfl (d_ldX (g := gl) (off := 0 + 1 * 3 + 1) rfl H rfl rfl rfl ta3) ?_
    refine s_eff (e_call (w_g rfl rfl rfl rfl) rfl rfl Tryz.func35 rfl rfl rfl (inR _) ?_)
    rintro _ W ⟨rfl, hb⟩
    replace H := H.below hb
    clear hb
    refine s_run (w_g rfl rfl rfl rfl) rfl (d_not rfl rfl) ?_
    refine s_run (w_none rfl) rfl (d_pickF rfl rfl rfl) ?_
    refine s_run (w_none rfl) rfl (mv_bx (c := true) rfl rfl (by first | rfl | (simp; omega) | simp_all)) ?_
    refine s_skip (w_gno rfl rfl rfl rfl rfl) rfl ?_
    refine s_skip (w_gno rfl rfl rfl rfl rfl) rfl ?_
    refine s_skip (w_gno rfl rfl rfl rfl rfl) rfl ?_
    refine s_skip (w_gno rfl rfl rfl rfl rfl) rfl ?_
    refine s_skip (w_gno rfl rfl rfl rfl rfl) rfl ?_
    refine s_skip (w_gno rfl rfl rfl rfl rfl) rfl ?_
    refine s_skip (w_gno rfl rfl rfl rfl rfl) rfl ?_
    refine s_run (w_none rfl) rfl (d_pickT rfl rfl rfl) ?_
    refine l_nil ?_
    refine k_condT rfl (by first | rfl | (simp; omega) | (simp; done) | simp_all) ?_
    refine k_seq ?_
    refine k_region ?_
    refine s_run (w_none rfl) rfl (as_i rfl rfl) ?_
    refine l_nil ?_
    refine k_ret ?_
    repeat (first | refine r_then ?_ | refine r_blk ?_)
    have hn : ¬ Rc.dealOk d = true := fun e => by obtain ⟨a1, a2, a3, a4, a5, a6⟩ := Rc.deal_of e; have b3 := Rc.leg_of a3; have b4 := Rc.leg_of a4; omega
    exact q_ret (v := .int _ _) rfl rfl ⟨_, rfl, vi ((Rc.deal_no hn).symm), H.under⟩
  · skip
    refine k_region ?_
    refine s_run (w_none rfl) rfl (d_fa rfl rfl tf27_2) ?_
    refine s_run (w_none rfl) rfl (d_ldXM (g := gd) (cs := legC d.paid) (off := 2) rfl H rfl rfl rfl rfl rfl ta23 ts23) ?_
    refine s_run (w_none rfl) rfl (d_fa rfl rfl tf27_3) ?_
    refine s_run (w_none rfl) rfl (d_ldXM (g := gd) (cs := legC d.got) (off := 5) rfl H rfl rfl rfl rfl rfl ta23 ts23) ?_
    refine s_eff (e_bsl (xs := [.tmp 6, .tmp 8]) (vals := [.agg (legC d.paid).toArray, .agg (legC d.got).toArray]) (vs := (legC d.paid ++ legC d.got)) (w_none rfl) rfl rfl rfl rfl rfl rfl tu69 ts23 ty23 rfl rfl rfl H ?_)
    clear H; intro gl W H
    refine s_run (w_none rfl) rfl (as_s rfl rfl) ?_
    refine l_nil ?_
    refine k_seq ?_
    refine k_seq ?_
    refine k_region ?_
    refine s_run (w_none rfl) rfl (as_i rfl rfl) ?_
    refine l_nil ?_
    refine k_block ?_
    refine k_unr (k_one ?_)
    refine k_seq ?_
    refine k_seq ?_
    refine k_region ?_
    refine s_run (w_none rfl) rfl (mv_i rfl rfl) ?_
    refine s_run (w_none rfl) rfl (d_lt rfl rfl rfl) ?_
    refine l_nil ?_
    refine k_condT rfl rfl ?_
    refine k_skip ?_
    refine k_seq ?_
    refine k_block ?_
    refine k_seq ?_
    refine k_region ?_
    refine s_run (w_none rfl) rfl (mv_s rfl rfl) ?_
    refine s_run (w_none rfl) rfl (mv_i rfl rfl) ?_
    refine s_run (w_none rfl) rfl (d_iaP (q := 0) rfl rfl rfl rfl (by decide) tu69 ts23) ?_
    refine s_run (w_none rfl) rfl (d_fa rfl rfl tf23_0) ?_
    refine s_run (w_none rfl) rfl (d_ldX (g := gl) (off := 0 + 0 * 3 + 0) rfl H rfl rfl rfl ta3) ?_
    refine s_eff (e_call (w_none rfl) rfl rfl Tryz.func35 rfl rfl rfl (inR _) ?_)
    rintro _ W ⟨rfl, hb⟩
    replace H := H.below hb
    clear hb
    refine s_run (w_none rfl) rfl (d_not rfl rfl) ?_
    refine s_run (w_none rfl) rfl (mv_bx (c := false) rfl rfl (by first | rfl | (simp; omega) | simp_all)) ?_
    refine s_run (w_g rfl rfl rfl rfl) rfl (mv_s rfl rfl) ?_
    refine s_run (w_g rfl rfl rfl rfl) rfl (mv_i rfl rfl) ?_
    refine s_run (w_g rfl rfl rfl rfl) rfl (d_iaP (q := 0) rfl rfl rfl rfl (by decide) tu69 ts23) ?_
    refine s_run (w_g rfl rfl rfl rfl) rfl (d_fa rfl rfl tf23_1) ?_
    refine s_run (w_g rfl rfl rfl rfl) rfl (d_ldX (g := gl) (off := 0 + 0 * 3 + 1) rfl H rfl rfl rfl ta3) ?_
    refine s_eff (e_call (w_g rfl rfl rfl rfl) rfl rfl Tryz.func35 rfl rfl rfl (inR _) ?_)
    rintro _ W ⟨rfl, hb⟩
    replace H := H.below hb
    clear hb
    refine s_run (w_g rfl rfl rfl rfl) rfl (d_not rfl rfl) ?_
    refine s_run (w_none rfl) rfl (d_pickF rfl rfl rfl) ?_
    refine s_run (w_none rfl) rfl (mv_bx (c := false) rfl rfl (by first | rfl | (simp; omega) | simp_all)) ?_
    refine s_run (w_g rfl rfl rfl rfl) rfl (mv_s rfl rfl) ?_
    refine s_run (w_g rfl rfl rfl rfl) rfl (mv_i rfl rfl) ?_
    refine s_run (w_g rfl rfl rfl rfl) rfl (d_iaP (q := 0) rfl rfl rfl rfl (by decide) tu69 ts23) ?_
    refine s_run (w_g rfl rfl rfl rfl) rfl (d_fa rfl rfl tf23_2) ?_
    refine s_run (w_g rfl rfl rfl rfl) rfl (d_ldX (g := gl) (off := 0 + 0 * 3 + 2) rfl H rfl rfl rfl ta3) ?_
    refine s_eff (e_call (w_g rfl rfl rfl rfl) rfl rfl Tryz.func35 rfl rfl rfl (inR _) ?_)
    rintro _ W ⟨rfl, hb⟩
    replace H := H.below hb
    clear hb
    refine s_run (w_g rfl rfl rfl rfl) rfl (d_not rfl rfl) ?_
    refine s_run (w_none rfl) rfl (d_pickF rfl rfl rfl) ?_
    refine l_nil ?_
    refine k_condF rfl (by first | rfl | (simp; omega) | (simp; done) | simp_all) ?_
    refine k_skip ?_
    refine k_nil ?_
    refine b_end ?_
    refine k_region ?_
    refine s_run (w_none rfl) rfl (mv_i rfl rfl) ?_
    refine s_run (w_none rfl) rfl (d_add rfl rfl rfl (by omega)) ?_
    refine s_run (w_none rfl) rfl (as_i rfl rfl) ?_
    refine l_nil ?_
    refine k_nil ?_
    refine k_next (hd_of (k_one ?_))
    refine k_seq ?_
    refine k_seq ?_
    refine k_region ?_
    refine s_run (w_none rfl) rfl (mv_i rfl rfl) ?_
    refine s_run (w_none rfl) rfl (d_lt rfl rfl rfl) ?_
    refine l_nil ?_
    refine k_condT rfl rfl ?_
    refine k_skip ?_
    refine k_seq ?_
    refine k_block ?_
    refine k_seq ?_
    refine k_region ?_
    refine s_run (w_none rfl) rfl (mv_s rfl rfl) ?_
    refine s_run (w_none rfl) rfl (mv_i rfl rfl) ?_
    refine s_run (w_none rfl) rfl (d_iaP (q := 1) rfl rfl rfl rfl (by decide) tu69 ts23) ?_
    refine s_run (w_none rfl) rfl (d_fa rfl rfl tf23_0) ?_
    refine s_run (w_none rfl) rfl (d_ldX (g := gl) (off := 0 + 1 * 3 + 0) rfl H rfl rfl rfl ta3) ?_
    refine s_eff (e_call (w_none rfl) rfl rfl Tryz.func35 rfl rfl rfl (inR _) ?_)
    rintro _ W ⟨rfl, hb⟩
    replace H := H.below hb
    clear hb
    refine s_run (w_none rfl) rfl (d_not rfl rfl) ?_
    refine s_run (w_none rfl) rfl (mv_bx (c := false) rfl rfl (by first | rfl | (simp; omega) | simp_all)) ?_
    refine s_run (w_g rfl rfl rfl rfl) rfl (mv_s rfl rfl) ?_
    refine s_run (w_g rfl rfl rfl rfl) rfl (mv_i rfl rfl) ?_
    refine s_run (w_g rfl rfl rfl rfl) rfl (d_iaP (q := 1) rfl rfl rfl rfl (by decide) tu69 ts23) ?_
    refine s_run (w_g rfl rfl rfl rfl) rfl (d_fa rfl rfl tf23_1) ?_
    refine s_run (w_g rfl rfl rfl rfl) rfl (d_ldX (g := gl) (off := 0 + 1 * 3 + 1) rfl H rfl rfl rfl ta3) ?_
    refine s_eff (e_call (w_g rfl rfl rfl rfl) rfl rfl Tryz.func35 rfl rfl rfl (inR _) ?_)
    rintro _ W ⟨rfl, hb⟩
    replace H := H.below hb
    clear hb
    refine s_run (w_g rfl rfl rfl rfl) rfl (d_not rfl rfl) ?_
    refine s_run (w_none rfl) rfl (d_pickF rfl rfl rfl) ?_
    refine s_run (w_none rfl) rfl (mv_bx (c := false) rfl rfl (by first | rfl | (simp; omega) | simp_all)) ?_
    refine s_run (w_g rfl rfl rfl rfl) rfl (mv_s rfl rfl) ?_
    refine s_run (w_g rfl rfl rfl rfl) rfl (mv_i rfl rfl) ?_
    refine s_run (w_g rfl rfl rfl rfl) rfl (d_iaP (q := 1) rfl rfl rfl rfl (by decide) tu69 ts23) ?_
    refine s_run (w_g rfl rfl rfl rfl) rfl (d_fa rfl rfl tf23_2) ?_
    refine s_run (w_g rfl rfl rfl rfl) rfl (d_ldX (g := gl) (off := 0 + 1 * 3 + 2) rfl H rfl rfl rfl ta3) ?_
    refine s_eff (e_call (w_g rfl rfl rfl rfl) rfl rfl Tryz.func35 rfl rfl rfl (inR _) ?_)
    rintro _ W ⟨rfl, hb⟩
    replace H := H.below hb
    clear hb
    refine s_run (w_g rfl rfl rfl rfl) rfl (d_not rfl rfl) ?_
    refine s_run (w_none rfl) rfl (d_pickF rfl rfl rfl) ?_
    refine l_nil ?_
    refine k_condT rfl (by first | rfl | (simp; omega) | (simp; done) | simp_all) ?_
    refine k_seq ?_
    refine k_region ?_
    refine s_run (w_none rfl) rfl (as_i rfl rfl) ?_
    refine l_nil ?_
    refine k_ret ?_
    repeat (first | refine r_then ?_ | refine r_blk ?_)
    have hn : ¬ Rc.dealOk d = true := fun e => by obtain ⟨a1, a2, a3, a4, a5, a6⟩ := Rc.deal_of e; have b3 := Rc.leg_of a3; have b4 := Rc.leg_of a4; omega
    exact q_ret (v := .int _ _) rfl rfl ⟨_, rfl, vi ((Rc.deal_no hn).symm), H.under⟩
  · skip
    refine k_region ?_
    refine s_run (w_none rfl) rfl (d_fa rfl rfl tf27_2) ?_
    refine s_run (w_none rfl) rfl (d_ldXM (g := gd) (cs := legC d.paid) (off := 2) rfl H rfl rfl rfl rfl rfl ta23 ts23) ?_
    refine s_run (w_none rfl) rfl (d_fa rfl rfl tf27_3) ?_
    refine s_run (w_none rfl) rfl (d_ldXM (g := gd) (cs := legC d.got) (off := 5) rfl H rfl rfl rfl rfl rfl ta23 ts23) ?_
    refine s_eff (e_bsl (xs := [.tmp 6, .tmp 8]) (vals := [.agg (legC d.paid).toArray, .agg (legC d.got).toArray]) (vs := (legC d.paid ++ legC d.got)) (w_none rfl) rfl rfl rfl rfl rfl rfl tu69 ts23 ty23 rfl rfl rfl H ?_)
    clear H; intro gl W H
    refine s_run (w_none rfl) rfl (as_s rfl rfl) ?_
    refine l_nil ?_
    refine k_seq ?_
    refine k_seq ?_
    refine k_region ?_
    refine s_run (w_none rfl) rfl (as_i rfl rfl) ?_
    refine l_nil ?_
    refine k_block ?_
    refine k_unr (k_one ?_)
    refine k_seq ?_
    refine k_seq ?_
    refine k_region ?_
    refine s_run (w_none rfl) rfl (mv_i rfl rfl) ?_
    refine s_run (w_none rfl) rfl (d_lt rfl rfl rfl) ?_
    refine l_nil ?_
    refine k_condT rfl rfl ?_
    refine k_skip ?_
    refine k_seq ?_
    refine k_block ?_
    refine k_seq ?_
    refine k_region ?_
    refine s_run (w_none rfl) rfl (mv_s rfl rfl) ?_
    refine s_run (w_none rfl) rfl (mv_i rfl rfl) ?_
    refine s_run (w_none rfl) rfl (d_iaP (q := 0) rfl rfl rfl rfl (by decide) tu69 ts23) ?_
    refine s_run (w_none rfl) rfl (d_fa rfl rfl tf23_0) ?_
    refine s_run (w_none rfl) rfl (d_ldX (g := gl) (off := 0 + 0 * 3 + 0) rfl H rfl rfl rfl ta3) ?_
    refine s_eff (e_call (w_none rfl) rfl rfl Tryz.func35 rfl rfl rfl (inR _) ?_)
    rintro _ W ⟨rfl, hb⟩
    replace H := H.below hb
    clear hb
    refine s_run (w_none rfl) rfl (d_not rfl rfl) ?_
    refine s_run (w_none rfl) rfl (mv_bx (c := false) rfl rfl (by first | rfl | (simp; omega) | simp_all)) ?_
    refine s_run (w_g rfl rfl rfl rfl) rfl (mv_s rfl rfl) ?_
    refine s_run (w_g rfl rfl rfl rfl) rfl (mv_i rfl rfl) ?_
    refine s_run (w_g rfl rfl rfl rfl) rfl (d_iaP (q := 0) rfl rfl rfl rfl (by decide) tu69 ts23) ?_
    refine s_run (w_g rfl rfl rfl rfl) rfl (d_fa rfl rfl tf23_1) ?_
    refine s_run (w_g rfl rfl rfl rfl) rfl (d_ldX (g := gl) (off := 0 + 0 * 3 + 1) rfl H rfl rfl rfl ta3) ?_
    refine s_eff (e_call (w_g rfl rfl rfl rfl) rfl rfl Tryz.func35 rfl rfl rfl (inR _) ?_)
    rintro _ W ⟨rfl, hb⟩
    replace H := H.below hb
    clear hb
    refine s_run (w_g rfl rfl rfl rfl) rfl (d_not rfl rfl) ?_
    refine s_run (w_none rfl) rfl (d_pickF rfl rfl rfl) ?_
    refine s_run (w_none rfl) rfl (mv_bx (c := false) rfl rfl (by first | rfl | (simp; omega) | simp_all)) ?_
    refine s_run (w_g rfl rfl rfl rfl) rfl (mv_s rfl rfl) ?_
    refine s_run (w_g rfl rfl rfl rfl) rfl (mv_i rfl rfl) ?_
    refine s_run (w_g rfl rfl rfl rfl) rfl (d_iaP (q := 0) rfl rfl rfl rfl (by decide) tu69 ts23) ?_
    refine s_run (w_g rfl rfl rfl rfl) rfl (d_fa rfl rfl tf23_2) ?_
    refine s_run (w_g rfl rfl rfl rfl) rfl (d_ldX (g := gl) (off := 0 + 0 * 3 + 2) rfl H rfl rfl rfl ta3) ?_
    refine s_eff (e_call (w_g rfl rfl rfl rfl) rfl rfl Tryz.func35 rfl rfl rfl (inR _) ?_)
    rintro _ W ⟨rfl, hb⟩
    replace H := H.below hb
    clear hb
    refine s_run (w_g rfl rfl rfl rfl) rfl (d_not rfl rfl) ?_
    refine s_run (w_none rfl) rfl (d_pickF rfl rfl rfl) ?_
    refine l_nil ?_
    refine k_condF rfl (by first | rfl | (simp; omega) | (simp; done) | simp_all) ?_
    refine k_skip ?_
    refine k_nil ?_
    refine b_end ?_
    refine k_region ?_
    refine s_run (w_none rfl) rfl (mv_i rfl rfl) ?_
    refine s_run (w_none rfl) rfl (d_add rfl rfl rfl (by omega)) ?_
    refine s_run (w_none rfl) rfl (as_i rfl rfl) ?_
    refine l_nil ?_
    refine k_nil ?_
    refine k_next (hd_of (k_one ?_))
    refine k_seq ?_
    refine k_seq ?_
    refine k_region ?_
    refine s_run (w_none rfl) rfl (mv_i rfl rfl) ?_
    refine s_run (w_none rfl) rfl (d_lt rfl rfl rfl) ?_
    refine l_nil ?_
    refine k_condT rfl rfl ?_
    refine k_skip ?_
    refine k_seq ?_
    refine k_block ?_
    refine k_seq ?_
    refine k_region ?_
    refine s_run (w_none rfl) rfl (mv_s rfl rfl) ?_
    refine s_run (w_none rfl) rfl (mv_i rfl rfl) ?_
    refine s_run (w_none rfl) rfl (d_iaP (q := 1) rfl rfl rfl rfl (by decide) tu69 ts23) ?_
    refine s_run (w_none rfl) rfl (d_fa rfl rfl tf23_0) ?_
    refine s_run (w_none rfl) rfl (d_ldX (g := gl) (off := 0 + 1 * 3 + 0) rfl H rfl rfl rfl ta3) ?_
    refine s_eff (e_call (w_none rfl) rfl rfl Tryz.func35 rfl rfl rfl (inR _) ?_)
    rintro _ W ⟨rfl, hb⟩
    replace H := H.below hb
    clear hb
    refine s_run (w_none rfl) rfl (d_not rfl rfl) ?_
    refine s_run (w_none rfl) rfl (mv_bx (c := false) rfl rfl (by first | rfl | (simp; omega) | simp_all)) ?_
    refine s_run (w_g rfl rfl rfl rfl) rfl (mv_s rfl rfl) ?_
    refine s_run (w_g rfl rfl rfl rfl) rfl (mv_i rfl rfl) ?_
    refine s_run (w_g rfl rfl rfl rfl) rfl (d_iaP (q := 1) rfl rfl rfl rfl (by decide) tu69 ts23) ?_
    refine s_run (w_g rfl rfl rfl rfl) rfl (d_fa rfl rfl tf23_1) ?_
    refine s_run (w_g rfl rfl rfl rfl) rfl (d_ldX (g := gl) (off := 0 + 1 * 3 + 1) rfl H rfl rfl rfl ta3) ?_
    refine s_eff (e_call (w_g rfl rfl rfl rfl) rfl rfl Tryz.func35 rfl rfl rfl (inR _) ?_)
    rintro _ W ⟨rfl, hb⟩
    replace H := H.below hb
    clear hb
    refine s_run (w_g rfl rfl rfl rfl) rfl (d_not rfl rfl) ?_
    refine s_run (w_none rfl) rfl (d_pickF rfl rfl rfl) ?_
    refine s_run (w_none rfl) rfl (mv_bx (c := false) rfl rfl (by first | rfl | (simp; omega) | simp_all)) ?_
    refine s_run (w_g rfl rfl rfl rfl) rfl (mv_s rfl rfl) ?_
    refine s_run (w_g rfl rfl rfl rfl) rfl (mv_i rfl rfl) ?_
    refine s_run (w_g rfl rfl rfl rfl) rfl (d_iaP (q := 1) rfl rfl rfl rfl (by decide) tu69 ts23) ?_
    refine s_run (w_g rfl rfl rfl rfl) rfl (d_fa rfl rfl tf23_2) ?_
    refine s_run (w_g rfl rfl rfl rfl) rfl (d_ldX (g := gl) (off := 0 + 1 * 3 + 2) rfl H rfl rfl rfl ta3) ?_
    refine s_eff (e_call (w_g rfl rfl rfl rfl) rfl rfl Tryz.func35 rfl rfl rfl (inR _) ?_)
    rintro _ W ⟨rfl, hb⟩
    replace H := H.below hb
    clear hb
    refine s_run (w_g rfl rfl rfl rfl) rfl (d_not rfl rfl) ?_
    refine s_run (w_none rfl) rfl (d_pickF rfl rfl rfl) ?_
    refine l_nil ?_
    refine k_condF rfl (by first | rfl | (simp; omega) | (simp; done) | simp_all) ?_
    refine k_skip ?_
    refine k_nil ?_
    refine b_end ?_
    refine k_region ?_
    refine s_run (w_none rfl) rfl (mv_i rfl rfl) ?_
    refine s_run (w_none rfl) rfl (d_add rfl rfl rfl (by omega)) ?_
    refine s_run (w_none rfl) rfl (as_i rfl rfl) ?_
    refine l_nil ?_
    refine k_nil ?_
    refine k_next (hd_of (k_one ?_))
    refine k_seq ?_
    refine k_seq ?_
    refine k_region ?_
    refine s_run (w_none rfl) rfl (mv_i rfl rfl) ?_
    refine s_run (w_none rfl) rfl (d_lt rfl rfl rfl) ?_
    refine l_nil ?_
    refine k_condF rfl rfl ?_
    refine k_exit ?_
    refine x_then (x_then ?_)
    refine x_hit ?_
    refine k_seq ?_
    refine k_seq ?_
    rcases (show d.paid.whereA = d.got.whereA ∨ (d.paid.whereA ≠ d.got.whereA ∧ ¬ (1 ≤ d.id ∧ d.id ≤ 1073741824)) ∨ (d.paid.whereA ≠ d.got.whereA ∧ (1 ≤ d.id ∧ d.id ≤ 1073741824) ∧ ¬ (1 ≤ d.role ∧ d.role ≤ 2)) ∨ (d.paid.whereA ≠ d.got.whereA ∧ (1 ≤ d.id ∧ d.id ≤ 1073741824) ∧ (1 ≤ d.role ∧ d.role ≤ 2) ∧ ¬ (1 ≤ d.peer ∧ d.peer ≤ 32)) ∨ (d.paid.whereA ≠ d.got.whereA ∧ (1 ≤ d.id ∧ d.id ≤ 1073741824) ∧ (1 ≤ d.role ∧ d.role ≤ 2) ∧ (1 ≤ d.peer ∧ d.peer ≤ 32)) by omega) with h2 | h2 | h2 | h2 | h2
    · skip
      refine k_region ?_
      refine s_run (w_none rfl) rfl (d_fa rfl rfl tf27_2) ?_
      refine s_run (w_none rfl) rfl (d_fa rfl rfl tf23_0) ?_
      refine s_run (w_none rfl) rfl (d_ldX (g := gd) (off := 2) rfl H rfl rfl rfl ta3) ?_
      refine s_run (w_none rfl) rfl (d_fa rfl rfl tf27_3) ?_
      refine s_run (w_none rfl) rfl (d_fa rfl rfl tf23_0) ?_
      refine s_run (w_none rfl) rfl (d_ldX (g := gd) (off := 5) rfl H rfl rfl rfl ta3) ?_
      refine s_run (w_none rfl) rfl (d_eq rfl rfl rfl) ?_
      refine s_run (w_none rfl) rfl (mv_bx (c := true) rfl rfl (by first | rfl | (simp; omega) | simp_all)) ?_
      refine s_skip (w_gno rfl rfl rfl rfl rfl) rfl ?_
      refine s_skip (w_gno rfl rfl rfl rfl rfl) rfl ?_
      refine s_skip (w_gno rfl rfl rfl rfl rfl) rfl ?_
      refine s_skip (w_gno rfl rfl rfl rfl rfl) rfl ?_
      refine s_run (w_none rfl) rfl (d_pickT rfl rfl rfl) ?_
      refine s_run (w_none rfl) rfl (mv_bx (c := true) rfl rfl (by first | rfl | (simp; omega) | simp_all)) ?_
      refine s_skip (w_gno rfl rfl rfl rfl rfl) rfl ?_
      refine s_skip (w_gno rfl rfl rfl rfl rfl) rfl ?_
      refine s_skip (w_gno rfl rfl rfl rfl rfl) rfl ?_
      refine s_skip (w_gno rfl rfl rfl rfl rfl) rfl ?_
      refine s_run (w_none rfl) rfl (d_pickT rfl rfl rfl) ?_
      refine s_run (w_none rfl) rfl (mv_bx (c := true) rfl rfl (by first | rfl | (simp; omega) | simp_all)) ?_
      refine s_skip (w_gno rfl rfl rfl rfl rfl) rfl ?_
      refine s_skip (w_gno rfl rfl rfl rfl rfl) rfl ?_
      refine s_skip (w_gno rfl rfl rfl rfl rfl) rfl ?_
      refine s_skip (w_gno rfl rfl rfl rfl rfl) rfl ?_
      refine s_run (w_none rfl) rfl (d_pickT rfl rfl rfl) ?_
      refine l_nil ?_
      refine k_condT rfl (by first | rfl | (simp; omega) | (simp; done) | simp_all) ?_
      refine k_seq ?_
      refine k_region ?_
      refine s_run (w_none rfl) rfl (as_i rfl rfl) ?_
      refine l_nil ?_
      refine k_ret ?_
      repeat (first | refine r_then ?_ | refine r_blk ?_)
      have hn : ¬ Rc.dealOk d = true := fun e => by obtain ⟨a1, a2, a3, a4, a5, a6⟩ := Rc.deal_of e; have b3 := Rc.leg_of a3; have b4 := Rc.leg_of a4; omega
      exact q_ret (v := .int _ _) rfl rfl ⟨_, rfl, vi ((Rc.deal_no hn).symm), H.under⟩
    · skip
      refine k_region ?_
      refine s_run (w_none rfl) rfl (d_fa rfl rfl tf27_2) ?_
      refine s_run (w_none rfl) rfl (d_fa rfl rfl tf23_0) ?_
      refine s_run (w_none rfl) rfl (d_ldX (g := gd) (off := 2) rfl H rfl rfl rfl ta3) ?_
      refine s_run (w_none rfl) rfl (d_fa rfl rfl tf27_3) ?_
      refine s_run (w_none rfl) rfl (d_fa rfl rfl tf23_0) ?_
      refine s_run (w_none rfl) rfl (d_ldX (g := gd) (off := 5) rfl H rfl rfl rfl ta3) ?_
      refine s_run (w_none rfl) rfl (d_eq rfl rfl rfl) ?_
      refine s_run (w_none rfl) rfl (mv_bx (c := false) rfl rfl (by first | rfl | (simp; omega) | simp_all)) ?_
      refine s_run (w_g rfl rfl rfl rfl) rfl (d_fa rfl rfl tf27_0) ?_
      refine s_run (w_g rfl rfl rfl rfl) rfl (d_ldX (g := gd) (off := 0) rfl H rfl rfl rfl ta3) ?_
      refine s_eff (e_call (w_g rfl rfl rfl rfl) rfl rfl Tryz.func35 rfl rfl rfl (inR _) ?_)
      rintro _ W ⟨rfl, hb⟩
      replace H := H.below hb
      clear hb
      refine s_run (w_g rfl rfl rfl rfl) rfl (d_not rfl rfl) ?_
      refine s_run (w_none rfl) rfl (d_pickF rfl rfl rfl) ?_
      refine s_run (w_none rfl) rfl (mv_bx (c := true) rfl rfl (by first | rfl | (simp; omega) | simp_all)) ?_
      refine s_skip (w_gno rfl rfl rfl rfl rfl) rfl ?_
      refine s_skip (w_gno rfl rfl rfl rfl rfl) rfl ?_
      refine s_skip (w_gno rfl rfl rfl rfl rfl) rfl ?_
      refine s_skip (w_gno rfl rfl rfl rfl rfl) rfl ?_
      refine s_run (w_none rfl) rfl (d_pickT rfl rfl rfl) ?_
      refine s_run (w_none rfl) rfl (mv_bx (c := true) rfl rfl (by first | rfl | (simp; omega) | simp_all)) ?_
      refine s_skip (w_gno rfl rfl rfl rfl rfl) rfl ?_
      refine s_skip (w_gno rfl rfl rfl rfl rfl) rfl ?_
      refine s_skip (w_gno rfl rfl rfl rfl rfl) rfl ?_
      refine s_skip (w_gno rfl rfl rfl rfl rfl) rfl ?_
      refine s_run (w_none rfl) rfl (d_pickT rfl rfl rfl) ?_
      refine l_nil ?_
      refine k_condT rfl (by first | rfl | (simp; omega) | (simp; done) | simp_all) ?_
      refine k_seq ?_
      refine k_region ?_
      refine s_run (w_none rfl) rfl (as_i rfl rfl) ?_
      refine l_nil ?_
      refine k_ret ?_
      repeat (first | refine r_then ?_ | refine r_blk ?_)
      have hn : ¬ Rc.dealOk d = true := fun e => by obtain ⟨a1, a2, a3, a4, a5, a6⟩ := Rc.deal_of e; have b3 := Rc.leg_of a3; have b4 := Rc.leg_of a4; omega
      exact q_ret (v := .int _ _) rfl rfl ⟨_, rfl, vi ((Rc.deal_no hn).symm), H.under⟩
    · skip
      refine k_region ?_
      refine s_run (w_none rfl) rfl (d_fa rfl rfl tf27_2) ?_
      refine s_run (w_none rfl) rfl (d_fa rfl rfl tf23_0) ?_
      refine s_run (w_none rfl) rfl (d_ldX (g := gd) (off := 2) rfl H rfl rfl rfl ta3) ?_
      refine s_run (w_none rfl) rfl (d_fa rfl rfl tf27_3) ?_
      refine s_run (w_none rfl) rfl (d_fa rfl rfl tf23_0) ?_
      refine s_run (w_none rfl) rfl (d_ldX (g := gd) (off := 5) rfl H rfl rfl rfl ta3) ?_
      refine s_run (w_none rfl) rfl (d_eq rfl rfl rfl) ?_
      refine s_run (w_none rfl) rfl (mv_bx (c := false) rfl rfl (by first | rfl | (simp; omega) | simp_all)) ?_
      refine s_run (w_g rfl rfl rfl rfl) rfl (d_fa rfl rfl tf27_0) ?_
      refine s_run (w_g rfl rfl rfl rfl) rfl (d_ldX (g := gd) (off := 0) rfl H rfl rfl rfl ta3) ?_
      refine s_eff (e_call (w_g rfl rfl rfl rfl) rfl rfl Tryz.func35 rfl rfl rfl (inR _) ?_)
      rintro _ W ⟨rfl, hb⟩
      replace H := H.below hb
      clear hb
      refine s_run (w_g rfl rfl rfl rfl) rfl (d_not rfl rfl) ?_
      refine s_run (w_none rfl) rfl (d_pickF rfl rfl rfl) ?_
      refine s_run (w_none rfl) rfl (mv_bx (c := false) rfl rfl (by first | rfl | (simp; omega) | simp_all)) ?_
      refine s_run (w_g rfl rfl rfl rfl) rfl (d_fa rfl rfl tf27_1) ?_
      refine s_run (w_g rfl rfl rfl rfl) rfl (d_ldX (g := gd) (off := 1) rfl H rfl rfl rfl ta3) ?_
      refine s_eff (e_call (w_g rfl rfl rfl rfl) rfl rfl Tryz.func35 rfl rfl rfl (inR _) ?_)
      rintro _ W ⟨rfl, hb⟩
      replace H := H.below hb
      clear hb
      refine s_run (w_g rfl rfl rfl rfl) rfl (d_not rfl rfl) ?_
      refine s_run (w_none rfl) rfl (d_pickF rfl rfl rfl) ?_
      refine s_run (w_none rfl) rfl (mv_bx (c := true) rfl rfl (by first | rfl | (simp; omega) | simp_all)) ?_
      refine s_skip (w_gno rfl rfl rfl rfl rfl) rfl ?_
      refine s_skip (w_gno rfl rfl rfl rfl rfl) rfl ?_
      refine s_skip (w_gno rfl rfl rfl rfl rfl) rfl ?_
      refine s_skip (w_gno rfl rfl rfl rfl rfl) rfl ?_
      refine s_run (w_none rfl) rfl (d_pickT rfl rfl rfl) ?_
      refine l_nil ?_
      refine k_condT rfl (by first | rfl | (simp; omega) | (simp; done) | simp_all) ?_
      refine k_seq ?_
      refine k_region ?_
      refine s_run (w_none rfl) rfl (as_i rfl rfl) ?_
      refine l_nil ?_
      refine k_ret ?_
      repeat (first | refine r_then ?_ | refine r_blk ?_)
      have hn : ¬ Rc.dealOk d = true := fun e => by obtain ⟨a1, a2, a3, a4, a5, a6⟩ := Rc.deal_of e; have b3 := Rc.leg_of a3; have b4 := Rc.leg_of a4; omega
      exact q_ret (v := .int _ _) rfl rfl ⟨_, rfl, vi ((Rc.deal_no hn).symm), H.under⟩
    · skip
      refine k_region ?_
      refine s_run (w_none rfl) rfl (d_fa rfl rfl tf27_2) ?_
      refine s_run (w_none rfl) rfl (d_fa rfl rfl tf23_0) ?_
      refine s_run (w_none rfl) rfl (d_ldX (g := gd) (off := 2) rfl H rfl rfl rfl ta3) ?_
      refine s_run (w_none rfl) rfl (d_fa rfl rfl tf27_3) ?_
      refine s_run (w_none rfl) rfl (d_fa rfl rfl tf23_0) ?_
      refine s_run (w_none rfl) rfl (d_ldX (g := gd) (off := 5) rfl H rfl rfl rfl ta3) ?_
      refine s_run (w_none rfl) rfl (d_eq rfl rfl rfl) ?_
      refine s_run (w_none rfl) rfl (mv_bx (c := false) rfl rfl (by first | rfl | (simp; omega) | simp_all)) ?_
      refine s_run (w_g rfl rfl rfl rfl) rfl (d_fa rfl rfl tf27_0) ?_
      refine s_run (w_g rfl rfl rfl rfl) rfl (d_ldX (g := gd) (off := 0) rfl H rfl rfl rfl ta3) ?_
      refine s_eff (e_call (w_g rfl rfl rfl rfl) rfl rfl Tryz.func35 rfl rfl rfl (inR _) ?_)
      rintro _ W ⟨rfl, hb⟩
      replace H := H.below hb
      clear hb
      refine s_run (w_g rfl rfl rfl rfl) rfl (d_not rfl rfl) ?_
      refine s_run (w_none rfl) rfl (d_pickF rfl rfl rfl) ?_
      refine s_run (w_none rfl) rfl (mv_bx (c := false) rfl rfl (by first | rfl | (simp; omega) | simp_all)) ?_
      refine s_run (w_g rfl rfl rfl rfl) rfl (d_fa rfl rfl tf27_1) ?_
      refine s_run (w_g rfl rfl rfl rfl) rfl (d_ldX (g := gd) (off := 1) rfl H rfl rfl rfl ta3) ?_
      refine s_eff (e_call (w_g rfl rfl rfl rfl) rfl rfl Tryz.func35 rfl rfl rfl (inR _) ?_)
      rintro _ W ⟨rfl, hb⟩
      replace H := H.below hb
      clear hb
      refine s_run (w_g rfl rfl rfl rfl) rfl (d_not rfl rfl) ?_
      refine s_run (w_none rfl) rfl (d_pickF rfl rfl rfl) ?_
      refine s_run (w_none rfl) rfl (mv_bx (c := false) rfl rfl (by first | rfl | (simp; omega) | simp_all)) ?_
      refine s_run (w_g rfl rfl rfl rfl) rfl (d_fa rfl rfl tf27_5) ?_
      refine s_run (w_g rfl rfl rfl rfl) rfl (d_ldX (g := gd) (off := 40) rfl H (sub_d_peer hh) rfl rfl ta3) ?_
      refine s_eff (e_call (w_g rfl rfl rfl rfl) rfl rfl Tryz.func35 rfl rfl rfl (inR _) ?_)
      rintro _ W ⟨rfl, hb⟩
      replace H := H.below hb
      clear hb
      refine s_run (w_g rfl rfl rfl rfl) rfl (d_not rfl rfl) ?_
      refine s_run (w_none rfl) rfl (d_pickF rfl rfl rfl) ?_
      refine l_nil ?_
      refine k_condT rfl (by first | rfl | (simp; omega) | (simp; done) | simp_all) ?_
      refine k_seq ?_
      refine k_region ?_
      refine s_run (w_none rfl) rfl (as_i rfl rfl) ?_
      refine l_nil ?_
      refine k_ret ?_
      repeat (first | refine r_then ?_ | refine r_blk ?_)
      have hn : ¬ Rc.dealOk d = true := fun e => by obtain ⟨a1, a2, a3, a4, a5, a6⟩ := Rc.deal_of e; have b3 := Rc.leg_of a3; have b4 := Rc.leg_of a4; omega
      exact q_ret (v := .int _ _) rfl rfl ⟨_, rfl, vi ((Rc.deal_no hn).symm), H.under⟩
    · skip
      refine k_region ?_
      refine s_run (w_none rfl) rfl (d_fa rfl rfl tf27_2) ?_
      refine s_run (w_none rfl) rfl (d_fa rfl rfl tf23_0) ?_
      refine s_run (w_none rfl) rfl (d_ldX (g := gd) (off := 2) rfl H rfl rfl rfl ta3) ?_
      refine s_run (w_none rfl) rfl (d_fa rfl rfl tf27_3) ?_
      refine s_run (w_none rfl) rfl (d_fa rfl rfl tf23_0) ?_
      refine s_run (w_none rfl) rfl (d_ldX (g := gd) (off := 5) rfl H rfl rfl rfl ta3) ?_
      refine s_run (w_none rfl) rfl (d_eq rfl rfl rfl) ?_
      refine s_run (w_none rfl) rfl (mv_bx (c := false) rfl rfl (by first | rfl | (simp; omega) | simp_all)) ?_
      refine s_run (w_g rfl rfl rfl rfl) rfl (d_fa rfl rfl tf27_0) ?_
      refine s_run (w_g rfl rfl rfl rfl) rfl (d_ldX (g := gd) (off := 0) rfl H rfl rfl rfl ta3) ?_
      refine s_eff (e_call (w_g rfl rfl rfl rfl) rfl rfl Tryz.func35 rfl rfl rfl (inR _) ?_)
      rintro _ W ⟨rfl, hb⟩
      replace H := H.below hb
      clear hb
      refine s_run (w_g rfl rfl rfl rfl) rfl (d_not rfl rfl) ?_
      refine s_run (w_none rfl) rfl (d_pickF rfl rfl rfl) ?_
      refine s_run (w_none rfl) rfl (mv_bx (c := false) rfl rfl (by first | rfl | (simp; omega) | simp_all)) ?_
      refine s_run (w_g rfl rfl rfl rfl) rfl (d_fa rfl rfl tf27_1) ?_
      refine s_run (w_g rfl rfl rfl rfl) rfl (d_ldX (g := gd) (off := 1) rfl H rfl rfl rfl ta3) ?_
      refine s_eff (e_call (w_g rfl rfl rfl rfl) rfl rfl Tryz.func35 rfl rfl rfl (inR _) ?_)
      rintro _ W ⟨rfl, hb⟩
      replace H := H.below hb
      clear hb
      refine s_run (w_g rfl rfl rfl rfl) rfl (d_not rfl rfl) ?_
      refine s_run (w_none rfl) rfl (d_pickF rfl rfl rfl) ?_
      refine s_run (w_none rfl) rfl (mv_bx (c := false) rfl rfl (by first | rfl | (simp; omega) | simp_all)) ?_
      refine s_run (w_g rfl rfl rfl rfl) rfl (d_fa rfl rfl tf27_5) ?_
      refine s_run (w_g rfl rfl rfl rfl) rfl (d_ldX (g := gd) (off := 40) rfl H (sub_d_peer hh) rfl rfl ta3) ?_
      refine s_eff (e_call (w_g rfl rfl rfl rfl) rfl rfl Tryz.func35 rfl rfl rfl (inR _) ?_)
      rintro _ W ⟨rfl, hb⟩
      replace H := H.below hb
      clear hb
      refine s_run (w_g rfl rfl rfl rfl) rfl (d_not rfl rfl) ?_
      refine s_run (w_none rfl) rfl (d_pickF rfl rfl rfl) ?_
      refine l_nil ?_
      refine k_condF rfl (by first | rfl | (simp; omega) | (simp; done) | simp_all) ?_
      refine k_skip ?_
      refine k_seq ?_
      refine k_region ?_
      refine s_run (w_none rfl) rfl (as_i rfl rfl) ?_
      refine l_nil ?_
      refine k_ret ?_
      repeat (first | refine r_then ?_ | refine r_blk ?_)
      exact q_ret (v := .int _ _) rfl rfl ⟨_, rfl, vi ((Rc.deal_yes (Rc.deal_mk h2.2.1 h2.2.2.1 (by unfold Rc.legOk; simp; omega) (by unfold Rc.legOk; simp; omega) h2.1 h2.2.2.2)).symm), H.under⟩

set_option maxHeartbeats 4000000 in
theorem noneR {S : Nat → Prop} {cs : List Value} {t : DTx} (w : World) (ht : RTx w S cs t) (hs : t.ins.length ≤ 1000000 ∧ t.outs.length ≤ 1000000) : Calls Tryz.prog 30 [.agg cs.toArray].toArray w (Ret (Is w (.bool (Rc.none t)))) := by
  obtain ⟨A, c, B, d, rfl, hI, hO, hk⟩ := tx_of ht
  rw [Rc.none_at]
  refine k_enter (l := [_]) Tryz.func30 rfl rfl ?_
  have H := St.start nT w
  refine k_seq ?_
  refine k_region ?_
  refine s_eff (e_box (vs := (txC A t.ins.length c B t.outs.length d t.lock)) (w_none rfl) rfl rfl rfl rfl H ?_)
  clear H; intro gm W H
  refine s_run (w_none rfl) rfl (as_b rfl rfl) ?_
  refine l_nil ?_
  refine k_seq ?_
  rcases (show ¬ (t.ins.length + t.outs.length = 0) ∨ (t.ins.length = 0 ∧ t.outs.length = 0) by omega) with h1 | h1
  · skip
    refine k_region ?_
    refine s_run (w_none rfl) rfl (d_fa rfl rfl tf31_0) ?_
    refine s_run (w_none rfl) rfl (d_ld rfl H rfl ta28 rfl) ?_
    refine s_run (w_none rfl) rfl (d_len rfl rfl tu28) ?_
    refine s_run (w_none rfl) rfl (d_fa rfl rfl tf31_1) ?_
    refine s_run (w_none rfl) rfl (d_ld rfl H rfl ta29 rfl) ?_
    refine s_run (w_none rfl) rfl (d_len rfl rfl tu29) ?_
    refine s_run (w_none rfl) rfl (d_add rfl rfl rfl (by omega)) ?_
    refine s_run (w_none rfl) rfl (d_eq rfl rfl rfl) ?_
    refine s_run (w_none rfl) rfl (mv_bx (c := false) rfl rfl (by first | rfl | (simp; omega) | simp_all)) ?_
    refine s_skip (w_gno rfl rfl rfl rfl rfl) rfl ?_
    refine s_skip (w_gno rfl rfl rfl rfl rfl) rfl ?_
    refine s_skip (w_gno rfl rfl rfl rfl rfl) rfl ?_
    refine s_run (w_none rfl) rfl (d_pickF rfl rfl rfl) ?_
    refine s_run (w_none rfl) rfl (as_b rfl rfl) ?_
    refine l_nil ?_
    refine k_ret ?_
    repeat (first | refine r_then ?_ | refine r_blk ?_)
    exact q_ret (v := .bool _) rfl rfl ⟨_, rfl, vb (by first | (simp; omega) | simp_all), H.under⟩
  · skip
    refine k_region ?_
    refine s_run (w_none rfl) rfl (d_fa rfl rfl tf31_0) ?_
    refine s_run (w_none rfl) rfl (d_ld rfl H rfl ta28 rfl) ?_
    refine s_run (w_none rfl) rfl (d_len rfl rfl tu28) ?_
    refine s_run (w_none rfl) rfl (d_fa rfl rfl tf31_1) ?_
    refine s_run (w_none rfl) rfl (d_ld rfl H rfl ta29 rfl) ?_
    refine s_run (w_none rfl) rfl (d_len rfl rfl tu29) ?_
    refine s_run (w_none rfl) rfl (d_add rfl rfl rfl (by omega)) ?_
    refine s_run (w_none rfl) rfl (d_eq rfl rfl rfl) ?_
    refine s_run (w_none rfl) rfl (mv_bx (c := true) rfl rfl (by first | rfl | (simp; omega) | simp_all)) ?_
    refine s_run (w_g rfl rfl rfl rfl) rfl (d_fa rfl rfl tf31_2) ?_
    refine s_run (w_g rfl rfl rfl rfl) rfl (d_ld rfl H rfl ta3 rfl) ?_
    refine s_run (w_g rfl rfl rfl rfl) rfl (d_eq rfl rfl rfl) ?_
    refine s_run (w_none rfl) rfl (d_pickT rfl rfl rfl) ?_
    refine s_run (w_none rfl) rfl (as_b rfl rfl) ?_
    refine l_nil ?_
    refine k_ret ?_
    repeat (first | refine r_then ?_ | refine r_blk ?_)
    exact q_ret (v := .bool _) rfl rfl ⟨_, rfl, vb (by first | (simp; omega) | simp_all), H.under⟩

set_option maxHeartbeats 4000000 in
theorem checkRR {S : Nat → Prop} {ct : List Value} {r : DRecord} (w : World) (ho : Rc.Ok r) (ht : RTx w S ct r.tx) (hs : r.tx.ins.length ≤ 1000000 ∧ r.tx.outs.length ≤ 1000000) : Calls Tryz.prog 13 [.agg (recC r ct).toArray].toArray w (Ret (Is w (.int .i64 (Rc.chk r)))) := by
  obtain ⟨A, c, B, d, rfl, hI, hO, hk⟩ := tx_of ht
  refine k_enter (l := [_]) Tryz.func13 rfl rfl ?_
  have H := St.start nT w
  refine k_seq ?_
  refine k_region ?_
  refine s_eff (e_box (vs := (recC r (txC A r.tx.ins.length c B r.tx.outs.length d r.tx.lock))) (w_none rfl) rfl rfl rfl rfl H ?_)
  clear H; intro gm W H
  refine s_run (w_none rfl) rfl (as_i rfl rfl) ?_
  refine l_nil ?_
  refine k_seq ?_
  refine k_seq ?_
  refine k_region ?_
  refine s_run (w_none rfl) rfl (d_fa rfl rfl tf33_0) ?_
  refine s_run (w_none rfl) rfl (d_ldX (g := gm) (off := 0) rfl H rfl rfl rfl ta3) ?_
  refine s_eff (e_call (w_none rfl) rfl rfl Tryz.func35 rfl rfl rfl (inR _) ?_)
  rintro _ W ⟨rfl, hb⟩
  replace H := H.below hb
  clear hb
  refine s_run (w_none rfl) rfl (d_not rfl rfl) ?_
  refine l_nil ?_
  refine k_cond rfl (fun hc6 => ?_) (fun hc6 => ?_)
  · have hk9 : r.kind < 1 ∨ 4 < r.kind := by simp at hc6; omega
    refine k_seq ?_
    refine k_region ?_
    refine s_run (w_none rfl) rfl (as_i rfl rfl) ?_
    refine l_nil ?_
    refine k_ret ?_
    repeat (first | refine r_then ?_ | refine r_blk ?_)
    exact q_ret (v := .int _ _) rfl rfl ⟨_, rfl, vi ((Rc.chk_bad hk9).symm), H.under⟩
  · have hk9 : 1 ≤ r.kind ∧ r.kind ≤ 4 := by simpa using hc6
    refine k_skip ?_
    refine k_seq ?_
    refine k_seq ?_
    rcases (show ¬ (1 ≤ r.id ∧ r.id ≤ 1073741824) ∨ ((1 ≤ r.id ∧ r.id ≤ 1073741824) ∧ _) from (Decidable.em (1 ≤ r.id ∧ r.id ≤ 1073741824)).symm.imp_right (fun h => ⟨h, Rc.own_cases r⟩)) with h1 | ⟨hid, h1 | h1 | h1 | h1 | h1 | h1 | h1 | h1⟩
    · skip
      refine k_region ?_
      refine s_run (w_none rfl) rfl (d_fa rfl rfl tf33_1) ?_
      refine s_run (w_none rfl) rfl (d_ldX (g := gm) (off := 1) rfl H rfl rfl rfl ta3) ?_
      refine s_eff (e_call (w_none rfl) rfl rfl Tryz.func35 rfl rfl rfl (inR _) ?_)
      rintro _ W ⟨rfl, hb⟩
      replace H := H.below hb
      clear hb
      refine s_run (w_none rfl) rfl (d_not rfl rfl) ?_
      refine s_run (w_none rfl) rfl (mv_bx (c := true) rfl rfl (by first | rfl | (simp; omega) | simp_all)) ?_
      refine s_skip (w_gno rfl rfl rfl rfl rfl) rfl ?_
      refine s_skip (w_gno rfl rfl rfl rfl rfl) rfl ?_
      refine s_skip (w_gno rfl rfl rfl rfl rfl) rfl ?_
      refine s_skip (w_gno rfl rfl rfl rfl rfl) rfl ?_
      refine s_skip (w_gu rfl rfl rfl rfl rfl) rfl ?_
      refine s_skip (w_gu rfl rfl rfl rfl rfl) rfl ?_
      refine s_skip (w_gu rfl rfl rfl rfl rfl) rfl ?_
      refine s_skip (w_gu rfl rfl rfl rfl rfl) rfl ?_
      refine s_skip (w_gu rfl rfl rfl rfl rfl) rfl ?_
      refine s_skip (w_gu rfl rfl rfl rfl rfl) rfl ?_
      refine s_skip (w_gu rfl rfl rfl rfl rfl) rfl ?_
      refine s_skip (w_gu rfl rfl rfl rfl rfl) rfl ?_
      refine s_skip (w_gu rfl rfl rfl rfl rfl) rfl ?_
      refine s_skip (w_gu rfl rfl rfl rfl rfl) rfl ?_
      refine s_skip (w_gu rfl rfl rfl rfl rfl) rfl ?_
      refine s_skip (w_gu rfl rfl rfl rfl rfl) rfl ?_
      refine s_skip (w_gno rfl rfl rfl rfl rfl) rfl ?_
      refine s_run (w_none rfl) rfl (d_pickT rfl rfl rfl) ?_
      refine s_run (w_none rfl) rfl (mv_bx (c := true) rfl rfl (by first | rfl | (simp; omega) | simp_all)) ?_
      refine s_skip (w_gno rfl rfl rfl rfl rfl) rfl ?_
      refine s_skip (w_gno rfl rfl rfl rfl rfl) rfl ?_
      refine s_skip (w_gno rfl rfl rfl rfl rfl) rfl ?_
      refine s_skip (w_gno rfl rfl rfl rfl rfl) rfl ?_
      refine s_skip (w_gu rfl rfl rfl rfl rfl) rfl ?_
      refine s_skip (w_gu rfl rfl rfl rfl rfl) rfl ?_
      refine s_skip (w_gu rfl rfl rfl rfl rfl) rfl ?_
      refine s_skip (w_gu rfl rfl rfl rfl rfl) rfl ?_
      refine s_skip (w_gno rfl rfl rfl rfl rfl) rfl ?_
      refine s_run (w_none rfl) rfl (d_pickT rfl rfl rfl) ?_
      refine s_run (w_none rfl) rfl (mv_bx (c := true) rfl rfl (by first | rfl | (simp; omega) | simp_all)) ?_
      refine s_skip (w_gno rfl rfl rfl rfl rfl) rfl ?_
      refine s_skip (w_gno rfl rfl rfl rfl rfl) rfl ?_
      refine s_skip (w_gno rfl rfl rfl rfl rfl) rfl ?_
      refine s_skip (w_gno rfl rfl rfl rfl rfl) rfl ?_
      refine s_skip (w_gu rfl rfl rfl rfl rfl) rfl ?_
      refine s_skip (w_gu rfl rfl rfl rfl rfl) rfl ?_
      refine s_skip (w_gu rfl rfl rfl rfl rfl) rfl ?_
      refine s_skip (w_gu rfl rfl rfl rfl rfl) rfl ?_
      refine s_skip (w_gno rfl rfl rfl rfl rfl) rfl ?_
      refine s_run (w_none rfl) rfl (d_pickT rfl rfl rfl) ?_
      refine l_nil ?_
      refine k_condT rfl (by first | rfl | (simp; omega) | simp_all) ?_
      refine k_seq ?_
      refine k_region ?_
      refine s_run (w_none rfl) rfl (as_i rfl rfl) ?_
      refine l_nil ?_
      refine k_ret ?_
      repeat (first | refine r_then ?_ | refine r_blk ?_)
      have ha : ¬ Rc.argOk r = true := fun e => by obtain ⟨a0, a1, a3, a4⟩ := Rc.arg_of e; exact h1 a0
      have ho1 := Rc.own_bad ha
      exact q_ret (v := .int _ _) rfl rfl ⟨_, rfl, vi (by rw [Rc.chk_own hk9 (by rw [ho1]; decide), ho1]), H.under⟩
    · skip
      refine k_region ?_
      refine s_run (w_none rfl) rfl (d_fa rfl rfl tf33_1) ?_
      refine s_run (w_none rfl) rfl (d_ldX (g := gm) (off := 1) rfl H rfl rfl rfl ta3) ?_
      refine s_eff (e_call (w_none rfl) rfl rfl Tryz.func35 rfl rfl rfl (inR _) ?_)
      rintro _ W ⟨rfl, hb⟩
      replace H := H.below hb
      clear hb
      refine s_run (w_none rfl) rfl (d_not rfl rfl) ?_
      refine s_run (w_none rfl) rfl (mv_bx (c := false) rfl rfl (by first | rfl | (simp; omega) | simp_all)) ?_
      refine s_run (w_g rfl rfl rfl rfl) rfl (d_fa rfl rfl tf33_0) ?_
      refine s_run (w_g rfl rfl rfl rfl) rfl (d_ldX (g := gm) (off := 0) rfl H rfl rfl rfl ta3) ?_
      refine s_run (w_g rfl rfl rfl rfl) rfl (d_eq rfl rfl rfl) ?_
      refine s_run (w_g rfl rfl rfl rfl) rfl (mv_bx (c := true) rfl rfl (by first | rfl | (simp; omega) | simp_all)) ?_
      refine s_run (w_g rfl rfl rfl rfl) rfl (d_fa rfl rfl tf33_2) ?_
      refine s_run (w_g rfl rfl rfl rfl) rfl (d_ldXM (g := gm) (off := 2) rfl H (sub_r_deal ho) (len_deal ho.2.2.1.2.2.2.2.1) rfl rfl rfl ta27 ts27) ?_
      refine s_eff (e_call (w_g rfl rfl rfl rfl) rfl rfl Tryz.func11 rfl rfl rfl (dealR (d := r.deal) _ ho.2.2.1.2.2.2.2.1) ?_)
      rintro _ W ⟨rfl, hb⟩
      replace H := H.below hb
      clear hb
      refine s_run (w_g rfl rfl rfl rfl) rfl (d_ne rfl rfl rfl) ?_
      refine s_run (w_g rfl rfl rfl rfl) rfl (mv_bx (c := true) rfl rfl (by first | (rw [Rc.deal_yes h1.2.1]; rfl) | (rw [Rc.deal_no (by rw [h1.2]; simp)]; rfl))) ?_
      refine s_skip (w_gno rfl rfl rfl rfl rfl) rfl ?_
      refine s_skip (w_gno rfl rfl rfl rfl rfl) rfl ?_
      refine s_skip (w_gno rfl rfl rfl rfl rfl) rfl ?_
      refine s_skip (w_gno rfl rfl rfl rfl rfl) rfl ?_
      refine s_skip (w_gno rfl rfl rfl rfl rfl) rfl ?_
      refine s_skip (w_gno rfl rfl rfl rfl rfl) rfl ?_
      refine s_run (w_g rfl rfl rfl rfl) rfl (d_pickT rfl rfl rfl) ?_
      refine s_run (w_g rfl rfl rfl rfl) rfl (d_pickT rfl rfl rfl) ?_
      refine s_run (w_none rfl) rfl (d_pickF rfl rfl rfl) ?_
      refine s_run (w_none rfl) rfl (mv_bx (c := true) rfl rfl (by first | rfl | (simp; omega) | simp_all)) ?_
      refine s_skip (w_gno rfl rfl rfl rfl rfl) rfl ?_
      refine s_skip (w_gno rfl rfl rfl rfl rfl) rfl ?_
      refine s_skip (w_gno rfl rfl rfl rfl rfl) rfl ?_
      refine s_skip (w_gno rfl rfl rfl rfl rfl) rfl ?_
      refine s_skip (w_gu rfl rfl rfl rfl rfl) rfl ?_
      refine s_skip (w_gu rfl rfl rfl rfl rfl) rfl ?_
      refine s_skip (w_gu rfl rfl rfl rfl rfl) rfl ?_
      refine s_skip (w_gu rfl rfl rfl rfl rfl) rfl ?_
      refine s_skip (w_gno rfl rfl rfl rfl rfl) rfl ?_
      refine s_run (w_none rfl) rfl (d_pickT rfl rfl rfl) ?_
      refine s_run (w_none rfl) rfl (mv_bx (c := true) rfl rfl (by first | rfl | (simp; omega) | simp_all)) ?_
      refine s_skip (w_gno rfl rfl rfl rfl rfl) rfl ?_
      refine s_skip (w_gno rfl rfl rfl rfl rfl) rfl ?_
      refine s_skip (w_gno rfl rfl rfl rfl rfl) rfl ?_
      refine s_skip (w_gno rfl rfl rfl rfl rfl) rfl ?_
      refine s_skip (w_gu rfl rfl rfl rfl rfl) rfl ?_
      refine s_skip (w_gu rfl rfl rfl rfl rfl) rfl ?_
      refine s_skip (w_gu rfl rfl rfl rfl rfl) rfl ?_
      refine s_skip (w_gu rfl rfl rfl rfl rfl) rfl ?_
      refine s_skip (w_gno rfl rfl rfl rfl rfl) rfl ?_
      refine s_run (w_none rfl) rfl (d_pickT rfl rfl rfl) ?_
      refine l_nil ?_
      refine k_condT rfl (by first | rfl | (simp; omega) | simp_all) ?_
      refine k_seq ?_
      refine k_region ?_
      refine s_run (w_none rfl) rfl (as_i rfl rfl) ?_
      refine l_nil ?_
      refine k_ret ?_
      repeat (first | refine r_then ?_ | refine r_blk ?_)
      have ha : ¬ Rc.argOk r = true := fun e => by obtain ⟨a0, a1, a3, a4⟩ := Rc.arg_of e; (have := (a1 h1.1).1; rw [h1.2] at this; cases this)
      have ho1 := Rc.own_bad ha
      exact q_ret (v := .int _ _) rfl rfl ⟨_, rfl, vi (by rw [Rc.chk_own hk9 (by rw [ho1]; decide), ho1]), H.under⟩
    · skip
      refine k_region ?_
      refine s_run (w_none rfl) rfl (d_fa rfl rfl tf33_1) ?_
      refine s_run (w_none rfl) rfl (d_ldX (g := gm) (off := 1) rfl H rfl rfl rfl ta3) ?_
      refine s_eff (e_call (w_none rfl) rfl rfl Tryz.func35 rfl rfl rfl (inR _) ?_)
      rintro _ W ⟨rfl, hb⟩
      replace H := H.below hb
      clear hb
      refine s_run (w_none rfl) rfl (d_not rfl rfl) ?_
      refine s_run (w_none rfl) rfl (mv_bx (c := false) rfl rfl (by first | rfl | (simp; omega) | simp_all)) ?_
      refine s_run (w_g rfl rfl rfl rfl) rfl (d_fa rfl rfl tf33_0) ?_
      refine s_run (w_g rfl rfl rfl rfl) rfl (d_ldX (g := gm) (off := 0) rfl H rfl rfl rfl ta3) ?_
      refine s_run (w_g rfl rfl rfl rfl) rfl (d_eq rfl rfl rfl) ?_
      refine s_run (w_g rfl rfl rfl rfl) rfl (mv_bx (c := true) rfl rfl (by first | rfl | (simp; omega) | simp_all)) ?_
      refine s_run (w_g rfl rfl rfl rfl) rfl (d_fa rfl rfl tf33_2) ?_
      refine s_run (w_g rfl rfl rfl rfl) rfl (d_ldXM (g := gm) (off := 2) rfl H (sub_r_deal ho) (len_deal ho.2.2.1.2.2.2.2.1) rfl rfl rfl ta27 ts27) ?_
      refine s_eff (e_call (w_g rfl rfl rfl rfl) rfl rfl Tryz.func11 rfl rfl rfl (dealR (d := r.deal) _ ho.2.2.1.2.2.2.2.1) ?_)
      rintro _ W ⟨rfl, hb⟩
      replace H := H.below hb
      clear hb
      refine s_run (w_g rfl rfl rfl rfl) rfl (d_ne rfl rfl rfl) ?_
      refine s_run (w_g rfl rfl rfl rfl) rfl (mv_bx (c := false) rfl rfl (by first | (rw [Rc.deal_yes h1.2.1]; rfl) | (rw [Rc.deal_no (by rw [h1.2]; simp)]; rfl))) ?_
      refine s_run (w_g rfl rfl rfl rfl) rfl (d_fa rfl rfl tf33_2) ?_
      refine s_run (w_g rfl rfl rfl rfl) rfl (d_fa rfl rfl tf27_0) ?_
      refine s_run (w_g rfl rfl rfl rfl) rfl (d_ldX (g := gm) (off := 2) rfl H rfl rfl rfl ta3) ?_
      refine s_run (w_g rfl rfl rfl rfl) rfl (d_fa rfl rfl tf33_1) ?_
      refine s_run (w_g rfl rfl rfl rfl) rfl (d_ldX (g := gm) (off := 1) rfl H rfl rfl rfl ta3) ?_
      refine s_run (w_g rfl rfl rfl rfl) rfl (d_ne rfl rfl rfl) ?_
      refine s_run (w_g rfl rfl rfl rfl) rfl (d_pickF rfl rfl rfl) ?_
      refine s_run (w_g rfl rfl rfl rfl) rfl (d_pickT rfl rfl rfl) ?_
      refine s_run (w_none rfl) rfl (d_pickF rfl rfl rfl) ?_
      refine s_run (w_none rfl) rfl (mv_bx (c := true) rfl rfl (by first | rfl | (simp; omega) | simp_all)) ?_
      refine s_skip (w_gno rfl rfl rfl rfl rfl) rfl ?_
      refine s_skip (w_gno rfl rfl rfl rfl rfl) rfl ?_
      refine s_skip (w_gno rfl rfl rfl rfl rfl) rfl ?_
      refine s_skip (w_gno rfl rfl rfl rfl rfl) rfl ?_
      refine s_skip (w_gu rfl rfl rfl rfl rfl) rfl ?_
      refine s_skip (w_gu rfl rfl rfl rfl rfl) rfl ?_
      refine s_skip (w_gu rfl rfl rfl rfl rfl) rfl ?_
      refine s_skip (w_gu rfl rfl rfl rfl rfl) rfl ?_
      refine s_skip (w_gno rfl rfl rfl rfl rfl) rfl ?_
      refine s_run (w_none rfl) rfl (d_pickT rfl rfl rfl) ?_
      refine s_run (w_none rfl) rfl (mv_bx (c := true) rfl rfl (by first | rfl | (simp; omega) | simp_all)) ?_
      refine s_skip (w_gno rfl rfl rfl rfl rfl) rfl ?_
      refine s_skip (w_gno rfl rfl rfl rfl rfl) rfl ?_
      refine s_skip (w_gno rfl rfl rfl rfl rfl) rfl ?_
      refine s_skip (w_gno rfl rfl rfl rfl rfl) rfl ?_
      refine s_skip (w_gu rfl rfl rfl rfl rfl) rfl ?_
      refine s_skip (w_gu rfl rfl rfl rfl rfl) rfl ?_
      refine s_skip (w_gu rfl rfl rfl rfl rfl) rfl ?_
      refine s_skip (w_gu rfl rfl rfl rfl rfl) rfl ?_
      refine s_skip (w_gno rfl rfl rfl rfl rfl) rfl ?_
      refine s_run (w_none rfl) rfl (d_pickT rfl rfl rfl) ?_
      refine l_nil ?_
      refine k_condT rfl (by first | rfl | (simp; omega) | simp_all) ?_
      refine k_seq ?_
      refine k_region ?_
      refine s_run (w_none rfl) rfl (as_i rfl rfl) ?_
      refine l_nil ?_
      refine k_ret ?_
      repeat (first | refine r_then ?_ | refine r_blk ?_)
      have ha : ¬ Rc.argOk r = true := fun e => by obtain ⟨a0, a1, a3, a4⟩ := Rc.arg_of e; exact h1.2.2 (a1 h1.1).2
      have ho1 := Rc.own_bad ha
      exact q_ret (v := .int _ _) rfl rfl ⟨_, rfl, vi (by rw [Rc.chk_own hk9 (by rw [ho1]; decide), ho1]), H.under⟩
    · skip
      refine k_region ?_
      refine s_run (w_none rfl) rfl (d_fa rfl rfl tf33_1) ?_
      refine s_run (w_none rfl) rfl (d_ldX (g := gm) (off := 1) rfl H rfl rfl rfl ta3) ?_
      refine s_eff (e_call (w_none rfl) rfl rfl Tryz.func35 rfl rfl rfl (inR _) ?_)
      rintro _ W ⟨rfl, hb⟩
      replace H := H.below hb
      clear hb
      refine s_run (w_none rfl) rfl (d_not rfl rfl) ?_
      refine s_run (w_none rfl) rfl (mv_bx (c := false) rfl rfl (by first | rfl | (simp; omega) | simp_all)) ?_
      refine s_run (w_g rfl rfl rfl rfl) rfl (d_fa rfl rfl tf33_0) ?_
      refine s_run (w_g rfl rfl rfl rfl) rfl (d_ldX (g := gm) (off := 0) rfl H rfl rfl rfl ta3) ?_
      refine s_run (w_g rfl rfl rfl rfl) rfl (d_eq rfl rfl rfl) ?_
      refine s_run (w_g rfl rfl rfl rfl) rfl (mv_bx (c := true) rfl rfl (by first | rfl | (simp; omega) | simp_all)) ?_
      refine s_run (w_g rfl rfl rfl rfl) rfl (d_fa rfl rfl tf33_2) ?_
      refine s_run (w_g rfl rfl rfl rfl) rfl (d_ldXM (g := gm) (off := 2) rfl H (sub_r_deal ho) (len_deal ho.2.2.1.2.2.2.2.1) rfl rfl rfl ta27 ts27) ?_
      refine s_eff (e_call (w_g rfl rfl rfl rfl) rfl rfl Tryz.func11 rfl rfl rfl (dealR (d := r.deal) _ ho.2.2.1.2.2.2.2.1) ?_)
      rintro _ W ⟨rfl, hb⟩
      replace H := H.below hb
      clear hb
      refine s_run (w_g rfl rfl rfl rfl) rfl (d_ne rfl rfl rfl) ?_
      refine s_run (w_g rfl rfl rfl rfl) rfl (mv_bx (c := false) rfl rfl (by first | (rw [Rc.deal_yes h1.2.1]; rfl) | (rw [Rc.deal_no (by rw [h1.2]; simp)]; rfl))) ?_
      refine s_run (w_g rfl rfl rfl rfl) rfl (d_fa rfl rfl tf33_2) ?_
      refine s_run (w_g rfl rfl rfl rfl) rfl (d_fa rfl rfl tf27_0) ?_
      refine s_run (w_g rfl rfl rfl rfl) rfl (d_ldX (g := gm) (off := 2) rfl H rfl rfl rfl ta3) ?_
      refine s_run (w_g rfl rfl rfl rfl) rfl (d_fa rfl rfl tf33_1) ?_
      refine s_run (w_g rfl rfl rfl rfl) rfl (d_ldX (g := gm) (off := 1) rfl H rfl rfl rfl ta3) ?_
      refine s_run (w_g rfl rfl rfl rfl) rfl (d_ne rfl rfl rfl) ?_
      refine s_run (w_g rfl rfl rfl rfl) rfl (d_pickF rfl rfl rfl) ?_
      refine s_run (w_g rfl rfl rfl rfl) rfl (d_pickT rfl rfl rfl) ?_
      refine s_run (w_none rfl) rfl (d_pickF rfl rfl rfl) ?_
      refine s_run (w_none rfl) rfl (mv_bx (c := false) rfl rfl (by first | rfl | (simp; omega) | simp_all)) ?_
      refine s_run (w_g rfl rfl rfl rfl) rfl (d_fa rfl rfl tf33_0) ?_
      refine s_run (w_g rfl rfl rfl rfl) rfl (d_ldX (g := gm) (off := 0) rfl H rfl rfl rfl ta3) ?_
      refine s_run (w_g rfl rfl rfl rfl) rfl (d_eq rfl rfl rfl) ?_
      refine s_run (w_g rfl rfl rfl rfl) rfl (mv_bx (c := false) rfl rfl (by first | rfl | (simp; omega) | simp_all)) ?_
      refine s_skip (w_gno rfl rfl rfl rfl rfl) rfl ?_
      refine s_skip (w_gno rfl rfl rfl rfl rfl) rfl ?_
      refine s_skip (w_gno rfl rfl rfl rfl rfl) rfl ?_
      refine s_skip (w_gno rfl rfl rfl rfl rfl) rfl ?_
      refine s_run (w_g rfl rfl rfl rfl) rfl (d_pickF rfl rfl rfl) ?_
      refine s_run (w_none rfl) rfl (d_pickF rfl rfl rfl) ?_
      refine s_run (w_none rfl) rfl (mv_bx (c := false) rfl rfl (by first | rfl | (simp; omega) | simp_all)) ?_
      refine s_run (w_g rfl rfl rfl rfl) rfl (d_fa rfl rfl tf33_0) ?_
      refine s_run (w_g rfl rfl rfl rfl) rfl (d_ldX (g := gm) (off := 0) rfl H rfl rfl rfl ta3) ?_
      refine s_run (w_g rfl rfl rfl rfl) rfl (d_eq rfl rfl rfl) ?_
      refine s_run (w_g rfl rfl rfl rfl) rfl (mv_bx (c := false) rfl rfl (by first | rfl | (simp; omega) | simp_all)) ?_
      refine s_skip (w_gno rfl rfl rfl rfl rfl) rfl ?_
      refine s_skip (w_gno rfl rfl rfl rfl rfl) rfl ?_
      refine s_skip (w_gno rfl rfl rfl rfl rfl) rfl ?_
      refine s_skip (w_gno rfl rfl rfl rfl rfl) rfl ?_
      refine s_run (w_g rfl rfl rfl rfl) rfl (d_pickF rfl rfl rfl) ?_
      refine s_run (w_none rfl) rfl (d_pickF rfl rfl rfl) ?_
      refine l_nil ?_
      refine k_condF rfl (by first | rfl | (simp; omega) | simp_all) ?_
      refine k_skip ?_
      refine k_seq ?_
      refine k_seq ?_
      refine k_region ?_
      refine s_run (w_none rfl) rfl (d_fa rfl rfl tf33_0) ?_
      refine s_run (w_none rfl) rfl (d_ldX (g := gm) (off := 0) rfl H rfl rfl rfl ta3) ?_
      refine s_run (w_none rfl) rfl (d_eq rfl rfl rfl) ?_
      refine s_run (w_none rfl) rfl (mv_bx (c := false) rfl rfl (by first | rfl | (simp; omega) | simp_all)) ?_
      refine s_skip (w_gno rfl rfl rfl rfl rfl) rfl ?_
      refine s_skip (w_gno rfl rfl rfl rfl rfl) rfl ?_
      refine s_skip (w_gno rfl rfl rfl rfl rfl) rfl ?_
      refine s_skip (w_gno rfl rfl rfl rfl rfl) rfl ?_
      refine s_run (w_none rfl) rfl (d_pickF rfl rfl rfl) ?_
      refine s_run (w_none rfl) rfl (mv_bx (c := false) rfl rfl (by first | rfl | (simp [hn]; done))) ?_
      refine s_skip (w_gno rfl rfl rfl rfl rfl) rfl ?_
      refine s_skip (w_gno rfl rfl rfl rfl rfl) rfl ?_
      refine s_skip (w_gno rfl rfl rfl rfl rfl) rfl ?_
      refine s_skip (w_gno rfl rfl rfl rfl rfl) rfl ?_
      refine s_run (w_none rfl) rfl (d_pickF rfl rfl rfl) ?_
      refine l_nil ?_
      refine k_condF rfl (by first | rfl | (simp [hn]; done)) ?_
      refine k_skip ?_
      refine k_seq ?_
      refine k_seq ?_
      have h1k : r.kind = 1 := by omega
      rcases Rc.for_cases r with h2 | h2 | h2 | h2 | h2 | h2
      · exfalso; omega
      · skip
        refine k_region ?_
        refine s_run (w_none rfl) rfl (d_fa rfl rfl tf33_0) ?_
        refine s_run (w_none rfl) rfl (d_ldX (g := gm) (off := 0) rfl H rfl rfl rfl ta3) ?_
        refine s_run (w_none rfl) rfl (d_ne rfl rfl rfl) ?_
        refine s_run (w_none rfl) rfl (mv_bx (c := false) rfl rfl (by first | rfl | (simp; omega) | simp_all)) ?_
        refine s_skip (w_gno rfl rfl rfl rfl rfl) rfl ?_
        refine s_skip (w_gno rfl rfl rfl rfl rfl) rfl ?_
        refine s_skip (w_gno rfl rfl rfl rfl rfl) rfl ?_
        refine s_skip (w_gno rfl rfl rfl rfl rfl) rfl ?_
        refine s_run (w_none rfl) rfl (d_pickF rfl rfl rfl) ?_
        refine s_run (w_none rfl) rfl (mv_bx (c := false) rfl rfl (by first | rfl | (simp; omega) | simp_all)) ?_
        refine s_run (w_g rfl rfl rfl rfl) rfl (d_fa rfl rfl tf33_0) ?_
        refine s_run (w_g rfl rfl rfl rfl) rfl (d_ldX (g := gm) (off := 0) rfl H rfl rfl rfl ta3) ?_
        refine s_run (w_g rfl rfl rfl rfl) rfl (d_ne rfl rfl rfl) ?_
        refine s_run (w_g rfl rfl rfl rfl) rfl (mv_bx (c := true) rfl rfl (by first | rfl | (simp; omega) | simp_all)) ?_
        refine s_run (w_g rfl rfl rfl rfl) rfl (d_fa rfl rfl tf33_3) ?_
        refine s_run (w_g rfl rfl rfl rfl) rfl (d_ldXM (g := gm) (off := 43) rfl H (sub_r_secret ho) (by rw [List.length_map]; exact ho.2.2.2.1) rfl rfl rfl ta25 ts25) ?_
        refine s_run (w_g rfl rfl rfl rfl) rfl (d_build (vs := Rc.z32.map u8v) rfl (by kernel_rfl)) ?_
        refine s_run (w_g rfl rfl rfl rfl) rfl (d_nearr rfl rfl rfl tu25 tu5 ts5 ho.2.2.2.1 (show Rc.z32.length = 32 from rfl) (by kernel_rfl)) ?_
        refine s_run (w_g rfl rfl rfl rfl) rfl (d_pickT rfl rfl rfl) ?_
        refine s_run (w_none rfl) rfl (d_pickF rfl rfl rfl) ?_
        refine s_run (w_none rfl) rfl (mv_bx (c := true) rfl rfl (by first | rfl | (simp; omega) | simp_all)) ?_
        refine s_skip (w_gno rfl rfl rfl rfl rfl) rfl ?_
        refine s_skip (w_gno rfl rfl rfl rfl rfl) rfl ?_
        refine s_skip (w_gno rfl rfl rfl rfl rfl) rfl ?_
        refine s_skip (w_gno rfl rfl rfl rfl rfl) rfl ?_
        refine s_skip (w_gu rfl rfl rfl rfl rfl) rfl ?_
        refine s_skip (w_gu rfl rfl rfl rfl rfl) rfl ?_
        refine s_skip (w_gu rfl rfl rfl rfl rfl) rfl ?_
        refine s_skip (w_gu rfl rfl rfl rfl rfl) rfl ?_
        refine s_skip (w_gu rfl rfl rfl rfl rfl) rfl ?_
        refine s_skip (w_gu rfl rfl rfl rfl rfl) rfl ?_
        refine s_skip (w_gu rfl rfl rfl rfl rfl) rfl ?_
        refine s_skip (w_gu rfl rfl rfl rfl rfl) rfl ?_
        refine s_skip (w_gu rfl rfl rfl rfl rfl) rfl ?_
        refine s_skip (w_gno rfl rfl rfl rfl rfl) rfl ?_
        refine s_run (w_none rfl) rfl (d_pickT rfl rfl rfl) ?_
        refine s_run (w_none rfl) rfl (mv_bx (c := true) rfl rfl (by first | rfl | (simp; omega) | simp_all)) ?_
        refine s_skip (w_gno rfl rfl rfl rfl rfl) rfl ?_
        refine s_skip (w_gno rfl rfl rfl rfl rfl) rfl ?_
        refine s_skip (w_gno rfl rfl rfl rfl rfl) rfl ?_
        refine s_skip (w_gno rfl rfl rfl rfl rfl) rfl ?_
        refine s_skip (w_gu rfl rfl rfl rfl rfl) rfl ?_
        refine s_skip (w_gu rfl rfl rfl rfl rfl) rfl ?_
        refine s_skip (w_gu rfl rfl rfl rfl rfl) rfl ?_
        refine s_skip (w_gno rfl rfl rfl rfl rfl) rfl ?_
        refine s_run (w_none rfl) rfl (d_pickT rfl rfl rfl) ?_
        refine l_nil ?_
        refine k_condT rfl (by first | rfl | (simp; omega) | simp_all) ?_
        refine k_seq ?_
        refine k_region ?_
        refine s_run (w_none rfl) rfl (as_i rfl rfl) ?_
        refine l_nil ?_
        refine k_ret ?_
        repeat (first | refine r_then ?_ | refine r_blk ?_)
        have ha : Rc.argOk r = true := Rc.arg_mk hid (fun e => by first | exact ⟨h1.2.1, h1.2.2⟩ | (exfalso; omega)) (fun e => by first | exact h1.2 | (exfalso; omega)) (fun e => by first | exact h1.2 | (exfalso; omega))
        have ho1 : Rc.own r = 0 := Rc.own_ok ha (fun e => by have := e.1; omega)
        exact q_ret (v := .int _ _) rfl rfl ⟨_, rfl, vi (by rw [Rc.chk_for hk9 ho1, if_pos h2.2.2.2]), H.under⟩
      · skip
        refine k_region ?_
        refine s_run (w_none rfl) rfl (d_fa rfl rfl tf33_0) ?_
        refine s_run (w_none rfl) rfl (d_ldX (g := gm) (off := 0) rfl H rfl rfl rfl ta3) ?_
        refine s_run (w_none rfl) rfl (d_ne rfl rfl rfl) ?_
        refine s_run (w_none rfl) rfl (mv_bx (c := false) rfl rfl (by first | rfl | (simp; omega) | simp_all)) ?_
        refine s_skip (w_gno rfl rfl rfl rfl rfl) rfl ?_
        refine s_skip (w_gno rfl rfl rfl rfl rfl) rfl ?_
        refine s_skip (w_gno rfl rfl rfl rfl rfl) rfl ?_
        refine s_skip (w_gno rfl rfl rfl rfl rfl) rfl ?_
        refine s_run (w_none rfl) rfl (d_pickF rfl rfl rfl) ?_
        refine s_run (w_none rfl) rfl (mv_bx (c := false) rfl rfl (by first | rfl | (simp; omega) | simp_all)) ?_
        refine s_run (w_g rfl rfl rfl rfl) rfl (d_fa rfl rfl tf33_0) ?_
        refine s_run (w_g rfl rfl rfl rfl) rfl (d_ldX (g := gm) (off := 0) rfl H rfl rfl rfl ta3) ?_
        refine s_run (w_g rfl rfl rfl rfl) rfl (d_ne rfl rfl rfl) ?_
        refine s_run (w_g rfl rfl rfl rfl) rfl (mv_bx (c := true) rfl rfl (by first | rfl | (simp; omega) | simp_all)) ?_
        refine s_run (w_g rfl rfl rfl rfl) rfl (d_fa rfl rfl tf33_3) ?_
        refine s_run (w_g rfl rfl rfl rfl) rfl (d_ldXM (g := gm) (off := 43) rfl H (sub_r_secret ho) (by rw [List.length_map]; exact ho.2.2.2.1) rfl rfl rfl ta25 ts25) ?_
        refine s_run (w_g rfl rfl rfl rfl) rfl (d_build (vs := Rc.z32.map u8v) rfl (by kernel_rfl)) ?_
        refine s_run (w_g rfl rfl rfl rfl) rfl (d_nearr rfl rfl rfl tu25 tu5 ts5 ho.2.2.2.1 (show Rc.z32.length = 32 from rfl) (by kernel_rfl)) ?_
        refine s_run (w_g rfl rfl rfl rfl) rfl (d_pickT rfl rfl rfl) ?_
        refine s_run (w_none rfl) rfl (d_pickF rfl rfl rfl) ?_
        refine s_run (w_none rfl) rfl (mv_bx (c := false) rfl rfl (by first | rfl | (simp; omega) | simp_all)) ?_
        refine s_run (w_g rfl rfl rfl rfl) rfl (d_fa rfl rfl tf33_0) ?_
        refine s_run (w_g rfl rfl rfl rfl) rfl (d_ldX (g := gm) (off := 0) rfl H rfl rfl rfl ta3) ?_
        refine s_run (w_g rfl rfl rfl rfl) rfl (d_ne rfl rfl rfl) ?_
        refine s_run (w_g rfl rfl rfl rfl) rfl (mv_bx (c := true) rfl rfl (by first | rfl | (simp; omega) | simp_all)) ?_
        refine s_run (w_g rfl rfl rfl rfl) rfl (d_fa rfl rfl tf33_4) ?_
        refine s_run (w_g rfl rfl rfl rfl) rfl (d_ldX (g := gm) (off := 75) rfl H (sub_r_move ho) rfl rfl ta3) ?_
        refine s_run (w_g rfl rfl rfl rfl) rfl (d_ne rfl rfl rfl) ?_
        refine s_run (w_g rfl rfl rfl rfl) rfl (mv_bx (c := true) rfl rfl (by first | rfl | (simp; omega) | simp_all)) ?_
        refine s_skip (w_gno rfl rfl rfl rfl rfl) rfl ?_
        refine s_skip (w_gno rfl rfl rfl rfl rfl) rfl ?_
        refine s_skip (w_gno rfl rfl rfl rfl rfl) rfl ?_
        refine s_skip (w_gno rfl rfl rfl rfl rfl) rfl ?_
        refine s_run (w_g rfl rfl rfl rfl) rfl (d_pickT rfl rfl rfl) ?_
        refine s_run (w_g rfl rfl rfl rfl) rfl (d_pickT rfl rfl rfl) ?_
        refine s_run (w_none rfl) rfl (d_pickF rfl rfl rfl) ?_
        refine s_run (w_none rfl) rfl (mv_bx (c := true) rfl rfl (by first | rfl | (simp; omega) | simp_all)) ?_
        refine s_skip (w_gno rfl rfl rfl rfl rfl) rfl ?_
        refine s_skip (w_gno rfl rfl rfl rfl rfl) rfl ?_
        refine s_skip (w_gno rfl rfl rfl rfl rfl) rfl ?_
        refine s_skip (w_gno rfl rfl rfl rfl rfl) rfl ?_
        refine s_skip (w_gu rfl rfl rfl rfl rfl) rfl ?_
        refine s_skip (w_gu rfl rfl rfl rfl rfl) rfl ?_
        refine s_skip (w_gu rfl rfl rfl rfl rfl) rfl ?_
        refine s_skip (w_gno rfl rfl rfl rfl rfl) rfl ?_
        refine s_run (w_none rfl) rfl (d_pickT rfl rfl rfl) ?_
        refine l_nil ?_
        refine k_condT rfl (by first | rfl | (simp; omega) | simp_all) ?_
        refine k_seq ?_
        refine k_region ?_
        refine s_run (w_none rfl) rfl (as_i rfl rfl) ?_
        refine l_nil ?_
        refine k_ret ?_
        repeat (first | refine r_then ?_ | refine r_blk ?_)
        have ha : Rc.argOk r = true := Rc.arg_mk hid (fun e => by first | exact ⟨h1.2.1, h1.2.2⟩ | (exfalso; omega)) (fun e => by first | exact h1.2 | (exfalso; omega)) (fun e => by first | exact h1.2 | (exfalso; omega))
        have ho1 : Rc.own r = 0 := Rc.own_ok ha (fun e => by have := e.1; omega)
        exact q_ret (v := .int _ _) rfl rfl ⟨_, rfl, vi (by rw [Rc.chk_for hk9 ho1, if_pos h2.2.2.2.2]), H.under⟩
      · skip
        refine k_region ?_
        refine s_run (w_none rfl) rfl (d_fa rfl rfl tf33_0) ?_
        refine s_run (w_none rfl) rfl (d_ldX (g := gm) (off := 0) rfl H rfl rfl rfl ta3) ?_
        refine s_run (w_none rfl) rfl (d_ne rfl rfl rfl) ?_
        refine s_run (w_none rfl) rfl (mv_bx (c := false) rfl rfl (by first | rfl | (simp; omega) | simp_all)) ?_
        refine s_skip (w_gno rfl rfl rfl rfl rfl) rfl ?_
        refine s_skip (w_gno rfl rfl rfl rfl rfl) rfl ?_
        refine s_skip (w_gno rfl rfl rfl rfl rfl) rfl ?_
        refine s_skip (w_gno rfl rfl rfl rfl rfl) rfl ?_
        refine s_run (w_none rfl) rfl (d_pickF rfl rfl rfl) ?_
        refine s_run (w_none rfl) rfl (mv_bx (c := false) rfl rfl (by first | rfl | (simp; omega) | simp_all)) ?_
        refine s_run (w_g rfl rfl rfl rfl) rfl (d_fa rfl rfl tf33_0) ?_
        refine s_run (w_g rfl rfl rfl rfl) rfl (d_ldX (g := gm) (off := 0) rfl H rfl rfl rfl ta3) ?_
        refine s_run (w_g rfl rfl rfl rfl) rfl (d_ne rfl rfl rfl) ?_
        refine s_run (w_g rfl rfl rfl rfl) rfl (mv_bx (c := true) rfl rfl (by first | rfl | (simp; omega) | simp_all)) ?_
        refine s_run (w_g rfl rfl rfl rfl) rfl (d_fa rfl rfl tf33_3) ?_
        refine s_run (w_g rfl rfl rfl rfl) rfl (d_ldXM (g := gm) (off := 43) rfl H (sub_r_secret ho) (by rw [List.length_map]; exact ho.2.2.2.1) rfl rfl rfl ta25 ts25) ?_
        refine s_run (w_g rfl rfl rfl rfl) rfl (d_build (vs := Rc.z32.map u8v) rfl (by kernel_rfl)) ?_
        refine s_run (w_g rfl rfl rfl rfl) rfl (d_nearr rfl rfl rfl tu25 tu5 ts5 ho.2.2.2.1 (show Rc.z32.length = 32 from rfl) (by kernel_rfl)) ?_
        refine s_run (w_g rfl rfl rfl rfl) rfl (d_pickT rfl rfl rfl) ?_
        refine s_run (w_none rfl) rfl (d_pickF rfl rfl rfl) ?_
        refine s_run (w_none rfl) rfl (mv_bx (c := false) rfl rfl (by first | rfl | (simp; omega) | simp_all)) ?_
        refine s_run (w_g rfl rfl rfl rfl) rfl (d_fa rfl rfl tf33_0) ?_
        refine s_run (w_g rfl rfl rfl rfl) rfl (d_ldX (g := gm) (off := 0) rfl H rfl rfl rfl ta3) ?_
        refine s_run (w_g rfl rfl rfl rfl) rfl (d_ne rfl rfl rfl) ?_
        refine s_run (w_g rfl rfl rfl rfl) rfl (mv_bx (c := true) rfl rfl (by first | rfl | (simp; omega) | simp_all)) ?_
        refine s_run (w_g rfl rfl rfl rfl) rfl (d_fa rfl rfl tf33_4) ?_
        refine s_run (w_g rfl rfl rfl rfl) rfl (d_ldX (g := gm) (off := 75) rfl H (sub_r_move ho) rfl rfl ta3) ?_
        refine s_run (w_g rfl rfl rfl rfl) rfl (d_ne rfl rfl rfl) ?_
        refine s_run (w_g rfl rfl rfl rfl) rfl (mv_bx (c := false) rfl rfl (by first | rfl | (simp; omega) | simp_all)) ?_
        refine s_run (w_g rfl rfl rfl rfl) rfl (d_fa rfl rfl tf33_6) ?_
        refine s_run (w_g rfl rfl rfl rfl) rfl (d_ldXM (g := gm) (off := 77) rfl H (sub_r_tx ho rfl) rfl rfl rfl rfl ta31 ts31) ?_
        refine s_eff (e_call (w_g rfl rfl rfl rfl) rfl rfl Tryz.func30 rfl rfl rfl (noneR _ (keeps_Tx _ _ _ _ _ ht (fun g hg _ => H.fr.block g hg (fun h => h))) hs) ?_)
        rintro _ W ⟨rfl, hb⟩
        replace H := H.below hb
        clear hb
        refine s_run (w_g rfl rfl rfl rfl) rfl (d_not rfl rfl) ?_
        refine s_run (w_g rfl rfl rfl rfl) rfl (d_pickF rfl rfl rfl) ?_
        refine s_run (w_g rfl rfl rfl rfl) rfl (d_pickT rfl rfl rfl) ?_
        refine s_run (w_none rfl) rfl (d_pickF rfl rfl rfl) ?_
        refine s_run (w_none rfl) rfl (mv_bx (c := true) rfl rfl (by first | rfl | (simp; omega) | simp_all)) ?_
        refine s_skip (w_gno rfl rfl rfl rfl rfl) rfl ?_
        refine s_skip (w_gno rfl rfl rfl rfl rfl) rfl ?_
        refine s_skip (w_gno rfl rfl rfl rfl rfl) rfl ?_
        refine s_skip (w_gno rfl rfl rfl rfl rfl) rfl ?_
        refine s_skip (w_gu rfl rfl rfl rfl rfl) rfl ?_
        refine s_skip (w_gu rfl rfl rfl rfl rfl) rfl ?_
        refine s_skip (w_gu rfl rfl rfl rfl rfl) rfl ?_
        refine s_skip (w_gno rfl rfl rfl rfl rfl) rfl ?_
        refine s_run (w_none rfl) rfl (d_pickT rfl rfl rfl) ?_
        refine l_nil ?_
        refine k_condT rfl (by first | rfl | (simp; omega) | simp_all) ?_
        refine k_seq ?_
        refine k_region ?_
        refine s_run (w_none rfl) rfl (as_i rfl rfl) ?_
        refine l_nil ?_
        refine k_ret ?_
        repeat (first | refine r_then ?_ | refine r_blk ?_)
        have ha : Rc.argOk r = true := Rc.arg_mk hid (fun e => by first | exact ⟨h1.2.1, h1.2.2⟩ | (exfalso; omega)) (fun e => by first | exact h1.2 | (exfalso; omega)) (fun e => by first | exact h1.2 | (exfalso; omega))
        have ho1 : Rc.own r = 0 := Rc.own_ok ha (fun e => by have := e.1; omega)
        exact q_ret (v := .int _ _) rfl rfl ⟨_, rfl, vi (by rw [Rc.chk_for hk9 ho1, if_pos h2.2.2.2.2.2]), H.under⟩
      · skip
        refine k_region ?_
        refine s_run (w_none rfl) rfl (d_fa rfl rfl tf33_0) ?_
        refine s_run (w_none rfl) rfl (d_ldX (g := gm) (off := 0) rfl H rfl rfl rfl ta3) ?_
        refine s_run (w_none rfl) rfl (d_ne rfl rfl rfl) ?_
        refine s_run (w_none rfl) rfl (mv_bx (c := false) rfl rfl (by first | rfl | (simp; omega) | simp_all)) ?_
        refine s_skip (w_gno rfl rfl rfl rfl rfl) rfl ?_
        refine s_skip (w_gno rfl rfl rfl rfl rfl) rfl ?_
        refine s_skip (w_gno rfl rfl rfl rfl rfl) rfl ?_
        refine s_skip (w_gno rfl rfl rfl rfl rfl) rfl ?_
        refine s_run (w_none rfl) rfl (d_pickF rfl rfl rfl) ?_
        refine s_run (w_none rfl) rfl (mv_bx (c := false) rfl rfl (by first | rfl | (simp; omega) | simp_all)) ?_
        refine s_run (w_g rfl rfl rfl rfl) rfl (d_fa rfl rfl tf33_0) ?_
        refine s_run (w_g rfl rfl rfl rfl) rfl (d_ldX (g := gm) (off := 0) rfl H rfl rfl rfl ta3) ?_
        refine s_run (w_g rfl rfl rfl rfl) rfl (d_ne rfl rfl rfl) ?_
        refine s_run (w_g rfl rfl rfl rfl) rfl (mv_bx (c := true) rfl rfl (by first | rfl | (simp; omega) | simp_all)) ?_
        refine s_run (w_g rfl rfl rfl rfl) rfl (d_fa rfl rfl tf33_3) ?_
        refine s_run (w_g rfl rfl rfl rfl) rfl (d_ldXM (g := gm) (off := 43) rfl H (sub_r_secret ho) (by rw [List.length_map]; exact ho.2.2.2.1) rfl rfl rfl ta25 ts25) ?_
        refine s_run (w_g rfl rfl rfl rfl) rfl (d_build (vs := Rc.z32.map u8v) rfl (by kernel_rfl)) ?_
        refine s_run (w_g rfl rfl rfl rfl) rfl (d_nearr rfl rfl rfl tu25 tu5 ts5 ho.2.2.2.1 (show Rc.z32.length = 32 from rfl) (by kernel_rfl)) ?_
        refine s_run (w_g rfl rfl rfl rfl) rfl (d_pickT rfl rfl rfl) ?_
        refine s_run (w_none rfl) rfl (d_pickF rfl rfl rfl) ?_
        refine s_run (w_none rfl) rfl (mv_bx (c := false) rfl rfl (by first | rfl | (simp; omega) | simp_all)) ?_
        refine s_run (w_g rfl rfl rfl rfl) rfl (d_fa rfl rfl tf33_0) ?_
        refine s_run (w_g rfl rfl rfl rfl) rfl (d_ldX (g := gm) (off := 0) rfl H rfl rfl rfl ta3) ?_
        refine s_run (w_g rfl rfl rfl rfl) rfl (d_ne rfl rfl rfl) ?_
        refine s_run (w_g rfl rfl rfl rfl) rfl (mv_bx (c := true) rfl rfl (by first | rfl | (simp; omega) | simp_all)) ?_
        refine s_run (w_g rfl rfl rfl rfl) rfl (d_fa rfl rfl tf33_4) ?_
        refine s_run (w_g rfl rfl rfl rfl) rfl (d_ldX (g := gm) (off := 75) rfl H (sub_r_move ho) rfl rfl ta3) ?_
        refine s_run (w_g rfl rfl rfl rfl) rfl (d_ne rfl rfl rfl) ?_
        refine s_run (w_g rfl rfl rfl rfl) rfl (mv_bx (c := false) rfl rfl (by first | rfl | (simp; omega) | simp_all)) ?_
        refine s_run (w_g rfl rfl rfl rfl) rfl (d_fa rfl rfl tf33_6) ?_
        refine s_run (w_g rfl rfl rfl rfl) rfl (d_ldXM (g := gm) (off := 77) rfl H (sub_r_tx ho rfl) rfl rfl rfl rfl ta31 ts31) ?_
        refine s_eff (e_call (w_g rfl rfl rfl rfl) rfl rfl Tryz.func30 rfl rfl rfl (noneR _ (keeps_Tx _ _ _ _ _ ht (fun g hg _ => H.fr.block g hg (fun h => h))) hs) ?_)
        rintro _ W ⟨rfl, hb⟩
        replace H := H.below hb
        clear hb
        refine s_run (w_g rfl rfl rfl rfl) rfl (d_not rfl rfl) ?_
        refine s_run (w_g rfl rfl rfl rfl) rfl (d_pickF rfl rfl rfl) ?_
        refine s_run (w_g rfl rfl rfl rfl) rfl (d_pickT rfl rfl rfl) ?_
        refine s_run (w_none rfl) rfl (d_pickF rfl rfl rfl) ?_
        refine s_run (w_none rfl) rfl (mv_bx (c := false) rfl rfl (by first | rfl | (simp; omega) | simp_all)) ?_
        refine s_run (w_g rfl rfl rfl rfl) rfl (d_fa rfl rfl tf33_0) ?_
        refine s_run (w_g rfl rfl rfl rfl) rfl (d_ldX (g := gm) (off := 0) rfl H rfl rfl rfl ta3) ?_
        refine s_run (w_g rfl rfl rfl rfl) rfl (d_ne rfl rfl rfl) ?_
        refine s_run (w_g rfl rfl rfl rfl) rfl (mv_bx (c := true) rfl rfl (by first | rfl | (simp; omega) | simp_all)) ?_
        refine s_run (w_g rfl rfl rfl rfl) rfl (d_fa rfl rfl tf33_5) ?_
        refine s_run (w_g rfl rfl rfl rfl) rfl (d_ldX (g := gm) (off := 76) rfl H (sub_r_state ho) rfl rfl ta3) ?_
        refine s_run (w_g rfl rfl rfl rfl) rfl (d_ne rfl rfl rfl) ?_
        refine s_run (w_g rfl rfl rfl rfl) rfl (d_pickT rfl rfl rfl) ?_
        refine s_run (w_none rfl) rfl (d_pickF rfl rfl rfl) ?_
        refine l_nil ?_
        refine k_condT rfl (by first | rfl | (simp; omega) | simp_all) ?_
        refine k_seq ?_
        refine k_region ?_
        refine s_run (w_none rfl) rfl (as_i rfl rfl) ?_
        refine l_nil ?_
        refine k_ret ?_
        repeat (first | refine r_then ?_ | refine r_blk ?_)
        have ha : Rc.argOk r = true := Rc.arg_mk hid (fun e => by first | exact ⟨h1.2.1, h1.2.2⟩ | (exfalso; omega)) (fun e => by first | exact h1.2 | (exfalso; omega)) (fun e => by first | exact h1.2 | (exfalso; omega))
        have ho1 : Rc.own r = 0 := Rc.own_ok ha (fun e => by have := e.1; omega)
        exact q_ret (v := .int _ _) rfl rfl ⟨_, rfl, vi (by rw [Rc.chk_for hk9 ho1, if_pos h2.2.2.2.2.2]), H.under⟩
      · skip
        refine k_region ?_
        refine s_run (w_none rfl) rfl (d_fa rfl rfl tf33_0) ?_
        refine s_run (w_none rfl) rfl (d_ldX (g := gm) (off := 0) rfl H rfl rfl rfl ta3) ?_
        refine s_run (w_none rfl) rfl (d_ne rfl rfl rfl) ?_
        refine s_run (w_none rfl) rfl (mv_bx (c := false) rfl rfl (by first | rfl | (simp; omega) | simp_all)) ?_
        refine s_skip (w_gno rfl rfl rfl rfl rfl) rfl ?_
        refine s_skip (w_gno rfl rfl rfl rfl rfl) rfl ?_
        refine s_skip (w_gno rfl rfl rfl rfl rfl) rfl ?_
        refine s_skip (w_gno rfl rfl rfl rfl rfl) rfl ?_
        refine s_run (w_none rfl) rfl (d_pickF rfl rfl rfl) ?_
        refine s_run (w_none rfl) rfl (mv_bx (c := false) rfl rfl (by first | rfl | (simp; omega) | simp_all)) ?_
        refine s_run (w_g rfl rfl rfl rfl) rfl (d_fa rfl rfl tf33_0) ?_
        refine s_run (w_g rfl rfl rfl rfl) rfl (d_ldX (g := gm) (off := 0) rfl H rfl rfl rfl ta3) ?_
        refine s_run (w_g rfl rfl rfl rfl) rfl (d_ne rfl rfl rfl) ?_
        refine s_run (w_g rfl rfl rfl rfl) rfl (mv_bx (c := true) rfl rfl (by first | rfl | (simp; omega) | simp_all)) ?_
        refine s_run (w_g rfl rfl rfl rfl) rfl (d_fa rfl rfl tf33_3) ?_
        refine s_run (w_g rfl rfl rfl rfl) rfl (d_ldXM (g := gm) (off := 43) rfl H (sub_r_secret ho) (by rw [List.length_map]; exact ho.2.2.2.1) rfl rfl rfl ta25 ts25) ?_
        refine s_run (w_g rfl rfl rfl rfl) rfl (d_build (vs := Rc.z32.map u8v) rfl (by kernel_rfl)) ?_
        refine s_run (w_g rfl rfl rfl rfl) rfl (d_nearr rfl rfl rfl tu25 tu5 ts5 ho.2.2.2.1 (show Rc.z32.length = 32 from rfl) (by kernel_rfl)) ?_
        refine s_run (w_g rfl rfl rfl rfl) rfl (d_pickT rfl rfl rfl) ?_
        refine s_run (w_none rfl) rfl (d_pickF rfl rfl rfl) ?_
        refine s_run (w_none rfl) rfl (mv_bx (c := false) rfl rfl (by first | rfl | (simp; omega) | simp_all)) ?_
        refine s_run (w_g rfl rfl rfl rfl) rfl (d_fa rfl rfl tf33_0) ?_
        refine s_run (w_g rfl rfl rfl rfl) rfl (d_ldX (g := gm) (off := 0) rfl H rfl rfl rfl ta3) ?_
        refine s_run (w_g rfl rfl rfl rfl) rfl (d_ne rfl rfl rfl) ?_
        refine s_run (w_g rfl rfl rfl rfl) rfl (mv_bx (c := true) rfl rfl (by first | rfl | (simp; omega) | simp_all)) ?_
        refine s_run (w_g rfl rfl rfl rfl) rfl (d_fa rfl rfl tf33_4) ?_
        refine s_run (w_g rfl rfl rfl rfl) rfl (d_ldX (g := gm) (off := 75) rfl H (sub_r_move ho) rfl rfl ta3) ?_
        refine s_run (w_g rfl rfl rfl rfl) rfl (d_ne rfl rfl rfl) ?_
        refine s_run (w_g rfl rfl rfl rfl) rfl (mv_bx (c := false) rfl rfl (by first | rfl | (simp; omega) | simp_all)) ?_
        refine s_run (w_g rfl rfl rfl rfl) rfl (d_fa rfl rfl tf33_6) ?_
        refine s_run (w_g rfl rfl rfl rfl) rfl (d_ldXM (g := gm) (off := 77) rfl H (sub_r_tx ho rfl) rfl rfl rfl rfl ta31 ts31) ?_
        refine s_eff (e_call (w_g rfl rfl rfl rfl) rfl rfl Tryz.func30 rfl rfl rfl (noneR _ (keeps_Tx _ _ _ _ _ ht (fun g hg _ => H.fr.block g hg (fun h => h))) hs) ?_)
        rintro _ W ⟨rfl, hb⟩
        replace H := H.below hb
        clear hb
        refine s_run (w_g rfl rfl rfl rfl) rfl (d_not rfl rfl) ?_
        refine s_run (w_g rfl rfl rfl rfl) rfl (d_pickF rfl rfl rfl) ?_
        refine s_run (w_g rfl rfl rfl rfl) rfl (d_pickT rfl rfl rfl) ?_
        refine s_run (w_none rfl) rfl (d_pickF rfl rfl rfl) ?_
        refine s_run (w_none rfl) rfl (mv_bx (c := false) rfl rfl (by first | rfl | (simp; omega) | simp_all)) ?_
        refine s_run (w_g rfl rfl rfl rfl) rfl (d_fa rfl rfl tf33_0) ?_
        refine s_run (w_g rfl rfl rfl rfl) rfl (d_ldX (g := gm) (off := 0) rfl H rfl rfl rfl ta3) ?_
        refine s_run (w_g rfl rfl rfl rfl) rfl (d_ne rfl rfl rfl) ?_
        refine s_run (w_g rfl rfl rfl rfl) rfl (mv_bx (c := true) rfl rfl (by first | rfl | (simp; omega) | simp_all)) ?_
        refine s_run (w_g rfl rfl rfl rfl) rfl (d_fa rfl rfl tf33_5) ?_
        refine s_run (w_g rfl rfl rfl rfl) rfl (d_ldX (g := gm) (off := 76) rfl H (sub_r_state ho) rfl rfl ta3) ?_
        refine s_run (w_g rfl rfl rfl rfl) rfl (d_ne rfl rfl rfl) ?_
        refine s_run (w_g rfl rfl rfl rfl) rfl (d_pickT rfl rfl rfl) ?_
        refine s_run (w_none rfl) rfl (d_pickF rfl rfl rfl) ?_
        refine l_nil ?_
        refine k_condF rfl (by first | rfl | (simp; omega) | simp_all) ?_
        refine k_skip ?_
        refine k_seq ?_
        refine k_region ?_
        refine s_run (w_none rfl) rfl (as_i rfl rfl) ?_
        refine l_nil ?_
        refine k_ret ?_
        repeat (first | refine r_then ?_ | refine r_blk ?_)
        have ha : Rc.argOk r = true := Rc.arg_mk hid (fun e => by first | exact ⟨h1.2.1, h1.2.2⟩ | (exfalso; omega)) (fun e => by first | exact h1.2 | (exfalso; omega)) (fun e => by first | exact h1.2 | (exfalso; omega))
        have ho1 : Rc.own r = 0 := Rc.own_ok ha (fun e => by have := e.1; omega)
        exact q_ret (v := .int _ _) rfl rfl ⟨_, rfl, vi (by rw [Rc.chk_for hk9 ho1, if_neg (by rw [h2.2.2.2.2]; simp)]), H.under⟩
    · skip
      refine k_region ?_
      refine s_run (w_none rfl) rfl (d_fa rfl rfl tf33_1) ?_
      refine s_run (w_none rfl) rfl (d_ldX (g := gm) (off := 1) rfl H rfl rfl rfl ta3) ?_
      refine s_eff (e_call (w_none rfl) rfl rfl Tryz.func35 rfl rfl rfl (inR _) ?_)
      rintro _ W ⟨rfl, hb⟩
      replace H := H.below hb
      clear hb
      refine s_run (w_none rfl) rfl (d_not rfl rfl) ?_
      refine s_run (w_none rfl) rfl (mv_bx (c := false) rfl rfl (by first | rfl | (simp; omega) | simp_all)) ?_
      refine s_run (w_g rfl rfl rfl rfl) rfl (d_fa rfl rfl tf33_0) ?_
      refine s_run (w_g rfl rfl rfl rfl) rfl (d_ldX (g := gm) (off := 0) rfl H rfl rfl rfl ta3) ?_
      refine s_run (w_g rfl rfl rfl rfl) rfl (d_eq rfl rfl rfl) ?_
      refine s_run (w_g rfl rfl rfl rfl) rfl (mv_bx (c := false) rfl rfl (by first | rfl | (simp; omega) | simp_all)) ?_
      refine s_skip (w_gno rfl rfl rfl rfl rfl) rfl ?_
      refine s_skip (w_gno rfl rfl rfl rfl rfl) rfl ?_
      refine s_skip (w_gno rfl rfl rfl rfl rfl) rfl ?_
      refine s_skip (w_gno rfl rfl rfl rfl rfl) rfl ?_
      refine s_skip (w_gno rfl rfl rfl rfl rfl) rfl ?_
      refine s_skip (w_gu rfl rfl rfl rfl rfl) rfl ?_
      refine s_skip (w_gu rfl rfl rfl rfl rfl) rfl ?_
      refine s_skip (w_gu rfl rfl rfl rfl rfl) rfl ?_
      refine s_skip (w_gu rfl rfl rfl rfl rfl) rfl ?_
      refine s_skip (w_gu rfl rfl rfl rfl rfl) rfl ?_
      refine s_skip (w_gu rfl rfl rfl rfl rfl) rfl ?_
      refine s_skip (w_gno rfl rfl rfl rfl rfl) rfl ?_
      refine s_run (w_g rfl rfl rfl rfl) rfl (d_pickF rfl rfl rfl) ?_
      refine s_run (w_none rfl) rfl (d_pickF rfl rfl rfl) ?_
      refine s_run (w_none rfl) rfl (mv_bx (c := false) rfl rfl (by first | rfl | (simp; omega) | simp_all)) ?_
      refine s_run (w_g rfl rfl rfl rfl) rfl (d_fa rfl rfl tf33_0) ?_
      refine s_run (w_g rfl rfl rfl rfl) rfl (d_ldX (g := gm) (off := 0) rfl H rfl rfl rfl ta3) ?_
      refine s_run (w_g rfl rfl rfl rfl) rfl (d_eq rfl rfl rfl) ?_
      refine s_run (w_g rfl rfl rfl rfl) rfl (mv_bx (c := true) rfl rfl (by first | rfl | (simp; omega) | simp_all)) ?_
      refine s_run (w_g rfl rfl rfl rfl) rfl (d_fa rfl rfl tf33_4) ?_
      refine s_run (w_g rfl rfl rfl rfl) rfl (d_ldX (g := gm) (off := 75) rfl H (sub_r_move ho) rfl rfl ta3) ?_
      refine s_eff (e_call (w_g rfl rfl rfl rfl) rfl rfl Tryz.func35 rfl rfl rfl (inR _) ?_)
      rintro _ W ⟨rfl, hb⟩
      replace H := H.below hb
      clear hb
      refine s_run (w_g rfl rfl rfl rfl) rfl (d_not rfl rfl) ?_
      refine s_run (w_g rfl rfl rfl rfl) rfl (d_pickT rfl rfl rfl) ?_
      refine s_run (w_none rfl) rfl (d_pickF rfl rfl rfl) ?_
      refine s_run (w_none rfl) rfl (mv_bx (c := true) rfl rfl (by first | rfl | (simp; omega) | simp_all)) ?_
      refine s_skip (w_gno rfl rfl rfl rfl rfl) rfl ?_
      refine s_skip (w_gno rfl rfl rfl rfl rfl) rfl ?_
      refine s_skip (w_gno rfl rfl rfl rfl rfl) rfl ?_
      refine s_skip (w_gno rfl rfl rfl rfl rfl) rfl ?_
      refine s_skip (w_gu rfl rfl rfl rfl rfl) rfl ?_
      refine s_skip (w_gu rfl rfl rfl rfl rfl) rfl ?_
      refine s_skip (w_gu rfl rfl rfl rfl rfl) rfl ?_
      refine s_skip (w_gu rfl rfl rfl rfl rfl) rfl ?_
      refine s_skip (w_gno rfl rfl rfl rfl rfl) rfl ?_
      refine s_run (w_none rfl) rfl (d_pickT rfl rfl rfl) ?_
      refine l_nil ?_
      refine k_condT rfl (by first | rfl | (simp; omega) | simp_all) ?_
      refine k_seq ?_
      refine k_region ?_
      refine s_run (w_none rfl) rfl (as_i rfl rfl) ?_
      refine l_nil ?_
      refine k_ret ?_
      repeat (first | refine r_then ?_ | refine r_blk ?_)
      have ha : ¬ Rc.argOk r = true := fun e => by obtain ⟨a0, a1, a3, a4⟩ := Rc.arg_of e; (have := a3 h1.1; omega)
      have ho1 := Rc.own_bad ha
      exact q_ret (v := .int _ _) rfl rfl ⟨_, rfl, vi (by rw [Rc.chk_own hk9 (by rw [ho1]; decide), ho1]), H.under⟩
    · skip
      refine k_region ?_
      refine s_run (w_none rfl) rfl (d_fa rfl rfl tf33_1) ?_
      refine s_run (w_none rfl) rfl (d_ldX (g := gm) (off := 1) rfl H rfl rfl rfl ta3) ?_
      refine s_eff (e_call (w_none rfl) rfl rfl Tryz.func35 rfl rfl rfl (inR _) ?_)
      rintro _ W ⟨rfl, hb⟩
      replace H := H.below hb
      clear hb
      refine s_run (w_none rfl) rfl (d_not rfl rfl) ?_
      refine s_run (w_none rfl) rfl (mv_bx (c := false) rfl rfl (by first | rfl | (simp; omega) | simp_all)) ?_
      refine s_run (w_g rfl rfl rfl rfl) rfl (d_fa rfl rfl tf33_0) ?_
      refine s_run (w_g rfl rfl rfl rfl) rfl (d_ldX (g := gm) (off := 0) rfl H rfl rfl rfl ta3) ?_
      refine s_run (w_g rfl rfl rfl rfl) rfl (d_eq rfl rfl rfl) ?_
      refine s_run (w_g rfl rfl rfl rfl) rfl (mv_bx (c := false) rfl rfl (by first | rfl | (simp; omega) | simp_all)) ?_
      refine s_skip (w_gno rfl rfl rfl rfl rfl) rfl ?_
      refine s_skip (w_gno rfl rfl rfl rfl rfl) rfl ?_
      refine s_skip (w_gno rfl rfl rfl rfl rfl) rfl ?_
      refine s_skip (w_gno rfl rfl rfl rfl rfl) rfl ?_
      refine s_skip (w_gno rfl rfl rfl rfl rfl) rfl ?_
      refine s_skip (w_gu rfl rfl rfl rfl rfl) rfl ?_
      refine s_skip (w_gu rfl rfl rfl rfl rfl) rfl ?_
      refine s_skip (w_gu rfl rfl rfl rfl rfl) rfl ?_
      refine s_skip (w_gu rfl rfl rfl rfl rfl) rfl ?_
      refine s_skip (w_gu rfl rfl rfl rfl rfl) rfl ?_
      refine s_skip (w_gu rfl rfl rfl rfl rfl) rfl ?_
      refine s_skip (w_gno rfl rfl rfl rfl rfl) rfl ?_
      refine s_run (w_g rfl rfl rfl rfl) rfl (d_pickF rfl rfl rfl) ?_
      refine s_run (w_none rfl) rfl (d_pickF rfl rfl rfl) ?_
      refine s_run (w_none rfl) rfl (mv_bx (c := false) rfl rfl (by first | rfl | (simp; omega) | simp_all)) ?_
      refine s_run (w_g rfl rfl rfl rfl) rfl (d_fa rfl rfl tf33_0) ?_
      refine s_run (w_g rfl rfl rfl rfl) rfl (d_ldX (g := gm) (off := 0) rfl H rfl rfl rfl ta3) ?_
      refine s_run (w_g rfl rfl rfl rfl) rfl (d_eq rfl rfl rfl) ?_
      refine s_run (w_g rfl rfl rfl rfl) rfl (mv_bx (c := true) rfl rfl (by first | rfl | (simp; omega) | simp_all)) ?_
      refine s_run (w_g rfl rfl rfl rfl) rfl (d_fa rfl rfl tf33_4) ?_
      refine s_run (w_g rfl rfl rfl rfl) rfl (d_ldX (g := gm) (off := 75) rfl H (sub_r_move ho) rfl rfl ta3) ?_
      refine s_eff (e_call (w_g rfl rfl rfl rfl) rfl rfl Tryz.func35 rfl rfl rfl (inR _) ?_)
      rintro _ W ⟨rfl, hb⟩
      replace H := H.below hb
      clear hb
      refine s_run (w_g rfl rfl rfl rfl) rfl (d_not rfl rfl) ?_
      refine s_run (w_g rfl rfl rfl rfl) rfl (d_pickT rfl rfl rfl) ?_
      refine s_run (w_none rfl) rfl (d_pickF rfl rfl rfl) ?_
      refine s_run (w_none rfl) rfl (mv_bx (c := false) rfl rfl (by first | rfl | (simp; omega) | simp_all)) ?_
      refine s_run (w_g rfl rfl rfl rfl) rfl (d_fa rfl rfl tf33_0) ?_
      refine s_run (w_g rfl rfl rfl rfl) rfl (d_ldX (g := gm) (off := 0) rfl H rfl rfl rfl ta3) ?_
      refine s_run (w_g rfl rfl rfl rfl) rfl (d_eq rfl rfl rfl) ?_
      refine s_run (w_g rfl rfl rfl rfl) rfl (mv_bx (c := false) rfl rfl (by first | rfl | (simp; omega) | simp_all)) ?_
      refine s_skip (w_gno rfl rfl rfl rfl rfl) rfl ?_
      refine s_skip (w_gno rfl rfl rfl rfl rfl) rfl ?_
      refine s_skip (w_gno rfl rfl rfl rfl rfl) rfl ?_
      refine s_skip (w_gno rfl rfl rfl rfl rfl) rfl ?_
      refine s_run (w_g rfl rfl rfl rfl) rfl (d_pickF rfl rfl rfl) ?_
      refine s_run (w_none rfl) rfl (d_pickF rfl rfl rfl) ?_
      refine l_nil ?_
      refine k_condF rfl (by first | rfl | (simp; omega) | simp_all) ?_
      refine k_skip ?_
      refine k_seq ?_
      refine k_seq ?_
      rcases hn : Rc.none r.tx with _ | _
      · skip
        refine k_region ?_
        refine s_run (w_none rfl) rfl (d_fa rfl rfl tf33_0) ?_
        refine s_run (w_none rfl) rfl (d_ldX (g := gm) (off := 0) rfl H rfl rfl rfl ta3) ?_
        refine s_run (w_none rfl) rfl (d_eq rfl rfl rfl) ?_
        refine s_run (w_none rfl) rfl (mv_bx (c := true) rfl rfl (by first | rfl | (simp; omega) | simp_all)) ?_
        refine s_run (w_g rfl rfl rfl rfl) rfl (d_fa rfl rfl tf33_6) ?_
        refine s_run (w_g rfl rfl rfl rfl) rfl (d_ldXM (g := gm) (off := 77) rfl H (sub_r_tx ho rfl) rfl rfl rfl rfl ta31 ts31) ?_
        refine s_eff (e_call (w_g rfl rfl rfl rfl) rfl rfl Tryz.func30 rfl rfl rfl (noneR _ (keeps_Tx _ _ _ _ _ ht (fun g hg _ => H.fr.block g hg (fun h => h))) hs) ?_)
        rintro _ W ⟨rfl, hb⟩
        replace H := H.below hb
        clear hb
        refine s_run (w_g rfl rfl rfl rfl) rfl (d_not rfl rfl) ?_
        refine s_run (w_none rfl) rfl (d_pickT rfl rfl rfl) ?_
        refine s_run (w_none rfl) rfl (mv_bx (c := true) rfl rfl (by first | rfl | (simp [hn]; done))) ?_
        refine s_run (w_g rfl rfl rfl rfl) rfl (d_fa rfl rfl tf33_6) ?_
        refine s_run (w_g rfl rfl rfl rfl) rfl (d_ldXM (g := gm) (off := 77) rfl H (sub_r_tx ho rfl) rfl rfl rfl rfl ta31 ts31) ?_
        refine s_eff (e_call (w_g rfl rfl rfl rfl) rfl rfl Tryz.func38 rfl rfl rfl (checkTR _ (keeps_Tx _ _ _ _ _ ht (fun g hg _ => H.fr.block g hg (fun h => h)))) ?_)
        rintro _ W ⟨rfl, hb⟩
        replace H := H.below hb
        clear hb
        refine s_run (w_g rfl rfl rfl rfl) rfl (d_ne rfl rfl rfl) ?_
        refine s_run (w_none rfl) rfl (d_pickT rfl rfl rfl) ?_
        refine l_nil ?_
        refine k_cond rfl (fun hc66 => ?_) (fun hc66 => ?_)
        · have hcx : Tx.chk r.tx ≠ 0 := by simpa using hc66
          refine k_seq ?_
          refine k_region ?_
          refine s_run (w_none rfl) rfl (d_fa rfl rfl tf33_6) ?_
          refine s_run (w_none rfl) rfl (d_ldXM (g := gm) (off := 77) rfl H (sub_r_tx ho rfl) rfl rfl rfl rfl ta31 ts31) ?_
          refine s_eff (e_call (w_none rfl) rfl rfl Tryz.func38 rfl rfl rfl (checkTR _ (keeps_Tx _ _ _ _ _ ht (fun g hg _ => H.fr.block g hg (fun h => h)))) ?_)
          rintro _ W ⟨rfl, hb⟩
          replace H := H.below hb
          clear hb
          refine s_run (w_none rfl) rfl (as_i rfl rfl) ?_
          refine l_nil ?_
          refine k_ret ?_
          repeat (first | refine r_then ?_ | refine r_blk ?_)
          have ha : Rc.argOk r = true := Rc.arg_mk hid (fun e => by first | exact ⟨h1.2.1, h1.2.2⟩ | (exfalso; omega)) (fun e => by first | exact h1.2 | (exfalso; omega)) (fun e => by first | exact h1.2 | (exfalso; omega))
          have ho1 := Rc.own_tx ha h1.1 hn
          exact q_ret (v := .int _ _) rfl rfl ⟨_, rfl, vi (by rw [Rc.chk_own hk9 (by rw [ho1]; exact hcx), ho1]), H.under⟩
        · have hcx : Tx.chk r.tx = 0 := by simpa using hc66
          refine k_skip ?_
          refine k_seq ?_
          refine k_seq ?_
          have h1k : r.kind = 3 := by omega
          rcases Rc.for_cases r with h2 | h2 | h2 | h2 | h2 | h2
          · skip
            refine k_region ?_
            refine s_run (w_none rfl) rfl (d_fa rfl rfl tf33_0) ?_
            refine s_run (w_none rfl) rfl (d_ldX (g := gm) (off := 0) rfl H rfl rfl rfl ta3) ?_
            refine s_run (w_none rfl) rfl (d_ne rfl rfl rfl) ?_
            refine s_run (w_none rfl) rfl (mv_bx (c := true) rfl rfl (by first | rfl | (simp; omega) | simp_all)) ?_
            refine s_run (w_g rfl rfl rfl rfl) rfl (d_fa rfl rfl tf33_2) ?_
            refine s_run (w_g rfl rfl rfl rfl) rfl (d_ldXM (g := gm) (off := 2) rfl H (sub_r_deal ho) (len_deal ho.2.2.1.2.2.2.2.1) rfl rfl rfl ta27 ts27) ?_
            refine s_run (w_g rfl rfl rfl rfl) rfl (d_build (vs := dealC Rc.zDeal) rfl (by kernel_rfl)) ?_
            refine s_run (w_g rfl rfl rfl rfl) rfl (d_nest (r := beqDeal r.deal Rc.zDeal) rfl rfl rfl (eq_Deal (d := 9997) (deal_rep (W := w) (S := nT) ho.2.2.1) (deal_rep (W := w) (S := nT) Rc.ok_zd)) (by kernel_rfl)) ?_
            refine s_run (w_none rfl) rfl (d_pickT rfl rfl rfl) ?_
            refine s_run (w_none rfl) rfl (mv_bx (c := true) rfl rfl (by first | rfl | (simp; omega) | simp_all)) ?_
            refine s_skip (w_gno rfl rfl rfl rfl rfl) rfl ?_
            refine s_skip (w_gno rfl rfl rfl rfl rfl) rfl ?_
            refine s_skip (w_gno rfl rfl rfl rfl rfl) rfl ?_
            refine s_skip (w_gno rfl rfl rfl rfl rfl) rfl ?_
            refine s_skip (w_gu rfl rfl rfl rfl rfl) rfl ?_
            refine s_skip (w_gu rfl rfl rfl rfl rfl) rfl ?_
            refine s_skip (w_gu rfl rfl rfl rfl rfl) rfl ?_
            refine s_skip (w_gu rfl rfl rfl rfl rfl) rfl ?_
            refine s_skip (w_gno rfl rfl rfl rfl rfl) rfl ?_
            refine s_run (w_none rfl) rfl (d_pickT rfl rfl rfl) ?_
            refine s_run (w_none rfl) rfl (mv_bx (c := true) rfl rfl (by first | rfl | (simp; omega) | simp_all)) ?_
            refine s_skip (w_gno rfl rfl rfl rfl rfl) rfl ?_
            refine s_skip (w_gno rfl rfl rfl rfl rfl) rfl ?_
            refine s_skip (w_gno rfl rfl rfl rfl rfl) rfl ?_
            refine s_skip (w_gno rfl rfl rfl rfl rfl) rfl ?_
            refine s_skip (w_gu rfl rfl rfl rfl rfl) rfl ?_
            refine s_skip (w_gu rfl rfl rfl rfl rfl) rfl ?_
            refine s_skip (w_gu rfl rfl rfl rfl rfl) rfl ?_
            refine s_skip (w_gu rfl rfl rfl rfl rfl) rfl ?_
            refine s_skip (w_gu rfl rfl rfl rfl rfl) rfl ?_
            refine s_skip (w_gu rfl rfl rfl rfl rfl) rfl ?_
            refine s_skip (w_gu rfl rfl rfl rfl rfl) rfl ?_
            refine s_skip (w_gu rfl rfl rfl rfl rfl) rfl ?_
            refine s_skip (w_gu rfl rfl rfl rfl rfl) rfl ?_
            refine s_skip (w_gno rfl rfl rfl rfl rfl) rfl ?_
            refine s_run (w_none rfl) rfl (d_pickT rfl rfl rfl) ?_
            refine s_run (w_none rfl) rfl (mv_bx (c := true) rfl rfl (by first | rfl | (simp; omega) | simp_all)) ?_
            refine s_skip (w_gno rfl rfl rfl rfl rfl) rfl ?_
            refine s_skip (w_gno rfl rfl rfl rfl rfl) rfl ?_
            refine s_skip (w_gno rfl rfl rfl rfl rfl) rfl ?_
            refine s_skip (w_gno rfl rfl rfl rfl rfl) rfl ?_
            refine s_skip (w_gu rfl rfl rfl rfl rfl) rfl ?_
            refine s_skip (w_gu rfl rfl rfl rfl rfl) rfl ?_
            refine s_skip (w_gu rfl rfl rfl rfl rfl) rfl ?_
            refine s_skip (w_gno rfl rfl rfl rfl rfl) rfl ?_
            refine s_run (w_none rfl) rfl (d_pickT rfl rfl rfl) ?_
            refine l_nil ?_
            refine k_condT rfl (by first | rfl | (simp; omega) | simp_all) ?_
            refine k_seq ?_
            refine k_region ?_
            refine s_run (w_none rfl) rfl (as_i rfl rfl) ?_
            refine l_nil ?_
            refine k_ret ?_
            repeat (first | refine r_then ?_ | refine r_blk ?_)
            have ha : Rc.argOk r = true := Rc.arg_mk hid (fun e => by first | exact ⟨h1.2.1, h1.2.2⟩ | (exfalso; omega)) (fun e => by first | exact h1.2 | (exfalso; omega)) (fun e => by first | exact h1.2 | (exfalso; omega))
            have ho1 : Rc.own r = 0 := (by rw [Rc.own_tx ha h1.1 hn]; exact hcx)
            exact q_ret (v := .int _ _) rfl rfl ⟨_, rfl, vi (by rw [Rc.chk_for hk9 ho1, if_pos h2.2.2]), H.under⟩
          · skip
            refine k_region ?_
            refine s_run (w_none rfl) rfl (d_fa rfl rfl tf33_0) ?_
            refine s_run (w_none rfl) rfl (d_ldX (g := gm) (off := 0) rfl H rfl rfl rfl ta3) ?_
            refine s_run (w_none rfl) rfl (d_ne rfl rfl rfl) ?_
            refine s_run (w_none rfl) rfl (mv_bx (c := true) rfl rfl (by first | rfl | (simp; omega) | simp_all)) ?_
            refine s_run (w_g rfl rfl rfl rfl) rfl (d_fa rfl rfl tf33_2) ?_
            refine s_run (w_g rfl rfl rfl rfl) rfl (d_ldXM (g := gm) (off := 2) rfl H (sub_r_deal ho) (len_deal ho.2.2.1.2.2.2.2.1) rfl rfl rfl ta27 ts27) ?_
            refine s_run (w_g rfl rfl rfl rfl) rfl (d_build (vs := dealC Rc.zDeal) rfl (by kernel_rfl)) ?_
            refine s_run (w_g rfl rfl rfl rfl) rfl (d_nest (r := beqDeal r.deal Rc.zDeal) rfl rfl rfl (eq_Deal (d := 9997) (deal_rep (W := w) (S := nT) ho.2.2.1) (deal_rep (W := w) (S := nT) Rc.ok_zd)) (by kernel_rfl)) ?_
            refine s_run (w_none rfl) rfl (d_pickT rfl rfl rfl) ?_
            refine s_run (w_none rfl) rfl (mv_bx (c := false) rfl rfl (by first | rfl | (simp; omega) | simp_all)) ?_
            refine s_run (w_g rfl rfl rfl rfl) rfl (d_fa rfl rfl tf33_0) ?_
            refine s_run (w_g rfl rfl rfl rfl) rfl (d_ldX (g := gm) (off := 0) rfl H rfl rfl rfl ta3) ?_
            refine s_run (w_g rfl rfl rfl rfl) rfl (d_ne rfl rfl rfl) ?_
            refine s_run (w_g rfl rfl rfl rfl) rfl (mv_bx (c := true) rfl rfl (by first | rfl | (simp; omega) | simp_all)) ?_
            refine s_run (w_g rfl rfl rfl rfl) rfl (d_fa rfl rfl tf33_3) ?_
            refine s_run (w_g rfl rfl rfl rfl) rfl (d_ldXM (g := gm) (off := 43) rfl H (sub_r_secret ho) (by rw [List.length_map]; exact ho.2.2.2.1) rfl rfl rfl ta25 ts25) ?_
            refine s_run (w_g rfl rfl rfl rfl) rfl (d_build (vs := Rc.z32.map u8v) rfl (by kernel_rfl)) ?_
            refine s_run (w_g rfl rfl rfl rfl) rfl (d_nearr rfl rfl rfl tu25 tu5 ts5 ho.2.2.2.1 (show Rc.z32.length = 32 from rfl) (by kernel_rfl)) ?_
            refine s_run (w_g rfl rfl rfl rfl) rfl (d_pickT rfl rfl rfl) ?_
            refine s_run (w_none rfl) rfl (d_pickF rfl rfl rfl) ?_
            refine s_run (w_none rfl) rfl (mv_bx (c := true) rfl rfl (by first | rfl | (simp; omega) | simp_all)) ?_
            refine s_skip (w_gno rfl rfl rfl rfl rfl) rfl ?_
            refine s_skip (w_gno rfl rfl rfl rfl rfl) rfl ?_
            refine s_skip (w_gno rfl rfl rfl rfl rfl) rfl ?_
            refine s_skip (w_gno rfl rfl rfl rfl rfl) rfl ?_
            refine s_skip (w_gu rfl rfl rfl rfl rfl) rfl ?_
            refine s_skip (w_gu rfl rfl rfl rfl rfl) rfl ?_
            refine s_skip (w_gu rfl rfl rfl rfl rfl) rfl ?_
            refine s_skip (w_gu rfl rfl rfl rfl rfl) rfl ?_
            refine s_skip (w_gu rfl rfl rfl rfl rfl) rfl ?_
            refine s_skip (w_gu rfl rfl rfl rfl rfl) rfl ?_
            refine s_skip (w_gu rfl rfl rfl rfl rfl) rfl ?_
            refine s_skip (w_gu rfl rfl rfl rfl rfl) rfl ?_
            refine s_skip (w_gu rfl rfl rfl rfl rfl) rfl ?_
            refine s_skip (w_gno rfl rfl rfl rfl rfl) rfl ?_
            refine s_run (w_none rfl) rfl (d_pickT rfl rfl rfl) ?_
            refine s_run (w_none rfl) rfl (mv_bx (c := true) rfl rfl (by first | rfl | (simp; omega) | simp_all)) ?_
            refine s_skip (w_gno rfl rfl rfl rfl rfl) rfl ?_
            refine s_skip (w_gno rfl rfl rfl rfl rfl) rfl ?_
            refine s_skip (w_gno rfl rfl rfl rfl rfl) rfl ?_
            refine s_skip (w_gno rfl rfl rfl rfl rfl) rfl ?_
            refine s_skip (w_gu rfl rfl rfl rfl rfl) rfl ?_
            refine s_skip (w_gu rfl rfl rfl rfl rfl) rfl ?_
            refine s_skip (w_gu rfl rfl rfl rfl rfl) rfl ?_
            refine s_skip (w_gno rfl rfl rfl rfl rfl) rfl ?_
            refine s_run (w_none rfl) rfl (d_pickT rfl rfl rfl) ?_
            refine l_nil ?_
            refine k_condT rfl (by first | rfl | (simp; omega) | simp_all) ?_
            refine k_seq ?_
            refine k_region ?_
            refine s_run (w_none rfl) rfl (as_i rfl rfl) ?_
            refine l_nil ?_
            refine k_ret ?_
            repeat (first | refine r_then ?_ | refine r_blk ?_)
            have ha : Rc.argOk r = true := Rc.arg_mk hid (fun e => by first | exact ⟨h1.2.1, h1.2.2⟩ | (exfalso; omega)) (fun e => by first | exact h1.2 | (exfalso; omega)) (fun e => by first | exact h1.2 | (exfalso; omega))
            have ho1 : Rc.own r = 0 := (by rw [Rc.own_tx ha h1.1 hn]; exact hcx)
            exact q_ret (v := .int _ _) rfl rfl ⟨_, rfl, vi (by rw [Rc.chk_for hk9 ho1, if_pos h2.2.2.2]), H.under⟩
          · exfalso; omega
          · exfalso; omega
          · skip
            refine k_region ?_
            refine s_run (w_none rfl) rfl (d_fa rfl rfl tf33_0) ?_
            refine s_run (w_none rfl) rfl (d_ldX (g := gm) (off := 0) rfl H rfl rfl rfl ta3) ?_
            refine s_run (w_none rfl) rfl (d_ne rfl rfl rfl) ?_
            refine s_run (w_none rfl) rfl (mv_bx (c := true) rfl rfl (by first | rfl | (simp; omega) | simp_all)) ?_
            refine s_run (w_g rfl rfl rfl rfl) rfl (d_fa rfl rfl tf33_2) ?_
            refine s_run (w_g rfl rfl rfl rfl) rfl (d_ldXM (g := gm) (off := 2) rfl H (sub_r_deal ho) (len_deal ho.2.2.1.2.2.2.2.1) rfl rfl rfl ta27 ts27) ?_
            refine s_run (w_g rfl rfl rfl rfl) rfl (d_build (vs := dealC Rc.zDeal) rfl (by kernel_rfl)) ?_
            refine s_run (w_g rfl rfl rfl rfl) rfl (d_nest (r := beqDeal r.deal Rc.zDeal) rfl rfl rfl (eq_Deal (d := 9997) (deal_rep (W := w) (S := nT) ho.2.2.1) (deal_rep (W := w) (S := nT) Rc.ok_zd)) (by kernel_rfl)) ?_
            refine s_run (w_none rfl) rfl (d_pickT rfl rfl rfl) ?_
            refine s_run (w_none rfl) rfl (mv_bx (c := false) rfl rfl (by first | rfl | (simp; omega) | simp_all)) ?_
            refine s_run (w_g rfl rfl rfl rfl) rfl (d_fa rfl rfl tf33_0) ?_
            refine s_run (w_g rfl rfl rfl rfl) rfl (d_ldX (g := gm) (off := 0) rfl H rfl rfl rfl ta3) ?_
            refine s_run (w_g rfl rfl rfl rfl) rfl (d_ne rfl rfl rfl) ?_
            refine s_run (w_g rfl rfl rfl rfl) rfl (mv_bx (c := true) rfl rfl (by first | rfl | (simp; omega) | simp_all)) ?_
            refine s_run (w_g rfl rfl rfl rfl) rfl (d_fa rfl rfl tf33_3) ?_
            refine s_run (w_g rfl rfl rfl rfl) rfl (d_ldXM (g := gm) (off := 43) rfl H (sub_r_secret ho) (by rw [List.length_map]; exact ho.2.2.2.1) rfl rfl rfl ta25 ts25) ?_
            refine s_run (w_g rfl rfl rfl rfl) rfl (d_build (vs := Rc.z32.map u8v) rfl (by kernel_rfl)) ?_
            refine s_run (w_g rfl rfl rfl rfl) rfl (d_nearr rfl rfl rfl tu25 tu5 ts5 ho.2.2.2.1 (show Rc.z32.length = 32 from rfl) (by kernel_rfl)) ?_
            refine s_run (w_g rfl rfl rfl rfl) rfl (d_pickT rfl rfl rfl) ?_
            refine s_run (w_none rfl) rfl (d_pickF rfl rfl rfl) ?_
            refine s_run (w_none rfl) rfl (mv_bx (c := false) rfl rfl (by first | rfl | (simp; omega) | simp_all)) ?_
            refine s_run (w_g rfl rfl rfl rfl) rfl (d_fa rfl rfl tf33_0) ?_
            refine s_run (w_g rfl rfl rfl rfl) rfl (d_ldX (g := gm) (off := 0) rfl H rfl rfl rfl ta3) ?_
            refine s_run (w_g rfl rfl rfl rfl) rfl (d_ne rfl rfl rfl) ?_
            refine s_run (w_g rfl rfl rfl rfl) rfl (mv_bx (c := false) rfl rfl (by first | rfl | (simp; omega) | simp_all)) ?_
            refine s_skip (w_gno rfl rfl rfl rfl rfl) rfl ?_
            refine s_skip (w_gno rfl rfl rfl rfl rfl) rfl ?_
            refine s_skip (w_gno rfl rfl rfl rfl rfl) rfl ?_
            refine s_skip (w_gno rfl rfl rfl rfl rfl) rfl ?_
            refine s_skip (w_gu rfl rfl rfl rfl rfl) rfl ?_
            refine s_skip (w_gu rfl rfl rfl rfl rfl) rfl ?_
            refine s_skip (w_gu rfl rfl rfl rfl rfl) rfl ?_
            refine s_skip (w_gu rfl rfl rfl rfl rfl) rfl ?_
            refine s_skip (w_gno rfl rfl rfl rfl rfl) rfl ?_
            refine s_run (w_g rfl rfl rfl rfl) rfl (d_pickF rfl rfl rfl) ?_
            refine s_run (w_none rfl) rfl (d_pickF rfl rfl rfl) ?_
            refine s_run (w_none rfl) rfl (mv_bx (c := false) rfl rfl (by first | rfl | (simp; omega) | simp_all)) ?_
            refine s_run (w_g rfl rfl rfl rfl) rfl (d_fa rfl rfl tf33_0) ?_
            refine s_run (w_g rfl rfl rfl rfl) rfl (d_ldX (g := gm) (off := 0) rfl H rfl rfl rfl ta3) ?_
            refine s_run (w_g rfl rfl rfl rfl) rfl (d_ne rfl rfl rfl) ?_
            refine s_run (w_g rfl rfl rfl rfl) rfl (mv_bx (c := true) rfl rfl (by first | rfl | (simp; omega) | simp_all)) ?_
            refine s_run (w_g rfl rfl rfl rfl) rfl (d_fa rfl rfl tf33_5) ?_
            refine s_run (w_g rfl rfl rfl rfl) rfl (d_ldX (g := gm) (off := 76) rfl H (sub_r_state ho) rfl rfl ta3) ?_
            refine s_run (w_g rfl rfl rfl rfl) rfl (d_ne rfl rfl rfl) ?_
            refine s_run (w_g rfl rfl rfl rfl) rfl (d_pickT rfl rfl rfl) ?_
            refine s_run (w_none rfl) rfl (d_pickF rfl rfl rfl) ?_
            refine l_nil ?_
            refine k_condT rfl (by first | rfl | (simp; omega) | simp_all) ?_
            refine k_seq ?_
            refine k_region ?_
            refine s_run (w_none rfl) rfl (as_i rfl rfl) ?_
            refine l_nil ?_
            refine k_ret ?_
            repeat (first | refine r_then ?_ | refine r_blk ?_)
            have ha : Rc.argOk r = true := Rc.arg_mk hid (fun e => by first | exact ⟨h1.2.1, h1.2.2⟩ | (exfalso; omega)) (fun e => by first | exact h1.2 | (exfalso; omega)) (fun e => by first | exact h1.2 | (exfalso; omega))
            have ho1 : Rc.own r = 0 := (by rw [Rc.own_tx ha h1.1 hn]; exact hcx)
            exact q_ret (v := .int _ _) rfl rfl ⟨_, rfl, vi (by rw [Rc.chk_for hk9 ho1, if_pos h2.2.2.2.2.2]), H.under⟩
          · skip
            refine k_region ?_
            refine s_run (w_none rfl) rfl (d_fa rfl rfl tf33_0) ?_
            refine s_run (w_none rfl) rfl (d_ldX (g := gm) (off := 0) rfl H rfl rfl rfl ta3) ?_
            refine s_run (w_none rfl) rfl (d_ne rfl rfl rfl) ?_
            refine s_run (w_none rfl) rfl (mv_bx (c := true) rfl rfl (by first | rfl | (simp; omega) | simp_all)) ?_
            refine s_run (w_g rfl rfl rfl rfl) rfl (d_fa rfl rfl tf33_2) ?_
            refine s_run (w_g rfl rfl rfl rfl) rfl (d_ldXM (g := gm) (off := 2) rfl H (sub_r_deal ho) (len_deal ho.2.2.1.2.2.2.2.1) rfl rfl rfl ta27 ts27) ?_
            refine s_run (w_g rfl rfl rfl rfl) rfl (d_build (vs := dealC Rc.zDeal) rfl (by kernel_rfl)) ?_
            refine s_run (w_g rfl rfl rfl rfl) rfl (d_nest (r := beqDeal r.deal Rc.zDeal) rfl rfl rfl (eq_Deal (d := 9997) (deal_rep (W := w) (S := nT) ho.2.2.1) (deal_rep (W := w) (S := nT) Rc.ok_zd)) (by kernel_rfl)) ?_
            refine s_run (w_none rfl) rfl (d_pickT rfl rfl rfl) ?_
            refine s_run (w_none rfl) rfl (mv_bx (c := false) rfl rfl (by first | rfl | (simp; omega) | simp_all)) ?_
            refine s_run (w_g rfl rfl rfl rfl) rfl (d_fa rfl rfl tf33_0) ?_
            refine s_run (w_g rfl rfl rfl rfl) rfl (d_ldX (g := gm) (off := 0) rfl H rfl rfl rfl ta3) ?_
            refine s_run (w_g rfl rfl rfl rfl) rfl (d_ne rfl rfl rfl) ?_
            refine s_run (w_g rfl rfl rfl rfl) rfl (mv_bx (c := true) rfl rfl (by first | rfl | (simp; omega) | simp_all)) ?_
            refine s_run (w_g rfl rfl rfl rfl) rfl (d_fa rfl rfl tf33_3) ?_
            refine s_run (w_g rfl rfl rfl rfl) rfl (d_ldXM (g := gm) (off := 43) rfl H (sub_r_secret ho) (by rw [List.length_map]; exact ho.2.2.2.1) rfl rfl rfl ta25 ts25) ?_
            refine s_run (w_g rfl rfl rfl rfl) rfl (d_build (vs := Rc.z32.map u8v) rfl (by kernel_rfl)) ?_
            refine s_run (w_g rfl rfl rfl rfl) rfl (d_nearr rfl rfl rfl tu25 tu5 ts5 ho.2.2.2.1 (show Rc.z32.length = 32 from rfl) (by kernel_rfl)) ?_
            refine s_run (w_g rfl rfl rfl rfl) rfl (d_pickT rfl rfl rfl) ?_
            refine s_run (w_none rfl) rfl (d_pickF rfl rfl rfl) ?_
            refine s_run (w_none rfl) rfl (mv_bx (c := false) rfl rfl (by first | rfl | (simp; omega) | simp_all)) ?_
            refine s_run (w_g rfl rfl rfl rfl) rfl (d_fa rfl rfl tf33_0) ?_
            refine s_run (w_g rfl rfl rfl rfl) rfl (d_ldX (g := gm) (off := 0) rfl H rfl rfl rfl ta3) ?_
            refine s_run (w_g rfl rfl rfl rfl) rfl (d_ne rfl rfl rfl) ?_
            refine s_run (w_g rfl rfl rfl rfl) rfl (mv_bx (c := false) rfl rfl (by first | rfl | (simp; omega) | simp_all)) ?_
            refine s_skip (w_gno rfl rfl rfl rfl rfl) rfl ?_
            refine s_skip (w_gno rfl rfl rfl rfl rfl) rfl ?_
            refine s_skip (w_gno rfl rfl rfl rfl rfl) rfl ?_
            refine s_skip (w_gno rfl rfl rfl rfl rfl) rfl ?_
            refine s_skip (w_gu rfl rfl rfl rfl rfl) rfl ?_
            refine s_skip (w_gu rfl rfl rfl rfl rfl) rfl ?_
            refine s_skip (w_gu rfl rfl rfl rfl rfl) rfl ?_
            refine s_skip (w_gu rfl rfl rfl rfl rfl) rfl ?_
            refine s_skip (w_gno rfl rfl rfl rfl rfl) rfl ?_
            refine s_run (w_g rfl rfl rfl rfl) rfl (d_pickF rfl rfl rfl) ?_
            refine s_run (w_none rfl) rfl (d_pickF rfl rfl rfl) ?_
            refine s_run (w_none rfl) rfl (mv_bx (c := false) rfl rfl (by first | rfl | (simp; omega) | simp_all)) ?_
            refine s_run (w_g rfl rfl rfl rfl) rfl (d_fa rfl rfl tf33_0) ?_
            refine s_run (w_g rfl rfl rfl rfl) rfl (d_ldX (g := gm) (off := 0) rfl H rfl rfl rfl ta3) ?_
            refine s_run (w_g rfl rfl rfl rfl) rfl (d_ne rfl rfl rfl) ?_
            refine s_run (w_g rfl rfl rfl rfl) rfl (mv_bx (c := true) rfl rfl (by first | rfl | (simp; omega) | simp_all)) ?_
            refine s_run (w_g rfl rfl rfl rfl) rfl (d_fa rfl rfl tf33_5) ?_
            refine s_run (w_g rfl rfl rfl rfl) rfl (d_ldX (g := gm) (off := 76) rfl H (sub_r_state ho) rfl rfl ta3) ?_
            refine s_run (w_g rfl rfl rfl rfl) rfl (d_ne rfl rfl rfl) ?_
            refine s_run (w_g rfl rfl rfl rfl) rfl (d_pickT rfl rfl rfl) ?_
            refine s_run (w_none rfl) rfl (d_pickF rfl rfl rfl) ?_
            refine l_nil ?_
            refine k_condF rfl (by first | rfl | (simp; omega) | simp_all) ?_
            refine k_skip ?_
            refine k_seq ?_
            refine k_region ?_
            refine s_run (w_none rfl) rfl (as_i rfl rfl) ?_
            refine l_nil ?_
            refine k_ret ?_
            repeat (first | refine r_then ?_ | refine r_blk ?_)
            have ha : Rc.argOk r = true := Rc.arg_mk hid (fun e => by first | exact ⟨h1.2.1, h1.2.2⟩ | (exfalso; omega)) (fun e => by first | exact h1.2 | (exfalso; omega)) (fun e => by first | exact h1.2 | (exfalso; omega))
            have ho1 : Rc.own r = 0 := (by rw [Rc.own_tx ha h1.1 hn]; exact hcx)
            exact q_ret (v := .int _ _) rfl rfl ⟨_, rfl, vi (by rw [Rc.chk_for hk9 ho1, if_neg (by rw [h2.2.2.2.2]; simp)]), H.under⟩
      · skip
        refine k_region ?_
        refine s_run (w_none rfl) rfl (d_fa rfl rfl tf33_0) ?_
        refine s_run (w_none rfl) rfl (d_ldX (g := gm) (off := 0) rfl H rfl rfl rfl ta3) ?_
        refine s_run (w_none rfl) rfl (d_eq rfl rfl rfl) ?_
        refine s_run (w_none rfl) rfl (mv_bx (c := true) rfl rfl (by first | rfl | (simp; omega) | simp_all)) ?_
        refine s_run (w_g rfl rfl rfl rfl) rfl (d_fa rfl rfl tf33_6) ?_
        refine s_run (w_g rfl rfl rfl rfl) rfl (d_ldXM (g := gm) (off := 77) rfl H (sub_r_tx ho rfl) rfl rfl rfl rfl ta31 ts31) ?_
        refine s_eff (e_call (w_g rfl rfl rfl rfl) rfl rfl Tryz.func30 rfl rfl rfl (noneR _ (keeps_Tx _ _ _ _ _ ht (fun g hg _ => H.fr.block g hg (fun h => h))) hs) ?_)
        rintro _ W ⟨rfl, hb⟩
        replace H := H.below hb
        clear hb
        refine s_run (w_g rfl rfl rfl rfl) rfl (d_not rfl rfl) ?_
        refine s_run (w_none rfl) rfl (d_pickT rfl rfl rfl) ?_
        refine s_run (w_none rfl) rfl (mv_bx (c := false) rfl rfl (by first | rfl | (simp [hn]; done))) ?_
        refine s_skip (w_gno rfl rfl rfl rfl rfl) rfl ?_
        refine s_skip (w_gno rfl rfl rfl rfl rfl) rfl ?_
        refine s_skip (w_gno rfl rfl rfl rfl rfl) rfl ?_
        refine s_skip (w_gno rfl rfl rfl rfl rfl) rfl ?_
        refine s_run (w_none rfl) rfl (d_pickF rfl rfl rfl) ?_
        refine l_nil ?_
        refine k_condF rfl (by first | rfl | (simp [hn]; done)) ?_
        refine k_skip ?_
        refine k_seq ?_
        refine k_seq ?_
        have h1k : r.kind = 3 := by omega
        rcases Rc.for_cases r with h2 | h2 | h2 | h2 | h2 | h2
        · skip
          refine k_region ?_
          refine s_run (w_none rfl) rfl (d_fa rfl rfl tf33_0) ?_
          refine s_run (w_none rfl) rfl (d_ldX (g := gm) (off := 0) rfl H rfl rfl rfl ta3) ?_
          refine s_run (w_none rfl) rfl (d_ne rfl rfl rfl) ?_
          refine s_run (w_none rfl) rfl (mv_bx (c := true) rfl rfl (by first | rfl | (simp; omega) | simp_all)) ?_
          refine s_run (w_g rfl rfl rfl rfl) rfl (d_fa rfl rfl tf33_2) ?_
          refine s_run (w_g rfl rfl rfl rfl) rfl (d_ldXM (g := gm) (off := 2) rfl H (sub_r_deal ho) (len_deal ho.2.2.1.2.2.2.2.1) rfl rfl rfl ta27 ts27) ?_
          refine s_run (w_g rfl rfl rfl rfl) rfl (d_build (vs := dealC Rc.zDeal) rfl (by kernel_rfl)) ?_
          refine s_run (w_g rfl rfl rfl rfl) rfl (d_nest (r := beqDeal r.deal Rc.zDeal) rfl rfl rfl (eq_Deal (d := 9997) (deal_rep (W := w) (S := nT) ho.2.2.1) (deal_rep (W := w) (S := nT) Rc.ok_zd)) (by kernel_rfl)) ?_
          refine s_run (w_none rfl) rfl (d_pickT rfl rfl rfl) ?_
          refine s_run (w_none rfl) rfl (mv_bx (c := true) rfl rfl (by first | rfl | (simp; omega) | simp_all)) ?_
          refine s_skip (w_gno rfl rfl rfl rfl rfl) rfl ?_
          refine s_skip (w_gno rfl rfl rfl rfl rfl) rfl ?_
          refine s_skip (w_gno rfl rfl rfl rfl rfl) rfl ?_
          refine s_skip (w_gno rfl rfl rfl rfl rfl) rfl ?_
          refine s_skip (w_gu rfl rfl rfl rfl rfl) rfl ?_
          refine s_skip (w_gu rfl rfl rfl rfl rfl) rfl ?_
          refine s_skip (w_gu rfl rfl rfl rfl rfl) rfl ?_
          refine s_skip (w_gu rfl rfl rfl rfl rfl) rfl ?_
          refine s_skip (w_gno rfl rfl rfl rfl rfl) rfl ?_
          refine s_run (w_none rfl) rfl (d_pickT rfl rfl rfl) ?_
          refine s_run (w_none rfl) rfl (mv_bx (c := true) rfl rfl (by first | rfl | (simp; omega) | simp_all)) ?_
          refine s_skip (w_gno rfl rfl rfl rfl rfl) rfl ?_
          refine s_skip (w_gno rfl rfl rfl rfl rfl) rfl ?_
          refine s_skip (w_gno rfl rfl rfl rfl rfl) rfl ?_
          refine s_skip (w_gno rfl rfl rfl rfl rfl) rfl ?_
          refine s_skip (w_gu rfl rfl rfl rfl rfl) rfl ?_
          refine s_skip (w_gu rfl rfl rfl rfl rfl) rfl ?_
          refine s_skip (w_gu rfl rfl rfl rfl rfl) rfl ?_
          refine s_skip (w_gu rfl rfl rfl rfl rfl) rfl ?_
          refine s_skip (w_gu rfl rfl rfl rfl rfl) rfl ?_
          refine s_skip (w_gu rfl rfl rfl rfl rfl) rfl ?_
          refine s_skip (w_gu rfl rfl rfl rfl rfl) rfl ?_
          refine s_skip (w_gu rfl rfl rfl rfl rfl) rfl ?_
          refine s_skip (w_gu rfl rfl rfl rfl rfl) rfl ?_
          refine s_skip (w_gno rfl rfl rfl rfl rfl) rfl ?_
          refine s_run (w_none rfl) rfl (d_pickT rfl rfl rfl) ?_
          refine s_run (w_none rfl) rfl (mv_bx (c := true) rfl rfl (by first | rfl | (simp; omega) | simp_all)) ?_
          refine s_skip (w_gno rfl rfl rfl rfl rfl) rfl ?_
          refine s_skip (w_gno rfl rfl rfl rfl rfl) rfl ?_
          refine s_skip (w_gno rfl rfl rfl rfl rfl) rfl ?_
          refine s_skip (w_gno rfl rfl rfl rfl rfl) rfl ?_
          refine s_skip (w_gu rfl rfl rfl rfl rfl) rfl ?_
          refine s_skip (w_gu rfl rfl rfl rfl rfl) rfl ?_
          refine s_skip (w_gu rfl rfl rfl rfl rfl) rfl ?_
          refine s_skip (w_gno rfl rfl rfl rfl rfl) rfl ?_
          refine s_run (w_none rfl) rfl (d_pickT rfl rfl rfl) ?_
          refine l_nil ?_
          refine k_condT rfl (by first | rfl | (simp; omega) | simp_all) ?_
          refine k_seq ?_
          refine k_region ?_
          refine s_run (w_none rfl) rfl (as_i rfl rfl) ?_
          refine l_nil ?_
          refine k_ret ?_
          repeat (first | refine r_then ?_ | refine r_blk ?_)
          have ha : Rc.argOk r = true := Rc.arg_mk hid (fun e => by first | exact ⟨h1.2.1, h1.2.2⟩ | (exfalso; omega)) (fun e => by first | exact h1.2 | (exfalso; omega)) (fun e => by first | exact h1.2 | (exfalso; omega))
          have ho1 : Rc.own r = 0 := (Rc.own_ok ha (fun e => by rw [hn] at e; cases e.2))
          exact q_ret (v := .int _ _) rfl rfl ⟨_, rfl, vi (by rw [Rc.chk_for hk9 ho1, if_pos h2.2.2]), H.under⟩
        · skip
          refine k_region ?_
          refine s_run (w_none rfl) rfl (d_fa rfl rfl tf33_0) ?_
          refine s_run (w_none rfl) rfl (d_ldX (g := gm) (off := 0) rfl H rfl rfl rfl ta3) ?_
          refine s_run (w_none rfl) rfl (d_ne rfl rfl rfl) ?_
          refine s_run (w_none rfl) rfl (mv_bx (c := true) rfl rfl (by first | rfl | (simp; omega) | simp_all)) ?_
          refine s_run (w_g rfl rfl rfl rfl) rfl (d_fa rfl rfl tf33_2) ?_
          refine s_run (w_g rfl rfl rfl rfl) rfl (d_ldXM (g := gm) (off := 2) rfl H (sub_r_deal ho) (len_deal ho.2.2.1.2.2.2.2.1) rfl rfl rfl ta27 ts27) ?_
          refine s_run (w_g rfl rfl rfl rfl) rfl (d_build (vs := dealC Rc.zDeal) rfl (by kernel_rfl)) ?_
          refine s_run (w_g rfl rfl rfl rfl) rfl (d_nest (r := beqDeal r.deal Rc.zDeal) rfl rfl rfl (eq_Deal (d := 9997) (deal_rep (W := w) (S := nT) ho.2.2.1) (deal_rep (W := w) (S := nT) Rc.ok_zd)) (by kernel_rfl)) ?_
          refine s_run (w_none rfl) rfl (d_pickT rfl rfl rfl) ?_
          refine s_run (w_none rfl) rfl (mv_bx (c := false) rfl rfl (by first | rfl | (simp; omega) | simp_all)) ?_
          refine s_run (w_g rfl rfl rfl rfl) rfl (d_fa rfl rfl tf33_0) ?_
          refine s_run (w_g rfl rfl rfl rfl) rfl (d_ldX (g := gm) (off := 0) rfl H rfl rfl rfl ta3) ?_
          refine s_run (w_g rfl rfl rfl rfl) rfl (d_ne rfl rfl rfl) ?_
          refine s_run (w_g rfl rfl rfl rfl) rfl (mv_bx (c := true) rfl rfl (by first | rfl | (simp; omega) | simp_all)) ?_
          refine s_run (w_g rfl rfl rfl rfl) rfl (d_fa rfl rfl tf33_3) ?_
          refine s_run (w_g rfl rfl rfl rfl) rfl (d_ldXM (g := gm) (off := 43) rfl H (sub_r_secret ho) (by rw [List.length_map]; exact ho.2.2.2.1) rfl rfl rfl ta25 ts25) ?_
          refine s_run (w_g rfl rfl rfl rfl) rfl (d_build (vs := Rc.z32.map u8v) rfl (by kernel_rfl)) ?_
          refine s_run (w_g rfl rfl rfl rfl) rfl (d_nearr rfl rfl rfl tu25 tu5 ts5 ho.2.2.2.1 (show Rc.z32.length = 32 from rfl) (by kernel_rfl)) ?_
          refine s_run (w_g rfl rfl rfl rfl) rfl (d_pickT rfl rfl rfl) ?_
          refine s_run (w_none rfl) rfl (d_pickF rfl rfl rfl) ?_
          refine s_run (w_none rfl) rfl (mv_bx (c := true) rfl rfl (by first | rfl | (simp; omega) | simp_all)) ?_
          refine s_skip (w_gno rfl rfl rfl rfl rfl) rfl ?_
          refine s_skip (w_gno rfl rfl rfl rfl rfl) rfl ?_
          refine s_skip (w_gno rfl rfl rfl rfl rfl) rfl ?_
          refine s_skip (w_gno rfl rfl rfl rfl rfl) rfl ?_
          refine s_skip (w_gu rfl rfl rfl rfl rfl) rfl ?_
          refine s_skip (w_gu rfl rfl rfl rfl rfl) rfl ?_
          refine s_skip (w_gu rfl rfl rfl rfl rfl) rfl ?_
          refine s_skip (w_gu rfl rfl rfl rfl rfl) rfl ?_
          refine s_skip (w_gu rfl rfl rfl rfl rfl) rfl ?_
          refine s_skip (w_gu rfl rfl rfl rfl rfl) rfl ?_
          refine s_skip (w_gu rfl rfl rfl rfl rfl) rfl ?_
          refine s_skip (w_gu rfl rfl rfl rfl rfl) rfl ?_
          refine s_skip (w_gu rfl rfl rfl rfl rfl) rfl ?_
          refine s_skip (w_gno rfl rfl rfl rfl rfl) rfl ?_
          refine s_run (w_none rfl) rfl (d_pickT rfl rfl rfl) ?_
          refine s_run (w_none rfl) rfl (mv_bx (c := true) rfl rfl (by first | rfl | (simp; omega) | simp_all)) ?_
          refine s_skip (w_gno rfl rfl rfl rfl rfl) rfl ?_
          refine s_skip (w_gno rfl rfl rfl rfl rfl) rfl ?_
          refine s_skip (w_gno rfl rfl rfl rfl rfl) rfl ?_
          refine s_skip (w_gno rfl rfl rfl rfl rfl) rfl ?_
          refine s_skip (w_gu rfl rfl rfl rfl rfl) rfl ?_
          refine s_skip (w_gu rfl rfl rfl rfl rfl) rfl ?_
          refine s_skip (w_gu rfl rfl rfl rfl rfl) rfl ?_
          refine s_skip (w_gno rfl rfl rfl rfl rfl) rfl ?_
          refine s_run (w_none rfl) rfl (d_pickT rfl rfl rfl) ?_
          refine l_nil ?_
          refine k_condT rfl (by first | rfl | (simp; omega) | simp_all) ?_
          refine k_seq ?_
          refine k_region ?_
          refine s_run (w_none rfl) rfl (as_i rfl rfl) ?_
          refine l_nil ?_
          refine k_ret ?_
          repeat (first | refine r_then ?_ | refine r_blk ?_)
          have ha : Rc.argOk r = true := Rc.arg_mk hid (fun e => by first | exact ⟨h1.2.1, h1.2.2⟩ | (exfalso; omega)) (fun e => by first | exact h1.2 | (exfalso; omega)) (fun e => by first | exact h1.2 | (exfalso; omega))
          have ho1 : Rc.own r = 0 := (Rc.own_ok ha (fun e => by rw [hn] at e; cases e.2))
          exact q_ret (v := .int _ _) rfl rfl ⟨_, rfl, vi (by rw [Rc.chk_for hk9 ho1, if_pos h2.2.2.2]), H.under⟩
        · exfalso; omega
        · exfalso; omega
        · skip
          refine k_region ?_
          refine s_run (w_none rfl) rfl (d_fa rfl rfl tf33_0) ?_
          refine s_run (w_none rfl) rfl (d_ldX (g := gm) (off := 0) rfl H rfl rfl rfl ta3) ?_
          refine s_run (w_none rfl) rfl (d_ne rfl rfl rfl) ?_
          refine s_run (w_none rfl) rfl (mv_bx (c := true) rfl rfl (by first | rfl | (simp; omega) | simp_all)) ?_
          refine s_run (w_g rfl rfl rfl rfl) rfl (d_fa rfl rfl tf33_2) ?_
          refine s_run (w_g rfl rfl rfl rfl) rfl (d_ldXM (g := gm) (off := 2) rfl H (sub_r_deal ho) (len_deal ho.2.2.1.2.2.2.2.1) rfl rfl rfl ta27 ts27) ?_
          refine s_run (w_g rfl rfl rfl rfl) rfl (d_build (vs := dealC Rc.zDeal) rfl (by kernel_rfl)) ?_
          refine s_run (w_g rfl rfl rfl rfl) rfl (d_nest (r := beqDeal r.deal Rc.zDeal) rfl rfl rfl (eq_Deal (d := 9997) (deal_rep (W := w) (S := nT) ho.2.2.1) (deal_rep (W := w) (S := nT) Rc.ok_zd)) (by kernel_rfl)) ?_
          refine s_run (w_none rfl) rfl (d_pickT rfl rfl rfl) ?_
          refine s_run (w_none rfl) rfl (mv_bx (c := false) rfl rfl (by first | rfl | (simp; omega) | simp_all)) ?_
          refine s_run (w_g rfl rfl rfl rfl) rfl (d_fa rfl rfl tf33_0) ?_
          refine s_run (w_g rfl rfl rfl rfl) rfl (d_ldX (g := gm) (off := 0) rfl H rfl rfl rfl ta3) ?_
          refine s_run (w_g rfl rfl rfl rfl) rfl (d_ne rfl rfl rfl) ?_
          refine s_run (w_g rfl rfl rfl rfl) rfl (mv_bx (c := true) rfl rfl (by first | rfl | (simp; omega) | simp_all)) ?_
          refine s_run (w_g rfl rfl rfl rfl) rfl (d_fa rfl rfl tf33_3) ?_
          refine s_run (w_g rfl rfl rfl rfl) rfl (d_ldXM (g := gm) (off := 43) rfl H (sub_r_secret ho) (by rw [List.length_map]; exact ho.2.2.2.1) rfl rfl rfl ta25 ts25) ?_
          refine s_run (w_g rfl rfl rfl rfl) rfl (d_build (vs := Rc.z32.map u8v) rfl (by kernel_rfl)) ?_
          refine s_run (w_g rfl rfl rfl rfl) rfl (d_nearr rfl rfl rfl tu25 tu5 ts5 ho.2.2.2.1 (show Rc.z32.length = 32 from rfl) (by kernel_rfl)) ?_
          refine s_run (w_g rfl rfl rfl rfl) rfl (d_pickT rfl rfl rfl) ?_
          refine s_run (w_none rfl) rfl (d_pickF rfl rfl rfl) ?_
          refine s_run (w_none rfl) rfl (mv_bx (c := false) rfl rfl (by first | rfl | (simp; omega) | simp_all)) ?_
          refine s_run (w_g rfl rfl rfl rfl) rfl (d_fa rfl rfl tf33_0) ?_
          refine s_run (w_g rfl rfl rfl rfl) rfl (d_ldX (g := gm) (off := 0) rfl H rfl rfl rfl ta3) ?_
          refine s_run (w_g rfl rfl rfl rfl) rfl (d_ne rfl rfl rfl) ?_
          refine s_run (w_g rfl rfl rfl rfl) rfl (mv_bx (c := false) rfl rfl (by first | rfl | (simp; omega) | simp_all)) ?_
          refine s_skip (w_gno rfl rfl rfl rfl rfl) rfl ?_
          refine s_skip (w_gno rfl rfl rfl rfl rfl) rfl ?_
          refine s_skip (w_gno rfl rfl rfl rfl rfl) rfl ?_
          refine s_skip (w_gno rfl rfl rfl rfl rfl) rfl ?_
          refine s_skip (w_gu rfl rfl rfl rfl rfl) rfl ?_
          refine s_skip (w_gu rfl rfl rfl rfl rfl) rfl ?_
          refine s_skip (w_gu rfl rfl rfl rfl rfl) rfl ?_
          refine s_skip (w_gu rfl rfl rfl rfl rfl) rfl ?_
          refine s_skip (w_gno rfl rfl rfl rfl rfl) rfl ?_
          refine s_run (w_g rfl rfl rfl rfl) rfl (d_pickF rfl rfl rfl) ?_
          refine s_run (w_none rfl) rfl (d_pickF rfl rfl rfl) ?_
          refine s_run (w_none rfl) rfl (mv_bx (c := false) rfl rfl (by first | rfl | (simp; omega) | simp_all)) ?_
          refine s_run (w_g rfl rfl rfl rfl) rfl (d_fa rfl rfl tf33_0) ?_
          refine s_run (w_g rfl rfl rfl rfl) rfl (d_ldX (g := gm) (off := 0) rfl H rfl rfl rfl ta3) ?_
          refine s_run (w_g rfl rfl rfl rfl) rfl (d_ne rfl rfl rfl) ?_
          refine s_run (w_g rfl rfl rfl rfl) rfl (mv_bx (c := true) rfl rfl (by first | rfl | (simp; omega) | simp_all)) ?_
          refine s_run (w_g rfl rfl rfl rfl) rfl (d_fa rfl rfl tf33_5) ?_
          refine s_run (w_g rfl rfl rfl rfl) rfl (d_ldX (g := gm) (off := 76) rfl H (sub_r_state ho) rfl rfl ta3) ?_
          refine s_run (w_g rfl rfl rfl rfl) rfl (d_ne rfl rfl rfl) ?_
          refine s_run (w_g rfl rfl rfl rfl) rfl (d_pickT rfl rfl rfl) ?_
          refine s_run (w_none rfl) rfl (d_pickF rfl rfl rfl) ?_
          refine l_nil ?_
          refine k_condT rfl (by first | rfl | (simp; omega) | simp_all) ?_
          refine k_seq ?_
          refine k_region ?_
          refine s_run (w_none rfl) rfl (as_i rfl rfl) ?_
          refine l_nil ?_
          refine k_ret ?_
          repeat (first | refine r_then ?_ | refine r_blk ?_)
          have ha : Rc.argOk r = true := Rc.arg_mk hid (fun e => by first | exact ⟨h1.2.1, h1.2.2⟩ | (exfalso; omega)) (fun e => by first | exact h1.2 | (exfalso; omega)) (fun e => by first | exact h1.2 | (exfalso; omega))
          have ho1 : Rc.own r = 0 := (Rc.own_ok ha (fun e => by rw [hn] at e; cases e.2))
          exact q_ret (v := .int _ _) rfl rfl ⟨_, rfl, vi (by rw [Rc.chk_for hk9 ho1, if_pos h2.2.2.2.2.2]), H.under⟩
        · skip
          refine k_region ?_
          refine s_run (w_none rfl) rfl (d_fa rfl rfl tf33_0) ?_
          refine s_run (w_none rfl) rfl (d_ldX (g := gm) (off := 0) rfl H rfl rfl rfl ta3) ?_
          refine s_run (w_none rfl) rfl (d_ne rfl rfl rfl) ?_
          refine s_run (w_none rfl) rfl (mv_bx (c := true) rfl rfl (by first | rfl | (simp; omega) | simp_all)) ?_
          refine s_run (w_g rfl rfl rfl rfl) rfl (d_fa rfl rfl tf33_2) ?_
          refine s_run (w_g rfl rfl rfl rfl) rfl (d_ldXM (g := gm) (off := 2) rfl H (sub_r_deal ho) (len_deal ho.2.2.1.2.2.2.2.1) rfl rfl rfl ta27 ts27) ?_
          refine s_run (w_g rfl rfl rfl rfl) rfl (d_build (vs := dealC Rc.zDeal) rfl (by kernel_rfl)) ?_
          refine s_run (w_g rfl rfl rfl rfl) rfl (d_nest (r := beqDeal r.deal Rc.zDeal) rfl rfl rfl (eq_Deal (d := 9997) (deal_rep (W := w) (S := nT) ho.2.2.1) (deal_rep (W := w) (S := nT) Rc.ok_zd)) (by kernel_rfl)) ?_
          refine s_run (w_none rfl) rfl (d_pickT rfl rfl rfl) ?_
          refine s_run (w_none rfl) rfl (mv_bx (c := false) rfl rfl (by first | rfl | (simp; omega) | simp_all)) ?_
          refine s_run (w_g rfl rfl rfl rfl) rfl (d_fa rfl rfl tf33_0) ?_
          refine s_run (w_g rfl rfl rfl rfl) rfl (d_ldX (g := gm) (off := 0) rfl H rfl rfl rfl ta3) ?_
          refine s_run (w_g rfl rfl rfl rfl) rfl (d_ne rfl rfl rfl) ?_
          refine s_run (w_g rfl rfl rfl rfl) rfl (mv_bx (c := true) rfl rfl (by first | rfl | (simp; omega) | simp_all)) ?_
          refine s_run (w_g rfl rfl rfl rfl) rfl (d_fa rfl rfl tf33_3) ?_
          refine s_run (w_g rfl rfl rfl rfl) rfl (d_ldXM (g := gm) (off := 43) rfl H (sub_r_secret ho) (by rw [List.length_map]; exact ho.2.2.2.1) rfl rfl rfl ta25 ts25) ?_
          refine s_run (w_g rfl rfl rfl rfl) rfl (d_build (vs := Rc.z32.map u8v) rfl (by kernel_rfl)) ?_
          refine s_run (w_g rfl rfl rfl rfl) rfl (d_nearr rfl rfl rfl tu25 tu5 ts5 ho.2.2.2.1 (show Rc.z32.length = 32 from rfl) (by kernel_rfl)) ?_
          refine s_run (w_g rfl rfl rfl rfl) rfl (d_pickT rfl rfl rfl) ?_
          refine s_run (w_none rfl) rfl (d_pickF rfl rfl rfl) ?_
          refine s_run (w_none rfl) rfl (mv_bx (c := false) rfl rfl (by first | rfl | (simp; omega) | simp_all)) ?_
          refine s_run (w_g rfl rfl rfl rfl) rfl (d_fa rfl rfl tf33_0) ?_
          refine s_run (w_g rfl rfl rfl rfl) rfl (d_ldX (g := gm) (off := 0) rfl H rfl rfl rfl ta3) ?_
          refine s_run (w_g rfl rfl rfl rfl) rfl (d_ne rfl rfl rfl) ?_
          refine s_run (w_g rfl rfl rfl rfl) rfl (mv_bx (c := false) rfl rfl (by first | rfl | (simp; omega) | simp_all)) ?_
          refine s_skip (w_gno rfl rfl rfl rfl rfl) rfl ?_
          refine s_skip (w_gno rfl rfl rfl rfl rfl) rfl ?_
          refine s_skip (w_gno rfl rfl rfl rfl rfl) rfl ?_
          refine s_skip (w_gno rfl rfl rfl rfl rfl) rfl ?_
          refine s_skip (w_gu rfl rfl rfl rfl rfl) rfl ?_
          refine s_skip (w_gu rfl rfl rfl rfl rfl) rfl ?_
          refine s_skip (w_gu rfl rfl rfl rfl rfl) rfl ?_
          refine s_skip (w_gu rfl rfl rfl rfl rfl) rfl ?_
          refine s_skip (w_gno rfl rfl rfl rfl rfl) rfl ?_
          refine s_run (w_g rfl rfl rfl rfl) rfl (d_pickF rfl rfl rfl) ?_
          refine s_run (w_none rfl) rfl (d_pickF rfl rfl rfl) ?_
          refine s_run (w_none rfl) rfl (mv_bx (c := false) rfl rfl (by first | rfl | (simp; omega) | simp_all)) ?_
          refine s_run (w_g rfl rfl rfl rfl) rfl (d_fa rfl rfl tf33_0) ?_
          refine s_run (w_g rfl rfl rfl rfl) rfl (d_ldX (g := gm) (off := 0) rfl H rfl rfl rfl ta3) ?_
          refine s_run (w_g rfl rfl rfl rfl) rfl (d_ne rfl rfl rfl) ?_
          refine s_run (w_g rfl rfl rfl rfl) rfl (mv_bx (c := true) rfl rfl (by first | rfl | (simp; omega) | simp_all)) ?_
          refine s_run (w_g rfl rfl rfl rfl) rfl (d_fa rfl rfl tf33_5) ?_
          refine s_run (w_g rfl rfl rfl rfl) rfl (d_ldX (g := gm) (off := 76) rfl H (sub_r_state ho) rfl rfl ta3) ?_
          refine s_run (w_g rfl rfl rfl rfl) rfl (d_ne rfl rfl rfl) ?_
          refine s_run (w_g rfl rfl rfl rfl) rfl (d_pickT rfl rfl rfl) ?_
          refine s_run (w_none rfl) rfl (d_pickF rfl rfl rfl) ?_
          refine l_nil ?_
          refine k_condF rfl (by first | rfl | (simp; omega) | simp_all) ?_
          refine k_skip ?_
          refine k_seq ?_
          refine k_region ?_
          refine s_run (w_none rfl) rfl (as_i rfl rfl) ?_
          refine l_nil ?_
          refine k_ret ?_
          repeat (first | refine r_then ?_ | refine r_blk ?_)
          have ha : Rc.argOk r = true := Rc.arg_mk hid (fun e => by first | exact ⟨h1.2.1, h1.2.2⟩ | (exfalso; omega)) (fun e => by first | exact h1.2 | (exfalso; omega)) (fun e => by first | exact h1.2 | (exfalso; omega))
          have ho1 : Rc.own r = 0 := (Rc.own_ok ha (fun e => by rw [hn] at e; cases e.2))
          exact q_ret (v := .int _ _) rfl rfl ⟨_, rfl, vi (by rw [Rc.chk_for hk9 ho1, if_neg (by rw [h2.2.2.2.2]; simp)]), H.under⟩
    · skip
      refine k_region ?_
      refine s_run (w_none rfl) rfl (d_fa rfl rfl tf33_1) ?_
      refine s_run (w_none rfl) rfl (d_ldX (g := gm) (off := 1) rfl H rfl rfl rfl ta3) ?_
      refine s_eff (e_call (w_none rfl) rfl rfl Tryz.func35 rfl rfl rfl (inR _) ?_)
      rintro _ W ⟨rfl, hb⟩
      replace H := H.below hb
      clear hb
      refine s_run (w_none rfl) rfl (d_not rfl rfl) ?_
      refine s_run (w_none rfl) rfl (mv_bx (c := false) rfl rfl (by first | rfl | (simp; omega) | simp_all)) ?_
      refine s_run (w_g rfl rfl rfl rfl) rfl (d_fa rfl rfl tf33_0) ?_
      refine s_run (w_g rfl rfl rfl rfl) rfl (d_ldX (g := gm) (off := 0) rfl H rfl rfl rfl ta3) ?_
      refine s_run (w_g rfl rfl rfl rfl) rfl (d_eq rfl rfl rfl) ?_
      refine s_run (w_g rfl rfl rfl rfl) rfl (mv_bx (c := false) rfl rfl (by first | rfl | (simp; omega) | simp_all)) ?_
      refine s_skip (w_gno rfl rfl rfl rfl rfl) rfl ?_
      refine s_skip (w_gno rfl rfl rfl rfl rfl) rfl ?_
      refine s_skip (w_gno rfl rfl rfl rfl rfl) rfl ?_
      refine s_skip (w_gno rfl rfl rfl rfl rfl) rfl ?_
      refine s_skip (w_gno rfl rfl rfl rfl rfl) rfl ?_
      refine s_skip (w_gu rfl rfl rfl rfl rfl) rfl ?_
      refine s_skip (w_gu rfl rfl rfl rfl rfl) rfl ?_
      refine s_skip (w_gu rfl rfl rfl rfl rfl) rfl ?_
      refine s_skip (w_gu rfl rfl rfl rfl rfl) rfl ?_
      refine s_skip (w_gu rfl rfl rfl rfl rfl) rfl ?_
      refine s_skip (w_gu rfl rfl rfl rfl rfl) rfl ?_
      refine s_skip (w_gno rfl rfl rfl rfl rfl) rfl ?_
      refine s_run (w_g rfl rfl rfl rfl) rfl (d_pickF rfl rfl rfl) ?_
      refine s_run (w_none rfl) rfl (d_pickF rfl rfl rfl) ?_
      refine s_run (w_none rfl) rfl (mv_bx (c := false) rfl rfl (by first | rfl | (simp; omega) | simp_all)) ?_
      refine s_run (w_g rfl rfl rfl rfl) rfl (d_fa rfl rfl tf33_0) ?_
      refine s_run (w_g rfl rfl rfl rfl) rfl (d_ldX (g := gm) (off := 0) rfl H rfl rfl rfl ta3) ?_
      refine s_run (w_g rfl rfl rfl rfl) rfl (d_eq rfl rfl rfl) ?_
      refine s_run (w_g rfl rfl rfl rfl) rfl (mv_bx (c := false) rfl rfl (by first | rfl | (simp; omega) | simp_all)) ?_
      refine s_skip (w_gno rfl rfl rfl rfl rfl) rfl ?_
      refine s_skip (w_gno rfl rfl rfl rfl rfl) rfl ?_
      refine s_skip (w_gno rfl rfl rfl rfl rfl) rfl ?_
      refine s_skip (w_gno rfl rfl rfl rfl rfl) rfl ?_
      refine s_run (w_g rfl rfl rfl rfl) rfl (d_pickF rfl rfl rfl) ?_
      refine s_run (w_none rfl) rfl (d_pickF rfl rfl rfl) ?_
      refine s_run (w_none rfl) rfl (mv_bx (c := false) rfl rfl (by first | rfl | (simp; omega) | simp_all)) ?_
      refine s_run (w_g rfl rfl rfl rfl) rfl (d_fa rfl rfl tf33_0) ?_
      refine s_run (w_g rfl rfl rfl rfl) rfl (d_ldX (g := gm) (off := 0) rfl H rfl rfl rfl ta3) ?_
      refine s_run (w_g rfl rfl rfl rfl) rfl (d_eq rfl rfl rfl) ?_
      refine s_run (w_g rfl rfl rfl rfl) rfl (mv_bx (c := true) rfl rfl (by first | rfl | (simp; omega) | simp_all)) ?_
      refine s_run (w_g rfl rfl rfl rfl) rfl (d_fa rfl rfl tf33_5) ?_
      refine s_run (w_g rfl rfl rfl rfl) rfl (d_ldX (g := gm) (off := 76) rfl H (sub_r_state ho) rfl rfl ta3) ?_
      refine s_eff (e_call (w_g rfl rfl rfl rfl) rfl rfl Tryz.func35 rfl rfl rfl (inR _) ?_)
      rintro _ W ⟨rfl, hb⟩
      replace H := H.below hb
      clear hb
      refine s_run (w_g rfl rfl rfl rfl) rfl (d_not rfl rfl) ?_
      refine s_run (w_g rfl rfl rfl rfl) rfl (d_pickT rfl rfl rfl) ?_
      refine s_run (w_none rfl) rfl (d_pickF rfl rfl rfl) ?_
      refine l_nil ?_
      refine k_condT rfl (by first | rfl | (simp; omega) | simp_all) ?_
      refine k_seq ?_
      refine k_region ?_
      refine s_run (w_none rfl) rfl (as_i rfl rfl) ?_
      refine l_nil ?_
      refine k_ret ?_
      repeat (first | refine r_then ?_ | refine r_blk ?_)
      have ha : ¬ Rc.argOk r = true := fun e => by obtain ⟨a0, a1, a3, a4⟩ := Rc.arg_of e; (have := a4 h1.1; omega)
      have ho1 := Rc.own_bad ha
      exact q_ret (v := .int _ _) rfl rfl ⟨_, rfl, vi (by rw [Rc.chk_own hk9 (by rw [ho1]; decide), ho1]), H.under⟩
    · skip
      refine k_region ?_
      refine s_run (w_none rfl) rfl (d_fa rfl rfl tf33_1) ?_
      refine s_run (w_none rfl) rfl (d_ldX (g := gm) (off := 1) rfl H rfl rfl rfl ta3) ?_
      refine s_eff (e_call (w_none rfl) rfl rfl Tryz.func35 rfl rfl rfl (inR _) ?_)
      rintro _ W ⟨rfl, hb⟩
      replace H := H.below hb
      clear hb
      refine s_run (w_none rfl) rfl (d_not rfl rfl) ?_
      refine s_run (w_none rfl) rfl (mv_bx (c := false) rfl rfl (by first | rfl | (simp; omega) | simp_all)) ?_
      refine s_run (w_g rfl rfl rfl rfl) rfl (d_fa rfl rfl tf33_0) ?_
      refine s_run (w_g rfl rfl rfl rfl) rfl (d_ldX (g := gm) (off := 0) rfl H rfl rfl rfl ta3) ?_
      refine s_run (w_g rfl rfl rfl rfl) rfl (d_eq rfl rfl rfl) ?_
      refine s_run (w_g rfl rfl rfl rfl) rfl (mv_bx (c := false) rfl rfl (by first | rfl | (simp; omega) | simp_all)) ?_
      refine s_skip (w_gno rfl rfl rfl rfl rfl) rfl ?_
      refine s_skip (w_gno rfl rfl rfl rfl rfl) rfl ?_
      refine s_skip (w_gno rfl rfl rfl rfl rfl) rfl ?_
      refine s_skip (w_gno rfl rfl rfl rfl rfl) rfl ?_
      refine s_skip (w_gno rfl rfl rfl rfl rfl) rfl ?_
      refine s_skip (w_gu rfl rfl rfl rfl rfl) rfl ?_
      refine s_skip (w_gu rfl rfl rfl rfl rfl) rfl ?_
      refine s_skip (w_gu rfl rfl rfl rfl rfl) rfl ?_
      refine s_skip (w_gu rfl rfl rfl rfl rfl) rfl ?_
      refine s_skip (w_gu rfl rfl rfl rfl rfl) rfl ?_
      refine s_skip (w_gu rfl rfl rfl rfl rfl) rfl ?_
      refine s_skip (w_gno rfl rfl rfl rfl rfl) rfl ?_
      refine s_run (w_g rfl rfl rfl rfl) rfl (d_pickF rfl rfl rfl) ?_
      refine s_run (w_none rfl) rfl (d_pickF rfl rfl rfl) ?_
      refine s_run (w_none rfl) rfl (mv_bx (c := false) rfl rfl (by first | rfl | (simp; omega) | simp_all)) ?_
      refine s_run (w_g rfl rfl rfl rfl) rfl (d_fa rfl rfl tf33_0) ?_
      refine s_run (w_g rfl rfl rfl rfl) rfl (d_ldX (g := gm) (off := 0) rfl H rfl rfl rfl ta3) ?_
      refine s_run (w_g rfl rfl rfl rfl) rfl (d_eq rfl rfl rfl) ?_
      refine s_run (w_g rfl rfl rfl rfl) rfl (mv_bx (c := false) rfl rfl (by first | rfl | (simp; omega) | simp_all)) ?_
      refine s_skip (w_gno rfl rfl rfl rfl rfl) rfl ?_
      refine s_skip (w_gno rfl rfl rfl rfl rfl) rfl ?_
      refine s_skip (w_gno rfl rfl rfl rfl rfl) rfl ?_
      refine s_skip (w_gno rfl rfl rfl rfl rfl) rfl ?_
      refine s_run (w_g rfl rfl rfl rfl) rfl (d_pickF rfl rfl rfl) ?_
      refine s_run (w_none rfl) rfl (d_pickF rfl rfl rfl) ?_
      refine s_run (w_none rfl) rfl (mv_bx (c := false) rfl rfl (by first | rfl | (simp; omega) | simp_all)) ?_
      refine s_run (w_g rfl rfl rfl rfl) rfl (d_fa rfl rfl tf33_0) ?_
      refine s_run (w_g rfl rfl rfl rfl) rfl (d_ldX (g := gm) (off := 0) rfl H rfl rfl rfl ta3) ?_
      refine s_run (w_g rfl rfl rfl rfl) rfl (d_eq rfl rfl rfl) ?_
      refine s_run (w_g rfl rfl rfl rfl) rfl (mv_bx (c := true) rfl rfl (by first | rfl | (simp; omega) | simp_all)) ?_
      refine s_run (w_g rfl rfl rfl rfl) rfl (d_fa rfl rfl tf33_5) ?_
      refine s_run (w_g rfl rfl rfl rfl) rfl (d_ldX (g := gm) (off := 76) rfl H (sub_r_state ho) rfl rfl ta3) ?_
      refine s_eff (e_call (w_g rfl rfl rfl rfl) rfl rfl Tryz.func35 rfl rfl rfl (inR _) ?_)
      rintro _ W ⟨rfl, hb⟩
      replace H := H.below hb
      clear hb
      refine s_run (w_g rfl rfl rfl rfl) rfl (d_not rfl rfl) ?_
      refine s_run (w_g rfl rfl rfl rfl) rfl (d_pickT rfl rfl rfl) ?_
      refine s_run (w_none rfl) rfl (d_pickF rfl rfl rfl) ?_
      refine l_nil ?_
      refine k_condF rfl (by first | rfl | (simp; omega) | simp_all) ?_
      refine k_skip ?_
      refine k_seq ?_
      refine k_seq ?_
      refine k_region ?_
      refine s_run (w_none rfl) rfl (d_fa rfl rfl tf33_0) ?_
      refine s_run (w_none rfl) rfl (d_ldX (g := gm) (off := 0) rfl H rfl rfl rfl ta3) ?_
      refine s_run (w_none rfl) rfl (d_eq rfl rfl rfl) ?_
      refine s_run (w_none rfl) rfl (mv_bx (c := false) rfl rfl (by first | rfl | (simp; omega) | simp_all)) ?_
      refine s_skip (w_gno rfl rfl rfl rfl rfl) rfl ?_
      refine s_skip (w_gno rfl rfl rfl rfl rfl) rfl ?_
      refine s_skip (w_gno rfl rfl rfl rfl rfl) rfl ?_
      refine s_skip (w_gno rfl rfl rfl rfl rfl) rfl ?_
      refine s_run (w_none rfl) rfl (d_pickF rfl rfl rfl) ?_
      refine s_run (w_none rfl) rfl (mv_bx (c := false) rfl rfl (by first | rfl | (simp [hn]; done))) ?_
      refine s_skip (w_gno rfl rfl rfl rfl rfl) rfl ?_
      refine s_skip (w_gno rfl rfl rfl rfl rfl) rfl ?_
      refine s_skip (w_gno rfl rfl rfl rfl rfl) rfl ?_
      refine s_skip (w_gno rfl rfl rfl rfl rfl) rfl ?_
      refine s_run (w_none rfl) rfl (d_pickF rfl rfl rfl) ?_
      refine l_nil ?_
      refine k_condF rfl (by first | rfl | (simp [hn]; done)) ?_
      refine k_skip ?_
      refine k_seq ?_
      refine k_seq ?_
      have h1k : r.kind = 4 := by omega
      rcases Rc.for_cases r with h2 | h2 | h2 | h2 | h2 | h2
      · skip
        refine k_region ?_
        refine s_run (w_none rfl) rfl (d_fa rfl rfl tf33_0) ?_
        refine s_run (w_none rfl) rfl (d_ldX (g := gm) (off := 0) rfl H rfl rfl rfl ta3) ?_
        refine s_run (w_none rfl) rfl (d_ne rfl rfl rfl) ?_
        refine s_run (w_none rfl) rfl (mv_bx (c := true) rfl rfl (by first | rfl | (simp; omega) | simp_all)) ?_
        refine s_run (w_g rfl rfl rfl rfl) rfl (d_fa rfl rfl tf33_2) ?_
        refine s_run (w_g rfl rfl rfl rfl) rfl (d_ldXM (g := gm) (off := 2) rfl H (sub_r_deal ho) (len_deal ho.2.2.1.2.2.2.2.1) rfl rfl rfl ta27 ts27) ?_
        refine s_run (w_g rfl rfl rfl rfl) rfl (d_build (vs := dealC Rc.zDeal) rfl (by kernel_rfl)) ?_
        refine s_run (w_g rfl rfl rfl rfl) rfl (d_nest (r := beqDeal r.deal Rc.zDeal) rfl rfl rfl (eq_Deal (d := 9997) (deal_rep (W := w) (S := nT) ho.2.2.1) (deal_rep (W := w) (S := nT) Rc.ok_zd)) (by kernel_rfl)) ?_
        refine s_run (w_none rfl) rfl (d_pickT rfl rfl rfl) ?_
        refine s_run (w_none rfl) rfl (mv_bx (c := true) rfl rfl (by first | rfl | (simp; omega) | simp_all)) ?_
        refine s_skip (w_gno rfl rfl rfl rfl rfl) rfl ?_
        refine s_skip (w_gno rfl rfl rfl rfl rfl) rfl ?_
        refine s_skip (w_gno rfl rfl rfl rfl rfl) rfl ?_
        refine s_skip (w_gno rfl rfl rfl rfl rfl) rfl ?_
        refine s_skip (w_gu rfl rfl rfl rfl rfl) rfl ?_
        refine s_skip (w_gu rfl rfl rfl rfl rfl) rfl ?_
        refine s_skip (w_gu rfl rfl rfl rfl rfl) rfl ?_
        refine s_skip (w_gu rfl rfl rfl rfl rfl) rfl ?_
        refine s_skip (w_gno rfl rfl rfl rfl rfl) rfl ?_
        refine s_run (w_none rfl) rfl (d_pickT rfl rfl rfl) ?_
        refine s_run (w_none rfl) rfl (mv_bx (c := true) rfl rfl (by first | rfl | (simp; omega) | simp_all)) ?_
        refine s_skip (w_gno rfl rfl rfl rfl rfl) rfl ?_
        refine s_skip (w_gno rfl rfl rfl rfl rfl) rfl ?_
        refine s_skip (w_gno rfl rfl rfl rfl rfl) rfl ?_
        refine s_skip (w_gno rfl rfl rfl rfl rfl) rfl ?_
        refine s_skip (w_gu rfl rfl rfl rfl rfl) rfl ?_
        refine s_skip (w_gu rfl rfl rfl rfl rfl) rfl ?_
        refine s_skip (w_gu rfl rfl rfl rfl rfl) rfl ?_
        refine s_skip (w_gu rfl rfl rfl rfl rfl) rfl ?_
        refine s_skip (w_gu rfl rfl rfl rfl rfl) rfl ?_
        refine s_skip (w_gu rfl rfl rfl rfl rfl) rfl ?_
        refine s_skip (w_gu rfl rfl rfl rfl rfl) rfl ?_
        refine s_skip (w_gu rfl rfl rfl rfl rfl) rfl ?_
        refine s_skip (w_gu rfl rfl rfl rfl rfl) rfl ?_
        refine s_skip (w_gno rfl rfl rfl rfl rfl) rfl ?_
        refine s_run (w_none rfl) rfl (d_pickT rfl rfl rfl) ?_
        refine s_run (w_none rfl) rfl (mv_bx (c := true) rfl rfl (by first | rfl | (simp; omega) | simp_all)) ?_
        refine s_skip (w_gno rfl rfl rfl rfl rfl) rfl ?_
        refine s_skip (w_gno rfl rfl rfl rfl rfl) rfl ?_
        refine s_skip (w_gno rfl rfl rfl rfl rfl) rfl ?_
        refine s_skip (w_gno rfl rfl rfl rfl rfl) rfl ?_
        refine s_skip (w_gu rfl rfl rfl rfl rfl) rfl ?_
        refine s_skip (w_gu rfl rfl rfl rfl rfl) rfl ?_
        refine s_skip (w_gu rfl rfl rfl rfl rfl) rfl ?_
        refine s_skip (w_gno rfl rfl rfl rfl rfl) rfl ?_
        refine s_run (w_none rfl) rfl (d_pickT rfl rfl rfl) ?_
        refine l_nil ?_
        refine k_condT rfl (by first | rfl | (simp; omega) | simp_all) ?_
        refine k_seq ?_
        refine k_region ?_
        refine s_run (w_none rfl) rfl (as_i rfl rfl) ?_
        refine l_nil ?_
        refine k_ret ?_
        repeat (first | refine r_then ?_ | refine r_blk ?_)
        have ha : Rc.argOk r = true := Rc.arg_mk hid (fun e => by first | exact ⟨h1.2.1, h1.2.2⟩ | (exfalso; omega)) (fun e => by first | exact h1.2 | (exfalso; omega)) (fun e => by first | exact h1.2 | (exfalso; omega))
        have ho1 : Rc.own r = 0 := Rc.own_ok ha (fun e => by have := e.1; omega)
        exact q_ret (v := .int _ _) rfl rfl ⟨_, rfl, vi (by rw [Rc.chk_for hk9 ho1, if_pos h2.2.2]), H.under⟩
      · skip
        refine k_region ?_
        refine s_run (w_none rfl) rfl (d_fa rfl rfl tf33_0) ?_
        refine s_run (w_none rfl) rfl (d_ldX (g := gm) (off := 0) rfl H rfl rfl rfl ta3) ?_
        refine s_run (w_none rfl) rfl (d_ne rfl rfl rfl) ?_
        refine s_run (w_none rfl) rfl (mv_bx (c := true) rfl rfl (by first | rfl | (simp; omega) | simp_all)) ?_
        refine s_run (w_g rfl rfl rfl rfl) rfl (d_fa rfl rfl tf33_2) ?_
        refine s_run (w_g rfl rfl rfl rfl) rfl (d_ldXM (g := gm) (off := 2) rfl H (sub_r_deal ho) (len_deal ho.2.2.1.2.2.2.2.1) rfl rfl rfl ta27 ts27) ?_
        refine s_run (w_g rfl rfl rfl rfl) rfl (d_build (vs := dealC Rc.zDeal) rfl (by kernel_rfl)) ?_
        refine s_run (w_g rfl rfl rfl rfl) rfl (d_nest (r := beqDeal r.deal Rc.zDeal) rfl rfl rfl (eq_Deal (d := 9997) (deal_rep (W := w) (S := nT) ho.2.2.1) (deal_rep (W := w) (S := nT) Rc.ok_zd)) (by kernel_rfl)) ?_
        refine s_run (w_none rfl) rfl (d_pickT rfl rfl rfl) ?_
        refine s_run (w_none rfl) rfl (mv_bx (c := false) rfl rfl (by first | rfl | (simp; omega) | simp_all)) ?_
        refine s_run (w_g rfl rfl rfl rfl) rfl (d_fa rfl rfl tf33_0) ?_
        refine s_run (w_g rfl rfl rfl rfl) rfl (d_ldX (g := gm) (off := 0) rfl H rfl rfl rfl ta3) ?_
        refine s_run (w_g rfl rfl rfl rfl) rfl (d_ne rfl rfl rfl) ?_
        refine s_run (w_g rfl rfl rfl rfl) rfl (mv_bx (c := true) rfl rfl (by first | rfl | (simp; omega) | simp_all)) ?_
        refine s_run (w_g rfl rfl rfl rfl) rfl (d_fa rfl rfl tf33_3) ?_
        refine s_run (w_g rfl rfl rfl rfl) rfl (d_ldXM (g := gm) (off := 43) rfl H (sub_r_secret ho) (by rw [List.length_map]; exact ho.2.2.2.1) rfl rfl rfl ta25 ts25) ?_
        refine s_run (w_g rfl rfl rfl rfl) rfl (d_build (vs := Rc.z32.map u8v) rfl (by kernel_rfl)) ?_
        refine s_run (w_g rfl rfl rfl rfl) rfl (d_nearr rfl rfl rfl tu25 tu5 ts5 ho.2.2.2.1 (show Rc.z32.length = 32 from rfl) (by kernel_rfl)) ?_
        refine s_run (w_g rfl rfl rfl rfl) rfl (d_pickT rfl rfl rfl) ?_
        refine s_run (w_none rfl) rfl (d_pickF rfl rfl rfl) ?_
        refine s_run (w_none rfl) rfl (mv_bx (c := true) rfl rfl (by first | rfl | (simp; omega) | simp_all)) ?_
        refine s_skip (w_gno rfl rfl rfl rfl rfl) rfl ?_
        refine s_skip (w_gno rfl rfl rfl rfl rfl) rfl ?_
        refine s_skip (w_gno rfl rfl rfl rfl rfl) rfl ?_
        refine s_skip (w_gno rfl rfl rfl rfl rfl) rfl ?_
        refine s_skip (w_gu rfl rfl rfl rfl rfl) rfl ?_
        refine s_skip (w_gu rfl rfl rfl rfl rfl) rfl ?_
        refine s_skip (w_gu rfl rfl rfl rfl rfl) rfl ?_
        refine s_skip (w_gu rfl rfl rfl rfl rfl) rfl ?_
        refine s_skip (w_gu rfl rfl rfl rfl rfl) rfl ?_
        refine s_skip (w_gu rfl rfl rfl rfl rfl) rfl ?_
        refine s_skip (w_gu rfl rfl rfl rfl rfl) rfl ?_
        refine s_skip (w_gu rfl rfl rfl rfl rfl) rfl ?_
        refine s_skip (w_gu rfl rfl rfl rfl rfl) rfl ?_
        refine s_skip (w_gno rfl rfl rfl rfl rfl) rfl ?_
        refine s_run (w_none rfl) rfl (d_pickT rfl rfl rfl) ?_
        refine s_run (w_none rfl) rfl (mv_bx (c := true) rfl rfl (by first | rfl | (simp; omega) | simp_all)) ?_
        refine s_skip (w_gno rfl rfl rfl rfl rfl) rfl ?_
        refine s_skip (w_gno rfl rfl rfl rfl rfl) rfl ?_
        refine s_skip (w_gno rfl rfl rfl rfl rfl) rfl ?_
        refine s_skip (w_gno rfl rfl rfl rfl rfl) rfl ?_
        refine s_skip (w_gu rfl rfl rfl rfl rfl) rfl ?_
        refine s_skip (w_gu rfl rfl rfl rfl rfl) rfl ?_
        refine s_skip (w_gu rfl rfl rfl rfl rfl) rfl ?_
        refine s_skip (w_gno rfl rfl rfl rfl rfl) rfl ?_
        refine s_run (w_none rfl) rfl (d_pickT rfl rfl rfl) ?_
        refine l_nil ?_
        refine k_condT rfl (by first | rfl | (simp; omega) | simp_all) ?_
        refine k_seq ?_
        refine k_region ?_
        refine s_run (w_none rfl) rfl (as_i rfl rfl) ?_
        refine l_nil ?_
        refine k_ret ?_
        repeat (first | refine r_then ?_ | refine r_blk ?_)
        have ha : Rc.argOk r = true := Rc.arg_mk hid (fun e => by first | exact ⟨h1.2.1, h1.2.2⟩ | (exfalso; omega)) (fun e => by first | exact h1.2 | (exfalso; omega)) (fun e => by first | exact h1.2 | (exfalso; omega))
        have ho1 : Rc.own r = 0 := Rc.own_ok ha (fun e => by have := e.1; omega)
        exact q_ret (v := .int _ _) rfl rfl ⟨_, rfl, vi (by rw [Rc.chk_for hk9 ho1, if_pos h2.2.2.2]), H.under⟩
      · skip
        refine k_region ?_
        refine s_run (w_none rfl) rfl (d_fa rfl rfl tf33_0) ?_
        refine s_run (w_none rfl) rfl (d_ldX (g := gm) (off := 0) rfl H rfl rfl rfl ta3) ?_
        refine s_run (w_none rfl) rfl (d_ne rfl rfl rfl) ?_
        refine s_run (w_none rfl) rfl (mv_bx (c := true) rfl rfl (by first | rfl | (simp; omega) | simp_all)) ?_
        refine s_run (w_g rfl rfl rfl rfl) rfl (d_fa rfl rfl tf33_2) ?_
        refine s_run (w_g rfl rfl rfl rfl) rfl (d_ldXM (g := gm) (off := 2) rfl H (sub_r_deal ho) (len_deal ho.2.2.1.2.2.2.2.1) rfl rfl rfl ta27 ts27) ?_
        refine s_run (w_g rfl rfl rfl rfl) rfl (d_build (vs := dealC Rc.zDeal) rfl (by kernel_rfl)) ?_
        refine s_run (w_g rfl rfl rfl rfl) rfl (d_nest (r := beqDeal r.deal Rc.zDeal) rfl rfl rfl (eq_Deal (d := 9997) (deal_rep (W := w) (S := nT) ho.2.2.1) (deal_rep (W := w) (S := nT) Rc.ok_zd)) (by kernel_rfl)) ?_
        refine s_run (w_none rfl) rfl (d_pickT rfl rfl rfl) ?_
        refine s_run (w_none rfl) rfl (mv_bx (c := false) rfl rfl (by first | rfl | (simp; omega) | simp_all)) ?_
        refine s_run (w_g rfl rfl rfl rfl) rfl (d_fa rfl rfl tf33_0) ?_
        refine s_run (w_g rfl rfl rfl rfl) rfl (d_ldX (g := gm) (off := 0) rfl H rfl rfl rfl ta3) ?_
        refine s_run (w_g rfl rfl rfl rfl) rfl (d_ne rfl rfl rfl) ?_
        refine s_run (w_g rfl rfl rfl rfl) rfl (mv_bx (c := true) rfl rfl (by first | rfl | (simp; omega) | simp_all)) ?_
        refine s_run (w_g rfl rfl rfl rfl) rfl (d_fa rfl rfl tf33_3) ?_
        refine s_run (w_g rfl rfl rfl rfl) rfl (d_ldXM (g := gm) (off := 43) rfl H (sub_r_secret ho) (by rw [List.length_map]; exact ho.2.2.2.1) rfl rfl rfl ta25 ts25) ?_
        refine s_run (w_g rfl rfl rfl rfl) rfl (d_build (vs := Rc.z32.map u8v) rfl (by kernel_rfl)) ?_
        refine s_run (w_g rfl rfl rfl rfl) rfl (d_nearr rfl rfl rfl tu25 tu5 ts5 ho.2.2.2.1 (show Rc.z32.length = 32 from rfl) (by kernel_rfl)) ?_
        refine s_run (w_g rfl rfl rfl rfl) rfl (d_pickT rfl rfl rfl) ?_
        refine s_run (w_none rfl) rfl (d_pickF rfl rfl rfl) ?_
        refine s_run (w_none rfl) rfl (mv_bx (c := false) rfl rfl (by first | rfl | (simp; omega) | simp_all)) ?_
        refine s_run (w_g rfl rfl rfl rfl) rfl (d_fa rfl rfl tf33_0) ?_
        refine s_run (w_g rfl rfl rfl rfl) rfl (d_ldX (g := gm) (off := 0) rfl H rfl rfl rfl ta3) ?_
        refine s_run (w_g rfl rfl rfl rfl) rfl (d_ne rfl rfl rfl) ?_
        refine s_run (w_g rfl rfl rfl rfl) rfl (mv_bx (c := true) rfl rfl (by first | rfl | (simp; omega) | simp_all)) ?_
        refine s_run (w_g rfl rfl rfl rfl) rfl (d_fa rfl rfl tf33_4) ?_
        refine s_run (w_g rfl rfl rfl rfl) rfl (d_ldX (g := gm) (off := 75) rfl H (sub_r_move ho) rfl rfl ta3) ?_
        refine s_run (w_g rfl rfl rfl rfl) rfl (d_ne rfl rfl rfl) ?_
        refine s_run (w_g rfl rfl rfl rfl) rfl (mv_bx (c := true) rfl rfl (by first | rfl | (simp; omega) | simp_all)) ?_
        refine s_skip (w_gno rfl rfl rfl rfl rfl) rfl ?_
        refine s_skip (w_gno rfl rfl rfl rfl rfl) rfl ?_
        refine s_skip (w_gno rfl rfl rfl rfl rfl) rfl ?_
        refine s_skip (w_gno rfl rfl rfl rfl rfl) rfl ?_
        refine s_run (w_g rfl rfl rfl rfl) rfl (d_pickT rfl rfl rfl) ?_
        refine s_run (w_g rfl rfl rfl rfl) rfl (d_pickT rfl rfl rfl) ?_
        refine s_run (w_none rfl) rfl (d_pickF rfl rfl rfl) ?_
        refine s_run (w_none rfl) rfl (mv_bx (c := true) rfl rfl (by first | rfl | (simp; omega) | simp_all)) ?_
        refine s_skip (w_gno rfl rfl rfl rfl rfl) rfl ?_
        refine s_skip (w_gno rfl rfl rfl rfl rfl) rfl ?_
        refine s_skip (w_gno rfl rfl rfl rfl rfl) rfl ?_
        refine s_skip (w_gno rfl rfl rfl rfl rfl) rfl ?_
        refine s_skip (w_gu rfl rfl rfl rfl rfl) rfl ?_
        refine s_skip (w_gu rfl rfl rfl rfl rfl) rfl ?_
        refine s_skip (w_gu rfl rfl rfl rfl rfl) rfl ?_
        refine s_skip (w_gno rfl rfl rfl rfl rfl) rfl ?_
        refine s_run (w_none rfl) rfl (d_pickT rfl rfl rfl) ?_
        refine l_nil ?_
        refine k_condT rfl (by first | rfl | (simp; omega) | simp_all) ?_
        refine k_seq ?_
        refine k_region ?_
        refine s_run (w_none rfl) rfl (as_i rfl rfl) ?_
        refine l_nil ?_
        refine k_ret ?_
        repeat (first | refine r_then ?_ | refine r_blk ?_)
        have ha : Rc.argOk r = true := Rc.arg_mk hid (fun e => by first | exact ⟨h1.2.1, h1.2.2⟩ | (exfalso; omega)) (fun e => by first | exact h1.2 | (exfalso; omega)) (fun e => by first | exact h1.2 | (exfalso; omega))
        have ho1 : Rc.own r = 0 := Rc.own_ok ha (fun e => by have := e.1; omega)
        exact q_ret (v := .int _ _) rfl rfl ⟨_, rfl, vi (by rw [Rc.chk_for hk9 ho1, if_pos h2.2.2.2.2]), H.under⟩
      · skip
        refine k_region ?_
        refine s_run (w_none rfl) rfl (d_fa rfl rfl tf33_0) ?_
        refine s_run (w_none rfl) rfl (d_ldX (g := gm) (off := 0) rfl H rfl rfl rfl ta3) ?_
        refine s_run (w_none rfl) rfl (d_ne rfl rfl rfl) ?_
        refine s_run (w_none rfl) rfl (mv_bx (c := true) rfl rfl (by first | rfl | (simp; omega) | simp_all)) ?_
        refine s_run (w_g rfl rfl rfl rfl) rfl (d_fa rfl rfl tf33_2) ?_
        refine s_run (w_g rfl rfl rfl rfl) rfl (d_ldXM (g := gm) (off := 2) rfl H (sub_r_deal ho) (len_deal ho.2.2.1.2.2.2.2.1) rfl rfl rfl ta27 ts27) ?_
        refine s_run (w_g rfl rfl rfl rfl) rfl (d_build (vs := dealC Rc.zDeal) rfl (by kernel_rfl)) ?_
        refine s_run (w_g rfl rfl rfl rfl) rfl (d_nest (r := beqDeal r.deal Rc.zDeal) rfl rfl rfl (eq_Deal (d := 9997) (deal_rep (W := w) (S := nT) ho.2.2.1) (deal_rep (W := w) (S := nT) Rc.ok_zd)) (by kernel_rfl)) ?_
        refine s_run (w_none rfl) rfl (d_pickT rfl rfl rfl) ?_
        refine s_run (w_none rfl) rfl (mv_bx (c := false) rfl rfl (by first | rfl | (simp; omega) | simp_all)) ?_
        refine s_run (w_g rfl rfl rfl rfl) rfl (d_fa rfl rfl tf33_0) ?_
        refine s_run (w_g rfl rfl rfl rfl) rfl (d_ldX (g := gm) (off := 0) rfl H rfl rfl rfl ta3) ?_
        refine s_run (w_g rfl rfl rfl rfl) rfl (d_ne rfl rfl rfl) ?_
        refine s_run (w_g rfl rfl rfl rfl) rfl (mv_bx (c := true) rfl rfl (by first | rfl | (simp; omega) | simp_all)) ?_
        refine s_run (w_g rfl rfl rfl rfl) rfl (d_fa rfl rfl tf33_3) ?_
        refine s_run (w_g rfl rfl rfl rfl) rfl (d_ldXM (g := gm) (off := 43) rfl H (sub_r_secret ho) (by rw [List.length_map]; exact ho.2.2.2.1) rfl rfl rfl ta25 ts25) ?_
        refine s_run (w_g rfl rfl rfl rfl) rfl (d_build (vs := Rc.z32.map u8v) rfl (by kernel_rfl)) ?_
        refine s_run (w_g rfl rfl rfl rfl) rfl (d_nearr rfl rfl rfl tu25 tu5 ts5 ho.2.2.2.1 (show Rc.z32.length = 32 from rfl) (by kernel_rfl)) ?_
        refine s_run (w_g rfl rfl rfl rfl) rfl (d_pickT rfl rfl rfl) ?_
        refine s_run (w_none rfl) rfl (d_pickF rfl rfl rfl) ?_
        refine s_run (w_none rfl) rfl (mv_bx (c := false) rfl rfl (by first | rfl | (simp; omega) | simp_all)) ?_
        refine s_run (w_g rfl rfl rfl rfl) rfl (d_fa rfl rfl tf33_0) ?_
        refine s_run (w_g rfl rfl rfl rfl) rfl (d_ldX (g := gm) (off := 0) rfl H rfl rfl rfl ta3) ?_
        refine s_run (w_g rfl rfl rfl rfl) rfl (d_ne rfl rfl rfl) ?_
        refine s_run (w_g rfl rfl rfl rfl) rfl (mv_bx (c := true) rfl rfl (by first | rfl | (simp; omega) | simp_all)) ?_
        refine s_run (w_g rfl rfl rfl rfl) rfl (d_fa rfl rfl tf33_4) ?_
        refine s_run (w_g rfl rfl rfl rfl) rfl (d_ldX (g := gm) (off := 75) rfl H (sub_r_move ho) rfl rfl ta3) ?_
        refine s_run (w_g rfl rfl rfl rfl) rfl (d_ne rfl rfl rfl) ?_
        refine s_run (w_g rfl rfl rfl rfl) rfl (mv_bx (c := false) rfl rfl (by first | rfl | (simp; omega) | simp_all)) ?_
        refine s_run (w_g rfl rfl rfl rfl) rfl (d_fa rfl rfl tf33_6) ?_
        refine s_run (w_g rfl rfl rfl rfl) rfl (d_ldXM (g := gm) (off := 77) rfl H (sub_r_tx ho rfl) rfl rfl rfl rfl ta31 ts31) ?_
        refine s_eff (e_call (w_g rfl rfl rfl rfl) rfl rfl Tryz.func30 rfl rfl rfl (noneR _ (keeps_Tx _ _ _ _ _ ht (fun g hg _ => H.fr.block g hg (fun h => h))) hs) ?_)
        rintro _ W ⟨rfl, hb⟩
        replace H := H.below hb
        clear hb
        refine s_run (w_g rfl rfl rfl rfl) rfl (d_not rfl rfl) ?_
        refine s_run (w_g rfl rfl rfl rfl) rfl (d_pickF rfl rfl rfl) ?_
        refine s_run (w_g rfl rfl rfl rfl) rfl (d_pickT rfl rfl rfl) ?_
        refine s_run (w_none rfl) rfl (d_pickF rfl rfl rfl) ?_
        refine s_run (w_none rfl) rfl (mv_bx (c := true) rfl rfl (by first | rfl | (simp; omega) | simp_all)) ?_
        refine s_skip (w_gno rfl rfl rfl rfl rfl) rfl ?_
        refine s_skip (w_gno rfl rfl rfl rfl rfl) rfl ?_
        refine s_skip (w_gno rfl rfl rfl rfl rfl) rfl ?_
        refine s_skip (w_gno rfl rfl rfl rfl rfl) rfl ?_
        refine s_skip (w_gu rfl rfl rfl rfl rfl) rfl ?_
        refine s_skip (w_gu rfl rfl rfl rfl rfl) rfl ?_
        refine s_skip (w_gu rfl rfl rfl rfl rfl) rfl ?_
        refine s_skip (w_gno rfl rfl rfl rfl rfl) rfl ?_
        refine s_run (w_none rfl) rfl (d_pickT rfl rfl rfl) ?_
        refine l_nil ?_
        refine k_condT rfl (by first | rfl | (simp; omega) | simp_all) ?_
        refine k_seq ?_
        refine k_region ?_
        refine s_run (w_none rfl) rfl (as_i rfl rfl) ?_
        refine l_nil ?_
        refine k_ret ?_
        repeat (first | refine r_then ?_ | refine r_blk ?_)
        have ha : Rc.argOk r = true := Rc.arg_mk hid (fun e => by first | exact ⟨h1.2.1, h1.2.2⟩ | (exfalso; omega)) (fun e => by first | exact h1.2 | (exfalso; omega)) (fun e => by first | exact h1.2 | (exfalso; omega))
        have ho1 : Rc.own r = 0 := Rc.own_ok ha (fun e => by have := e.1; omega)
        exact q_ret (v := .int _ _) rfl rfl ⟨_, rfl, vi (by rw [Rc.chk_for hk9 ho1, if_pos h2.2.2.2.2.2]), H.under⟩
      · exfalso; omega
      · skip
        refine k_region ?_
        refine s_run (w_none rfl) rfl (d_fa rfl rfl tf33_0) ?_
        refine s_run (w_none rfl) rfl (d_ldX (g := gm) (off := 0) rfl H rfl rfl rfl ta3) ?_
        refine s_run (w_none rfl) rfl (d_ne rfl rfl rfl) ?_
        refine s_run (w_none rfl) rfl (mv_bx (c := true) rfl rfl (by first | rfl | (simp; omega) | simp_all)) ?_
        refine s_run (w_g rfl rfl rfl rfl) rfl (d_fa rfl rfl tf33_2) ?_
        refine s_run (w_g rfl rfl rfl rfl) rfl (d_ldXM (g := gm) (off := 2) rfl H (sub_r_deal ho) (len_deal ho.2.2.1.2.2.2.2.1) rfl rfl rfl ta27 ts27) ?_
        refine s_run (w_g rfl rfl rfl rfl) rfl (d_build (vs := dealC Rc.zDeal) rfl (by kernel_rfl)) ?_
        refine s_run (w_g rfl rfl rfl rfl) rfl (d_nest (r := beqDeal r.deal Rc.zDeal) rfl rfl rfl (eq_Deal (d := 9997) (deal_rep (W := w) (S := nT) ho.2.2.1) (deal_rep (W := w) (S := nT) Rc.ok_zd)) (by kernel_rfl)) ?_
        refine s_run (w_none rfl) rfl (d_pickT rfl rfl rfl) ?_
        refine s_run (w_none rfl) rfl (mv_bx (c := false) rfl rfl (by first | rfl | (simp; omega) | simp_all)) ?_
        refine s_run (w_g rfl rfl rfl rfl) rfl (d_fa rfl rfl tf33_0) ?_
        refine s_run (w_g rfl rfl rfl rfl) rfl (d_ldX (g := gm) (off := 0) rfl H rfl rfl rfl ta3) ?_
        refine s_run (w_g rfl rfl rfl rfl) rfl (d_ne rfl rfl rfl) ?_
        refine s_run (w_g rfl rfl rfl rfl) rfl (mv_bx (c := true) rfl rfl (by first | rfl | (simp; omega) | simp_all)) ?_
        refine s_run (w_g rfl rfl rfl rfl) rfl (d_fa rfl rfl tf33_3) ?_
        refine s_run (w_g rfl rfl rfl rfl) rfl (d_ldXM (g := gm) (off := 43) rfl H (sub_r_secret ho) (by rw [List.length_map]; exact ho.2.2.2.1) rfl rfl rfl ta25 ts25) ?_
        refine s_run (w_g rfl rfl rfl rfl) rfl (d_build (vs := Rc.z32.map u8v) rfl (by kernel_rfl)) ?_
        refine s_run (w_g rfl rfl rfl rfl) rfl (d_nearr rfl rfl rfl tu25 tu5 ts5 ho.2.2.2.1 (show Rc.z32.length = 32 from rfl) (by kernel_rfl)) ?_
        refine s_run (w_g rfl rfl rfl rfl) rfl (d_pickT rfl rfl rfl) ?_
        refine s_run (w_none rfl) rfl (d_pickF rfl rfl rfl) ?_
        refine s_run (w_none rfl) rfl (mv_bx (c := false) rfl rfl (by first | rfl | (simp; omega) | simp_all)) ?_
        refine s_run (w_g rfl rfl rfl rfl) rfl (d_fa rfl rfl tf33_0) ?_
        refine s_run (w_g rfl rfl rfl rfl) rfl (d_ldX (g := gm) (off := 0) rfl H rfl rfl rfl ta3) ?_
        refine s_run (w_g rfl rfl rfl rfl) rfl (d_ne rfl rfl rfl) ?_
        refine s_run (w_g rfl rfl rfl rfl) rfl (mv_bx (c := true) rfl rfl (by first | rfl | (simp; omega) | simp_all)) ?_
        refine s_run (w_g rfl rfl rfl rfl) rfl (d_fa rfl rfl tf33_4) ?_
        refine s_run (w_g rfl rfl rfl rfl) rfl (d_ldX (g := gm) (off := 75) rfl H (sub_r_move ho) rfl rfl ta3) ?_
        refine s_run (w_g rfl rfl rfl rfl) rfl (d_ne rfl rfl rfl) ?_
        refine s_run (w_g rfl rfl rfl rfl) rfl (mv_bx (c := false) rfl rfl (by first | rfl | (simp; omega) | simp_all)) ?_
        refine s_run (w_g rfl rfl rfl rfl) rfl (d_fa rfl rfl tf33_6) ?_
        refine s_run (w_g rfl rfl rfl rfl) rfl (d_ldXM (g := gm) (off := 77) rfl H (sub_r_tx ho rfl) rfl rfl rfl rfl ta31 ts31) ?_
        refine s_eff (e_call (w_g rfl rfl rfl rfl) rfl rfl Tryz.func30 rfl rfl rfl (noneR _ (keeps_Tx _ _ _ _ _ ht (fun g hg _ => H.fr.block g hg (fun h => h))) hs) ?_)
        rintro _ W ⟨rfl, hb⟩
        replace H := H.below hb
        clear hb
        refine s_run (w_g rfl rfl rfl rfl) rfl (d_not rfl rfl) ?_
        refine s_run (w_g rfl rfl rfl rfl) rfl (d_pickF rfl rfl rfl) ?_
        refine s_run (w_g rfl rfl rfl rfl) rfl (d_pickT rfl rfl rfl) ?_
        refine s_run (w_none rfl) rfl (d_pickF rfl rfl rfl) ?_
        refine s_run (w_none rfl) rfl (mv_bx (c := false) rfl rfl (by first | rfl | (simp; omega) | simp_all)) ?_
        refine s_run (w_g rfl rfl rfl rfl) rfl (d_fa rfl rfl tf33_0) ?_
        refine s_run (w_g rfl rfl rfl rfl) rfl (d_ldX (g := gm) (off := 0) rfl H rfl rfl rfl ta3) ?_
        refine s_run (w_g rfl rfl rfl rfl) rfl (d_ne rfl rfl rfl) ?_
        refine s_run (w_g rfl rfl rfl rfl) rfl (mv_bx (c := false) rfl rfl (by first | rfl | (simp; omega) | simp_all)) ?_
        refine s_skip (w_gno rfl rfl rfl rfl rfl) rfl ?_
        refine s_skip (w_gno rfl rfl rfl rfl rfl) rfl ?_
        refine s_skip (w_gno rfl rfl rfl rfl rfl) rfl ?_
        refine s_run (w_g rfl rfl rfl rfl) rfl (d_pickF rfl rfl rfl) ?_
        refine s_run (w_none rfl) rfl (d_pickF rfl rfl rfl) ?_
        refine l_nil ?_
        refine k_condF rfl (by first | rfl | (simp; omega) | simp_all) ?_
        refine k_skip ?_
        refine k_seq ?_
        refine k_region ?_
        refine s_run (w_none rfl) rfl (as_i rfl rfl) ?_
        refine l_nil ?_
        refine k_ret ?_
        repeat (first | refine r_then ?_ | refine r_blk ?_)
        have ha : Rc.argOk r = true := Rc.arg_mk hid (fun e => by first | exact ⟨h1.2.1, h1.2.2⟩ | (exfalso; omega)) (fun e => by first | exact h1.2 | (exfalso; omega)) (fun e => by first | exact h1.2 | (exfalso; omega))
        have ho1 : Rc.own r = 0 := Rc.own_ok ha (fun e => by have := e.1; omega)
        exact q_ret (v := .int _ _) rfl rfl ⟨_, rfl, vi (by rw [Rc.chk_for hk9 ho1, if_neg (by rw [h2.2.2.2.2]; simp)]), H.under⟩
    · skip
      refine k_region ?_
      refine s_run (w_none rfl) rfl (d_fa rfl rfl tf33_1) ?_
      refine s_run (w_none rfl) rfl (d_ldX (g := gm) (off := 1) rfl H rfl rfl rfl ta3) ?_
      refine s_eff (e_call (w_none rfl) rfl rfl Tryz.func35 rfl rfl rfl (inR _) ?_)
      rintro _ W ⟨rfl, hb⟩
      replace H := H.below hb
      clear hb
      refine s_run (w_none rfl) rfl (d_not rfl rfl) ?_
      refine s_run (w_none rfl) rfl (mv_bx (c := false) rfl rfl (by first | rfl | (simp; omega) | simp_all)) ?_
      refine s_run (w_g rfl rfl rfl rfl) rfl (d_fa rfl rfl tf33_0) ?_
      refine s_run (w_g rfl rfl rfl rfl) rfl (d_ldX (g := gm) (off := 0) rfl H rfl rfl rfl ta3) ?_
      refine s_run (w_g rfl rfl rfl rfl) rfl (d_eq rfl rfl rfl) ?_
      refine s_run (w_g rfl rfl rfl rfl) rfl (mv_bx (c := false) rfl rfl (by first | rfl | (simp; omega) | simp_all)) ?_
      refine s_skip (w_gno rfl rfl rfl rfl rfl) rfl ?_
      refine s_skip (w_gno rfl rfl rfl rfl rfl) rfl ?_
      refine s_skip (w_gno rfl rfl rfl rfl rfl) rfl ?_
      refine s_skip (w_gno rfl rfl rfl rfl rfl) rfl ?_
      refine s_skip (w_gno rfl rfl rfl rfl rfl) rfl ?_
      refine s_skip (w_gu rfl rfl rfl rfl rfl) rfl ?_
      refine s_skip (w_gu rfl rfl rfl rfl rfl) rfl ?_
      refine s_skip (w_gu rfl rfl rfl rfl rfl) rfl ?_
      refine s_skip (w_gu rfl rfl rfl rfl rfl) rfl ?_
      refine s_skip (w_gu rfl rfl rfl rfl rfl) rfl ?_
      refine s_skip (w_gu rfl rfl rfl rfl rfl) rfl ?_
      refine s_skip (w_gno rfl rfl rfl rfl rfl) rfl ?_
      refine s_run (w_g rfl rfl rfl rfl) rfl (d_pickF rfl rfl rfl) ?_
      refine s_run (w_none rfl) rfl (d_pickF rfl rfl rfl) ?_
      refine s_run (w_none rfl) rfl (mv_bx (c := false) rfl rfl (by first | rfl | (simp; omega) | simp_all)) ?_
      refine s_run (w_g rfl rfl rfl rfl) rfl (d_fa rfl rfl tf33_0) ?_
      refine s_run (w_g rfl rfl rfl rfl) rfl (d_ldX (g := gm) (off := 0) rfl H rfl rfl rfl ta3) ?_
      refine s_run (w_g rfl rfl rfl rfl) rfl (d_eq rfl rfl rfl) ?_
      refine s_run (w_g rfl rfl rfl rfl) rfl (mv_bx (c := false) rfl rfl (by first | rfl | (simp; omega) | simp_all)) ?_
      refine s_skip (w_gno rfl rfl rfl rfl rfl) rfl ?_
      refine s_skip (w_gno rfl rfl rfl rfl rfl) rfl ?_
      refine s_skip (w_gno rfl rfl rfl rfl rfl) rfl ?_
      refine s_skip (w_gno rfl rfl rfl rfl rfl) rfl ?_
      refine s_run (w_g rfl rfl rfl rfl) rfl (d_pickF rfl rfl rfl) ?_
      refine s_run (w_none rfl) rfl (d_pickF rfl rfl rfl) ?_
      refine s_run (w_none rfl) rfl (mv_bx (c := false) rfl rfl (by first | rfl | (simp; omega) | simp_all)) ?_
      refine s_run (w_g rfl rfl rfl rfl) rfl (d_fa rfl rfl tf33_0) ?_
      refine s_run (w_g rfl rfl rfl rfl) rfl (d_ldX (g := gm) (off := 0) rfl H rfl rfl rfl ta3) ?_
      refine s_run (w_g rfl rfl rfl rfl) rfl (d_eq rfl rfl rfl) ?_
      refine s_run (w_g rfl rfl rfl rfl) rfl (mv_bx (c := false) rfl rfl (by first | rfl | (simp; omega) | simp_all)) ?_
      refine s_skip (w_gno rfl rfl rfl rfl rfl) rfl ?_
      refine s_skip (w_gno rfl rfl rfl rfl rfl) rfl ?_
      refine s_skip (w_gno rfl rfl rfl rfl rfl) rfl ?_
      refine s_skip (w_gno rfl rfl rfl rfl rfl) rfl ?_
      refine s_run (w_g rfl rfl rfl rfl) rfl (d_pickF rfl rfl rfl) ?_
      refine s_run (w_none rfl) rfl (d_pickF rfl rfl rfl) ?_
      refine l_nil ?_
      refine k_condF rfl (by first | rfl | (simp; omega) | simp_all) ?_
      refine k_skip ?_
      refine k_seq ?_
      refine k_seq ?_
      refine k_region ?_
      refine s_run (w_none rfl) rfl (d_fa rfl rfl tf33_0) ?_
      refine s_run (w_none rfl) rfl (d_ldX (g := gm) (off := 0) rfl H rfl rfl rfl ta3) ?_
      refine s_run (w_none rfl) rfl (d_eq rfl rfl rfl) ?_
      refine s_run (w_none rfl) rfl (mv_bx (c := false) rfl rfl (by first | rfl | (simp; omega) | simp_all)) ?_
      refine s_skip (w_gno rfl rfl rfl rfl rfl) rfl ?_
      refine s_skip (w_gno rfl rfl rfl rfl rfl) rfl ?_
      refine s_skip (w_gno rfl rfl rfl rfl rfl) rfl ?_
      refine s_skip (w_gno rfl rfl rfl rfl rfl) rfl ?_
      refine s_run (w_none rfl) rfl (d_pickF rfl rfl rfl) ?_
      refine s_run (w_none rfl) rfl (mv_bx (c := false) rfl rfl (by first | rfl | (simp [hn]; done))) ?_
      refine s_skip (w_gno rfl rfl rfl rfl rfl) rfl ?_
      refine s_skip (w_gno rfl rfl rfl rfl rfl) rfl ?_
      refine s_skip (w_gno rfl rfl rfl rfl rfl) rfl ?_
      refine s_skip (w_gno rfl rfl rfl rfl rfl) rfl ?_
      refine s_run (w_none rfl) rfl (d_pickF rfl rfl rfl) ?_
      refine l_nil ?_
      refine k_condF rfl (by first | rfl | (simp [hn]; done)) ?_
      refine k_skip ?_
      refine k_seq ?_
      refine k_seq ?_
      have h1k : r.kind = 2 := by omega
      rcases Rc.for_cases r with h2 | h2 | h2 | h2 | h2 | h2
      · skip
        refine k_region ?_
        refine s_run (w_none rfl) rfl (d_fa rfl rfl tf33_0) ?_
        refine s_run (w_none rfl) rfl (d_ldX (g := gm) (off := 0) rfl H rfl rfl rfl ta3) ?_
        refine s_run (w_none rfl) rfl (d_ne rfl rfl rfl) ?_
        refine s_run (w_none rfl) rfl (mv_bx (c := true) rfl rfl (by first | rfl | (simp; omega) | simp_all)) ?_
        refine s_run (w_g rfl rfl rfl rfl) rfl (d_fa rfl rfl tf33_2) ?_
        refine s_run (w_g rfl rfl rfl rfl) rfl (d_ldXM (g := gm) (off := 2) rfl H (sub_r_deal ho) (len_deal ho.2.2.1.2.2.2.2.1) rfl rfl rfl ta27 ts27) ?_
        refine s_run (w_g rfl rfl rfl rfl) rfl (d_build (vs := dealC Rc.zDeal) rfl (by kernel_rfl)) ?_
        refine s_run (w_g rfl rfl rfl rfl) rfl (d_nest (r := beqDeal r.deal Rc.zDeal) rfl rfl rfl (eq_Deal (d := 9997) (deal_rep (W := w) (S := nT) ho.2.2.1) (deal_rep (W := w) (S := nT) Rc.ok_zd)) (by kernel_rfl)) ?_
        refine s_run (w_none rfl) rfl (d_pickT rfl rfl rfl) ?_
        refine s_run (w_none rfl) rfl (mv_bx (c := true) rfl rfl (by first | rfl | (simp; omega) | simp_all)) ?_
        refine s_skip (w_gno rfl rfl rfl rfl rfl) rfl ?_
        refine s_skip (w_gno rfl rfl rfl rfl rfl) rfl ?_
        refine s_skip (w_gno rfl rfl rfl rfl rfl) rfl ?_
        refine s_skip (w_gno rfl rfl rfl rfl rfl) rfl ?_
        refine s_skip (w_gu rfl rfl rfl rfl rfl) rfl ?_
        refine s_skip (w_gu rfl rfl rfl rfl rfl) rfl ?_
        refine s_skip (w_gu rfl rfl rfl rfl rfl) rfl ?_
        refine s_skip (w_gu rfl rfl rfl rfl rfl) rfl ?_
        refine s_skip (w_gno rfl rfl rfl rfl rfl) rfl ?_
        refine s_run (w_none rfl) rfl (d_pickT rfl rfl rfl) ?_
        refine s_run (w_none rfl) rfl (mv_bx (c := true) rfl rfl (by first | rfl | (simp; omega) | simp_all)) ?_
        refine s_skip (w_gno rfl rfl rfl rfl rfl) rfl ?_
        refine s_skip (w_gno rfl rfl rfl rfl rfl) rfl ?_
        refine s_skip (w_gno rfl rfl rfl rfl rfl) rfl ?_
        refine s_skip (w_gno rfl rfl rfl rfl rfl) rfl ?_
        refine s_skip (w_gu rfl rfl rfl rfl rfl) rfl ?_
        refine s_skip (w_gu rfl rfl rfl rfl rfl) rfl ?_
        refine s_skip (w_gu rfl rfl rfl rfl rfl) rfl ?_
        refine s_skip (w_gu rfl rfl rfl rfl rfl) rfl ?_
        refine s_skip (w_gu rfl rfl rfl rfl rfl) rfl ?_
        refine s_skip (w_gu rfl rfl rfl rfl rfl) rfl ?_
        refine s_skip (w_gu rfl rfl rfl rfl rfl) rfl ?_
        refine s_skip (w_gu rfl rfl rfl rfl rfl) rfl ?_
        refine s_skip (w_gu rfl rfl rfl rfl rfl) rfl ?_
        refine s_skip (w_gno rfl rfl rfl rfl rfl) rfl ?_
        refine s_run (w_none rfl) rfl (d_pickT rfl rfl rfl) ?_
        refine s_run (w_none rfl) rfl (mv_bx (c := true) rfl rfl (by first | rfl | (simp; omega) | simp_all)) ?_
        refine s_skip (w_gno rfl rfl rfl rfl rfl) rfl ?_
        refine s_skip (w_gno rfl rfl rfl rfl rfl) rfl ?_
        refine s_skip (w_gno rfl rfl rfl rfl rfl) rfl ?_
        refine s_skip (w_gno rfl rfl rfl rfl rfl) rfl ?_
        refine s_skip (w_gu rfl rfl rfl rfl rfl) rfl ?_
        refine s_skip (w_gu rfl rfl rfl rfl rfl) rfl ?_
        refine s_skip (w_gu rfl rfl rfl rfl rfl) rfl ?_
        refine s_skip (w_gno rfl rfl rfl rfl rfl) rfl ?_
        refine s_run (w_none rfl) rfl (d_pickT rfl rfl rfl) ?_
        refine l_nil ?_
        refine k_condT rfl (by first | rfl | (simp; omega) | simp_all) ?_
        refine k_seq ?_
        refine k_region ?_
        refine s_run (w_none rfl) rfl (as_i rfl rfl) ?_
        refine l_nil ?_
        refine k_ret ?_
        repeat (first | refine r_then ?_ | refine r_blk ?_)
        have ha : Rc.argOk r = true := Rc.arg_mk hid (fun e => by first | exact ⟨h1.2.1, h1.2.2⟩ | (exfalso; omega)) (fun e => by first | exact h1.2 | (exfalso; omega)) (fun e => by first | exact h1.2 | (exfalso; omega))
        have ho1 : Rc.own r = 0 := Rc.own_ok ha (fun e => by have := e.1; omega)
        exact q_ret (v := .int _ _) rfl rfl ⟨_, rfl, vi (by rw [Rc.chk_for hk9 ho1, if_pos h2.2.2]), H.under⟩
      · exfalso; omega
      · skip
        refine k_region ?_
        refine s_run (w_none rfl) rfl (d_fa rfl rfl tf33_0) ?_
        refine s_run (w_none rfl) rfl (d_ldX (g := gm) (off := 0) rfl H rfl rfl rfl ta3) ?_
        refine s_run (w_none rfl) rfl (d_ne rfl rfl rfl) ?_
        refine s_run (w_none rfl) rfl (mv_bx (c := true) rfl rfl (by first | rfl | (simp; omega) | simp_all)) ?_
        refine s_run (w_g rfl rfl rfl rfl) rfl (d_fa rfl rfl tf33_2) ?_
        refine s_run (w_g rfl rfl rfl rfl) rfl (d_ldXM (g := gm) (off := 2) rfl H (sub_r_deal ho) (len_deal ho.2.2.1.2.2.2.2.1) rfl rfl rfl ta27 ts27) ?_
        refine s_run (w_g rfl rfl rfl rfl) rfl (d_build (vs := dealC Rc.zDeal) rfl (by kernel_rfl)) ?_
        refine s_run (w_g rfl rfl rfl rfl) rfl (d_nest (r := beqDeal r.deal Rc.zDeal) rfl rfl rfl (eq_Deal (d := 9997) (deal_rep (W := w) (S := nT) ho.2.2.1) (deal_rep (W := w) (S := nT) Rc.ok_zd)) (by kernel_rfl)) ?_
        refine s_run (w_none rfl) rfl (d_pickT rfl rfl rfl) ?_
        refine s_run (w_none rfl) rfl (mv_bx (c := false) rfl rfl (by first | rfl | (simp; omega) | simp_all)) ?_
        refine s_run (w_g rfl rfl rfl rfl) rfl (d_fa rfl rfl tf33_0) ?_
        refine s_run (w_g rfl rfl rfl rfl) rfl (d_ldX (g := gm) (off := 0) rfl H rfl rfl rfl ta3) ?_
        refine s_run (w_g rfl rfl rfl rfl) rfl (d_ne rfl rfl rfl) ?_
        refine s_run (w_g rfl rfl rfl rfl) rfl (mv_bx (c := false) rfl rfl (by first | rfl | (simp; omega) | simp_all)) ?_
        refine s_skip (w_gno rfl rfl rfl rfl rfl) rfl ?_
        refine s_skip (w_gno rfl rfl rfl rfl rfl) rfl ?_
        refine s_skip (w_gno rfl rfl rfl rfl rfl) rfl ?_
        refine s_skip (w_gno rfl rfl rfl rfl rfl) rfl ?_
        refine s_run (w_g rfl rfl rfl rfl) rfl (d_pickF rfl rfl rfl) ?_
        refine s_run (w_none rfl) rfl (d_pickF rfl rfl rfl) ?_
        refine s_run (w_none rfl) rfl (mv_bx (c := false) rfl rfl (by first | rfl | (simp; omega) | simp_all)) ?_
        refine s_run (w_g rfl rfl rfl rfl) rfl (d_fa rfl rfl tf33_0) ?_
        refine s_run (w_g rfl rfl rfl rfl) rfl (d_ldX (g := gm) (off := 0) rfl H rfl rfl rfl ta3) ?_
        refine s_run (w_g rfl rfl rfl rfl) rfl (d_ne rfl rfl rfl) ?_
        refine s_run (w_g rfl rfl rfl rfl) rfl (mv_bx (c := true) rfl rfl (by first | rfl | (simp; omega) | simp_all)) ?_
        refine s_run (w_g rfl rfl rfl rfl) rfl (d_fa rfl rfl tf33_4) ?_
        refine s_run (w_g rfl rfl rfl rfl) rfl (d_ldX (g := gm) (off := 75) rfl H (sub_r_move ho) rfl rfl ta3) ?_
        refine s_run (w_g rfl rfl rfl rfl) rfl (d_ne rfl rfl rfl) ?_
        refine s_run (w_g rfl rfl rfl rfl) rfl (mv_bx (c := true) rfl rfl (by first | rfl | (simp; omega) | simp_all)) ?_
        refine s_skip (w_gno rfl rfl rfl rfl rfl) rfl ?_
        refine s_skip (w_gno rfl rfl rfl rfl rfl) rfl ?_
        refine s_skip (w_gno rfl rfl rfl rfl rfl) rfl ?_
        refine s_skip (w_gno rfl rfl rfl rfl rfl) rfl ?_
        refine s_run (w_g rfl rfl rfl rfl) rfl (d_pickT rfl rfl rfl) ?_
        refine s_run (w_g rfl rfl rfl rfl) rfl (d_pickT rfl rfl rfl) ?_
        refine s_run (w_none rfl) rfl (d_pickF rfl rfl rfl) ?_
        refine s_run (w_none rfl) rfl (mv_bx (c := true) rfl rfl (by first | rfl | (simp; omega) | simp_all)) ?_
        refine s_skip (w_gno rfl rfl rfl rfl rfl) rfl ?_
        refine s_skip (w_gno rfl rfl rfl rfl rfl) rfl ?_
        refine s_skip (w_gno rfl rfl rfl rfl rfl) rfl ?_
        refine s_skip (w_gno rfl rfl rfl rfl rfl) rfl ?_
        refine s_skip (w_gu rfl rfl rfl rfl rfl) rfl ?_
        refine s_skip (w_gu rfl rfl rfl rfl rfl) rfl ?_
        refine s_skip (w_gu rfl rfl rfl rfl rfl) rfl ?_
        refine s_skip (w_gno rfl rfl rfl rfl rfl) rfl ?_
        refine s_run (w_none rfl) rfl (d_pickT rfl rfl rfl) ?_
        refine l_nil ?_
        refine k_condT rfl (by first | rfl | (simp; omega) | simp_all) ?_
        refine k_seq ?_
        refine k_region ?_
        refine s_run (w_none rfl) rfl (as_i rfl rfl) ?_
        refine l_nil ?_
        refine k_ret ?_
        repeat (first | refine r_then ?_ | refine r_blk ?_)
        have ha : Rc.argOk r = true := Rc.arg_mk hid (fun e => by first | exact ⟨h1.2.1, h1.2.2⟩ | (exfalso; omega)) (fun e => by first | exact h1.2 | (exfalso; omega)) (fun e => by first | exact h1.2 | (exfalso; omega))
        have ho1 : Rc.own r = 0 := Rc.own_ok ha (fun e => by have := e.1; omega)
        exact q_ret (v := .int _ _) rfl rfl ⟨_, rfl, vi (by rw [Rc.chk_for hk9 ho1, if_pos h2.2.2.2.2]), H.under⟩
      · skip
        refine k_region ?_
        refine s_run (w_none rfl) rfl (d_fa rfl rfl tf33_0) ?_
        refine s_run (w_none rfl) rfl (d_ldX (g := gm) (off := 0) rfl H rfl rfl rfl ta3) ?_
        refine s_run (w_none rfl) rfl (d_ne rfl rfl rfl) ?_
        refine s_run (w_none rfl) rfl (mv_bx (c := true) rfl rfl (by first | rfl | (simp; omega) | simp_all)) ?_
        refine s_run (w_g rfl rfl rfl rfl) rfl (d_fa rfl rfl tf33_2) ?_
        refine s_run (w_g rfl rfl rfl rfl) rfl (d_ldXM (g := gm) (off := 2) rfl H (sub_r_deal ho) (len_deal ho.2.2.1.2.2.2.2.1) rfl rfl rfl ta27 ts27) ?_
        refine s_run (w_g rfl rfl rfl rfl) rfl (d_build (vs := dealC Rc.zDeal) rfl (by kernel_rfl)) ?_
        refine s_run (w_g rfl rfl rfl rfl) rfl (d_nest (r := beqDeal r.deal Rc.zDeal) rfl rfl rfl (eq_Deal (d := 9997) (deal_rep (W := w) (S := nT) ho.2.2.1) (deal_rep (W := w) (S := nT) Rc.ok_zd)) (by kernel_rfl)) ?_
        refine s_run (w_none rfl) rfl (d_pickT rfl rfl rfl) ?_
        refine s_run (w_none rfl) rfl (mv_bx (c := false) rfl rfl (by first | rfl | (simp; omega) | simp_all)) ?_
        refine s_run (w_g rfl rfl rfl rfl) rfl (d_fa rfl rfl tf33_0) ?_
        refine s_run (w_g rfl rfl rfl rfl) rfl (d_ldX (g := gm) (off := 0) rfl H rfl rfl rfl ta3) ?_
        refine s_run (w_g rfl rfl rfl rfl) rfl (d_ne rfl rfl rfl) ?_
        refine s_run (w_g rfl rfl rfl rfl) rfl (mv_bx (c := false) rfl rfl (by first | rfl | (simp; omega) | simp_all)) ?_
        refine s_skip (w_gno rfl rfl rfl rfl rfl) rfl ?_
        refine s_skip (w_gno rfl rfl rfl rfl rfl) rfl ?_
        refine s_skip (w_gno rfl rfl rfl rfl rfl) rfl ?_
        refine s_skip (w_gno rfl rfl rfl rfl rfl) rfl ?_
        refine s_run (w_g rfl rfl rfl rfl) rfl (d_pickF rfl rfl rfl) ?_
        refine s_run (w_none rfl) rfl (d_pickF rfl rfl rfl) ?_
        refine s_run (w_none rfl) rfl (mv_bx (c := false) rfl rfl (by first | rfl | (simp; omega) | simp_all)) ?_
        refine s_run (w_g rfl rfl rfl rfl) rfl (d_fa rfl rfl tf33_0) ?_
        refine s_run (w_g rfl rfl rfl rfl) rfl (d_ldX (g := gm) (off := 0) rfl H rfl rfl rfl ta3) ?_
        refine s_run (w_g rfl rfl rfl rfl) rfl (d_ne rfl rfl rfl) ?_
        refine s_run (w_g rfl rfl rfl rfl) rfl (mv_bx (c := true) rfl rfl (by first | rfl | (simp; omega) | simp_all)) ?_
        refine s_run (w_g rfl rfl rfl rfl) rfl (d_fa rfl rfl tf33_4) ?_
        refine s_run (w_g rfl rfl rfl rfl) rfl (d_ldX (g := gm) (off := 75) rfl H (sub_r_move ho) rfl rfl ta3) ?_
        refine s_run (w_g rfl rfl rfl rfl) rfl (d_ne rfl rfl rfl) ?_
        refine s_run (w_g rfl rfl rfl rfl) rfl (mv_bx (c := false) rfl rfl (by first | rfl | (simp; omega) | simp_all)) ?_
        refine s_run (w_g rfl rfl rfl rfl) rfl (d_fa rfl rfl tf33_6) ?_
        refine s_run (w_g rfl rfl rfl rfl) rfl (d_ldXM (g := gm) (off := 77) rfl H (sub_r_tx ho rfl) rfl rfl rfl rfl ta31 ts31) ?_
        refine s_eff (e_call (w_g rfl rfl rfl rfl) rfl rfl Tryz.func30 rfl rfl rfl (noneR _ (keeps_Tx _ _ _ _ _ ht (fun g hg _ => H.fr.block g hg (fun h => h))) hs) ?_)
        rintro _ W ⟨rfl, hb⟩
        replace H := H.below hb
        clear hb
        refine s_run (w_g rfl rfl rfl rfl) rfl (d_not rfl rfl) ?_
        refine s_run (w_g rfl rfl rfl rfl) rfl (d_pickF rfl rfl rfl) ?_
        refine s_run (w_g rfl rfl rfl rfl) rfl (d_pickT rfl rfl rfl) ?_
        refine s_run (w_none rfl) rfl (d_pickF rfl rfl rfl) ?_
        refine s_run (w_none rfl) rfl (mv_bx (c := true) rfl rfl (by first | rfl | (simp; omega) | simp_all)) ?_
        refine s_skip (w_gno rfl rfl rfl rfl rfl) rfl ?_
        refine s_skip (w_gno rfl rfl rfl rfl rfl) rfl ?_
        refine s_skip (w_gno rfl rfl rfl rfl rfl) rfl ?_
        refine s_skip (w_gno rfl rfl rfl rfl rfl) rfl ?_
        refine s_skip (w_gu rfl rfl rfl rfl rfl) rfl ?_
        refine s_skip (w_gu rfl rfl rfl rfl rfl) rfl ?_
        refine s_skip (w_gu rfl rfl rfl rfl rfl) rfl ?_
        refine s_skip (w_gno rfl rfl rfl rfl rfl) rfl ?_
        refine s_run (w_none rfl) rfl (d_pickT rfl rfl rfl) ?_
        refine l_nil ?_
        refine k_condT rfl (by first | rfl | (simp; omega) | simp_all) ?_
        refine k_seq ?_
        refine k_region ?_
        refine s_run (w_none rfl) rfl (as_i rfl rfl) ?_
        refine l_nil ?_
        refine k_ret ?_
        repeat (first | refine r_then ?_ | refine r_blk ?_)
        have ha : Rc.argOk r = true := Rc.arg_mk hid (fun e => by first | exact ⟨h1.2.1, h1.2.2⟩ | (exfalso; omega)) (fun e => by first | exact h1.2 | (exfalso; omega)) (fun e => by first | exact h1.2 | (exfalso; omega))
        have ho1 : Rc.own r = 0 := Rc.own_ok ha (fun e => by have := e.1; omega)
        exact q_ret (v := .int _ _) rfl rfl ⟨_, rfl, vi (by rw [Rc.chk_for hk9 ho1, if_pos h2.2.2.2.2.2]), H.under⟩
      · skip
        refine k_region ?_
        refine s_run (w_none rfl) rfl (d_fa rfl rfl tf33_0) ?_
        refine s_run (w_none rfl) rfl (d_ldX (g := gm) (off := 0) rfl H rfl rfl rfl ta3) ?_
        refine s_run (w_none rfl) rfl (d_ne rfl rfl rfl) ?_
        refine s_run (w_none rfl) rfl (mv_bx (c := true) rfl rfl (by first | rfl | (simp; omega) | simp_all)) ?_
        refine s_run (w_g rfl rfl rfl rfl) rfl (d_fa rfl rfl tf33_2) ?_
        refine s_run (w_g rfl rfl rfl rfl) rfl (d_ldXM (g := gm) (off := 2) rfl H (sub_r_deal ho) (len_deal ho.2.2.1.2.2.2.2.1) rfl rfl rfl ta27 ts27) ?_
        refine s_run (w_g rfl rfl rfl rfl) rfl (d_build (vs := dealC Rc.zDeal) rfl (by kernel_rfl)) ?_
        refine s_run (w_g rfl rfl rfl rfl) rfl (d_nest (r := beqDeal r.deal Rc.zDeal) rfl rfl rfl (eq_Deal (d := 9997) (deal_rep (W := w) (S := nT) ho.2.2.1) (deal_rep (W := w) (S := nT) Rc.ok_zd)) (by kernel_rfl)) ?_
        refine s_run (w_none rfl) rfl (d_pickT rfl rfl rfl) ?_
        refine s_run (w_none rfl) rfl (mv_bx (c := false) rfl rfl (by first | rfl | (simp; omega) | simp_all)) ?_
        refine s_run (w_g rfl rfl rfl rfl) rfl (d_fa rfl rfl tf33_0) ?_
        refine s_run (w_g rfl rfl rfl rfl) rfl (d_ldX (g := gm) (off := 0) rfl H rfl rfl rfl ta3) ?_
        refine s_run (w_g rfl rfl rfl rfl) rfl (d_ne rfl rfl rfl) ?_
        refine s_run (w_g rfl rfl rfl rfl) rfl (mv_bx (c := false) rfl rfl (by first | rfl | (simp; omega) | simp_all)) ?_
        refine s_skip (w_gno rfl rfl rfl rfl rfl) rfl ?_
        refine s_skip (w_gno rfl rfl rfl rfl rfl) rfl ?_
        refine s_skip (w_gno rfl rfl rfl rfl rfl) rfl ?_
        refine s_skip (w_gno rfl rfl rfl rfl rfl) rfl ?_
        refine s_run (w_g rfl rfl rfl rfl) rfl (d_pickF rfl rfl rfl) ?_
        refine s_run (w_none rfl) rfl (d_pickF rfl rfl rfl) ?_
        refine s_run (w_none rfl) rfl (mv_bx (c := false) rfl rfl (by first | rfl | (simp; omega) | simp_all)) ?_
        refine s_run (w_g rfl rfl rfl rfl) rfl (d_fa rfl rfl tf33_0) ?_
        refine s_run (w_g rfl rfl rfl rfl) rfl (d_ldX (g := gm) (off := 0) rfl H rfl rfl rfl ta3) ?_
        refine s_run (w_g rfl rfl rfl rfl) rfl (d_ne rfl rfl rfl) ?_
        refine s_run (w_g rfl rfl rfl rfl) rfl (mv_bx (c := true) rfl rfl (by first | rfl | (simp; omega) | simp_all)) ?_
        refine s_run (w_g rfl rfl rfl rfl) rfl (d_fa rfl rfl tf33_4) ?_
        refine s_run (w_g rfl rfl rfl rfl) rfl (d_ldX (g := gm) (off := 75) rfl H (sub_r_move ho) rfl rfl ta3) ?_
        refine s_run (w_g rfl rfl rfl rfl) rfl (d_ne rfl rfl rfl) ?_
        refine s_run (w_g rfl rfl rfl rfl) rfl (mv_bx (c := false) rfl rfl (by first | rfl | (simp; omega) | simp_all)) ?_
        refine s_run (w_g rfl rfl rfl rfl) rfl (d_fa rfl rfl tf33_6) ?_
        refine s_run (w_g rfl rfl rfl rfl) rfl (d_ldXM (g := gm) (off := 77) rfl H (sub_r_tx ho rfl) rfl rfl rfl rfl ta31 ts31) ?_
        refine s_eff (e_call (w_g rfl rfl rfl rfl) rfl rfl Tryz.func30 rfl rfl rfl (noneR _ (keeps_Tx _ _ _ _ _ ht (fun g hg _ => H.fr.block g hg (fun h => h))) hs) ?_)
        rintro _ W ⟨rfl, hb⟩
        replace H := H.below hb
        clear hb
        refine s_run (w_g rfl rfl rfl rfl) rfl (d_not rfl rfl) ?_
        refine s_run (w_g rfl rfl rfl rfl) rfl (d_pickF rfl rfl rfl) ?_
        refine s_run (w_g rfl rfl rfl rfl) rfl (d_pickT rfl rfl rfl) ?_
        refine s_run (w_none rfl) rfl (d_pickF rfl rfl rfl) ?_
        refine s_run (w_none rfl) rfl (mv_bx (c := false) rfl rfl (by first | rfl | (simp; omega) | simp_all)) ?_
        refine s_run (w_g rfl rfl rfl rfl) rfl (d_fa rfl rfl tf33_0) ?_
        refine s_run (w_g rfl rfl rfl rfl) rfl (d_ldX (g := gm) (off := 0) rfl H rfl rfl rfl ta3) ?_
        refine s_run (w_g rfl rfl rfl rfl) rfl (d_ne rfl rfl rfl) ?_
        refine s_run (w_g rfl rfl rfl rfl) rfl (mv_bx (c := true) rfl rfl (by first | rfl | (simp; omega) | simp_all)) ?_
        refine s_run (w_g rfl rfl rfl rfl) rfl (d_fa rfl rfl tf33_5) ?_
        refine s_run (w_g rfl rfl rfl rfl) rfl (d_ldX (g := gm) (off := 76) rfl H (sub_r_state ho) rfl rfl ta3) ?_
        refine s_run (w_g rfl rfl rfl rfl) rfl (d_ne rfl rfl rfl) ?_
        refine s_run (w_g rfl rfl rfl rfl) rfl (d_pickT rfl rfl rfl) ?_
        refine s_run (w_none rfl) rfl (d_pickF rfl rfl rfl) ?_
        refine l_nil ?_
        refine k_condT rfl (by first | rfl | (simp; omega) | simp_all) ?_
        refine k_seq ?_
        refine k_region ?_
        refine s_run (w_none rfl) rfl (as_i rfl rfl) ?_
        refine l_nil ?_
        refine k_ret ?_
        repeat (first | refine r_then ?_ | refine r_blk ?_)
        have ha : Rc.argOk r = true := Rc.arg_mk hid (fun e => by first | exact ⟨h1.2.1, h1.2.2⟩ | (exfalso; omega)) (fun e => by first | exact h1.2 | (exfalso; omega)) (fun e => by first | exact h1.2 | (exfalso; omega))
        have ho1 : Rc.own r = 0 := Rc.own_ok ha (fun e => by have := e.1; omega)
        exact q_ret (v := .int _ _) rfl rfl ⟨_, rfl, vi (by rw [Rc.chk_for hk9 ho1, if_pos h2.2.2.2.2.2]), H.under⟩
      · skip
        refine k_region ?_
        refine s_run (w_none rfl) rfl (d_fa rfl rfl tf33_0) ?_
        refine s_run (w_none rfl) rfl (d_ldX (g := gm) (off := 0) rfl H rfl rfl rfl ta3) ?_
        refine s_run (w_none rfl) rfl (d_ne rfl rfl rfl) ?_
        refine s_run (w_none rfl) rfl (mv_bx (c := true) rfl rfl (by first | rfl | (simp; omega) | simp_all)) ?_
        refine s_run (w_g rfl rfl rfl rfl) rfl (d_fa rfl rfl tf33_2) ?_
        refine s_run (w_g rfl rfl rfl rfl) rfl (d_ldXM (g := gm) (off := 2) rfl H (sub_r_deal ho) (len_deal ho.2.2.1.2.2.2.2.1) rfl rfl rfl ta27 ts27) ?_
        refine s_run (w_g rfl rfl rfl rfl) rfl (d_build (vs := dealC Rc.zDeal) rfl (by kernel_rfl)) ?_
        refine s_run (w_g rfl rfl rfl rfl) rfl (d_nest (r := beqDeal r.deal Rc.zDeal) rfl rfl rfl (eq_Deal (d := 9997) (deal_rep (W := w) (S := nT) ho.2.2.1) (deal_rep (W := w) (S := nT) Rc.ok_zd)) (by kernel_rfl)) ?_
        refine s_run (w_none rfl) rfl (d_pickT rfl rfl rfl) ?_
        refine s_run (w_none rfl) rfl (mv_bx (c := false) rfl rfl (by first | rfl | (simp; omega) | simp_all)) ?_
        refine s_run (w_g rfl rfl rfl rfl) rfl (d_fa rfl rfl tf33_0) ?_
        refine s_run (w_g rfl rfl rfl rfl) rfl (d_ldX (g := gm) (off := 0) rfl H rfl rfl rfl ta3) ?_
        refine s_run (w_g rfl rfl rfl rfl) rfl (d_ne rfl rfl rfl) ?_
        refine s_run (w_g rfl rfl rfl rfl) rfl (mv_bx (c := false) rfl rfl (by first | rfl | (simp; omega) | simp_all)) ?_
        refine s_skip (w_gno rfl rfl rfl rfl rfl) rfl ?_
        refine s_skip (w_gno rfl rfl rfl rfl rfl) rfl ?_
        refine s_skip (w_gno rfl rfl rfl rfl rfl) rfl ?_
        refine s_skip (w_gno rfl rfl rfl rfl rfl) rfl ?_
        refine s_run (w_g rfl rfl rfl rfl) rfl (d_pickF rfl rfl rfl) ?_
        refine s_run (w_none rfl) rfl (d_pickF rfl rfl rfl) ?_
        refine s_run (w_none rfl) rfl (mv_bx (c := false) rfl rfl (by first | rfl | (simp; omega) | simp_all)) ?_
        refine s_run (w_g rfl rfl rfl rfl) rfl (d_fa rfl rfl tf33_0) ?_
        refine s_run (w_g rfl rfl rfl rfl) rfl (d_ldX (g := gm) (off := 0) rfl H rfl rfl rfl ta3) ?_
        refine s_run (w_g rfl rfl rfl rfl) rfl (d_ne rfl rfl rfl) ?_
        refine s_run (w_g rfl rfl rfl rfl) rfl (mv_bx (c := true) rfl rfl (by first | rfl | (simp; omega) | simp_all)) ?_
        refine s_run (w_g rfl rfl rfl rfl) rfl (d_fa rfl rfl tf33_4) ?_
        refine s_run (w_g rfl rfl rfl rfl) rfl (d_ldX (g := gm) (off := 75) rfl H (sub_r_move ho) rfl rfl ta3) ?_
        refine s_run (w_g rfl rfl rfl rfl) rfl (d_ne rfl rfl rfl) ?_
        refine s_run (w_g rfl rfl rfl rfl) rfl (mv_bx (c := false) rfl rfl (by first | rfl | (simp; omega) | simp_all)) ?_
        refine s_run (w_g rfl rfl rfl rfl) rfl (d_fa rfl rfl tf33_6) ?_
        refine s_run (w_g rfl rfl rfl rfl) rfl (d_ldXM (g := gm) (off := 77) rfl H (sub_r_tx ho rfl) rfl rfl rfl rfl ta31 ts31) ?_
        refine s_eff (e_call (w_g rfl rfl rfl rfl) rfl rfl Tryz.func30 rfl rfl rfl (noneR _ (keeps_Tx _ _ _ _ _ ht (fun g hg _ => H.fr.block g hg (fun h => h))) hs) ?_)
        rintro _ W ⟨rfl, hb⟩
        replace H := H.below hb
        clear hb
        refine s_run (w_g rfl rfl rfl rfl) rfl (d_not rfl rfl) ?_
        refine s_run (w_g rfl rfl rfl rfl) rfl (d_pickF rfl rfl rfl) ?_
        refine s_run (w_g rfl rfl rfl rfl) rfl (d_pickT rfl rfl rfl) ?_
        refine s_run (w_none rfl) rfl (d_pickF rfl rfl rfl) ?_
        refine s_run (w_none rfl) rfl (mv_bx (c := false) rfl rfl (by first | rfl | (simp; omega) | simp_all)) ?_
        refine s_run (w_g rfl rfl rfl rfl) rfl (d_fa rfl rfl tf33_0) ?_
        refine s_run (w_g rfl rfl rfl rfl) rfl (d_ldX (g := gm) (off := 0) rfl H rfl rfl rfl ta3) ?_
        refine s_run (w_g rfl rfl rfl rfl) rfl (d_ne rfl rfl rfl) ?_
        refine s_run (w_g rfl rfl rfl rfl) rfl (mv_bx (c := true) rfl rfl (by first | rfl | (simp; omega) | simp_all)) ?_
        refine s_run (w_g rfl rfl rfl rfl) rfl (d_fa rfl rfl tf33_5) ?_
        refine s_run (w_g rfl rfl rfl rfl) rfl (d_ldX (g := gm) (off := 76) rfl H (sub_r_state ho) rfl rfl ta3) ?_
        refine s_run (w_g rfl rfl rfl rfl) rfl (d_ne rfl rfl rfl) ?_
        refine s_run (w_g rfl rfl rfl rfl) rfl (d_pickT rfl rfl rfl) ?_
        refine s_run (w_none rfl) rfl (d_pickF rfl rfl rfl) ?_
        refine l_nil ?_
        refine k_condF rfl (by first | rfl | (simp; omega) | simp_all) ?_
        refine k_skip ?_
        refine k_seq ?_
        refine k_region ?_
        refine s_run (w_none rfl) rfl (as_i rfl rfl) ?_
        refine l_nil ?_
        refine k_ret ?_
        repeat (first | refine r_then ?_ | refine r_blk ?_)
        have ha : Rc.argOk r = true := Rc.arg_mk hid (fun e => by first | exact ⟨h1.2.1, h1.2.2⟩ | (exfalso; omega)) (fun e => by first | exact h1.2 | (exfalso; omega)) (fun e => by first | exact h1.2 | (exfalso; omega))
        have ho1 : Rc.own r = 0 := Rc.own_ok ha (fun e => by have := e.1; omega)
        exact q_ret (v := .int _ _) rfl rfl ⟨_, rfl, vi (by rw [Rc.chk_for hk9 ho1, if_neg (by rw [h2.2.2.2.2]; simp)]), H.under⟩
end Go.Proofs.YtfjhmecmhchbdaaGreatDoor
