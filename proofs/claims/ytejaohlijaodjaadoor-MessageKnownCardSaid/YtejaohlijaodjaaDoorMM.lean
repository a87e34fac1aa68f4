/- Texts of this claim, laid together: OpM, MgSpec, K30, K31, K32, MgLaw, K33, F6. -/
import Derived.Test.YtejaohlijaodjaaDoorMB
import Derived.Test.YtejaohlijaodjaaDoorMV
import Derived.Test.YtejaohlijaodjaaDoorMA
import Derived.Test.YtejaohlijaodjaaDoorMC
set_option linter.unusedVariables false
set_option linter.unusedSimpArgs false

namespace Go.Proofs.YtejaohlijaodjaaDoor
open Go Go.RowKit
attribute [local irreducible] wpList
def beqLeg (x y : DLeg) : Bool := ((x.whereA == y.whereA) && ((x.amount == y.amount) && ((x.untilA == y.untilA) && true)))
theorem beqLeg_iff {x y : DLeg} : beqLeg x y = true ↔ x = y := by
  cases x; cases y
  simp [beqLeg]
theorem eq_Leg {d : Nat} {W W' : World} {S S' : Nat → Prop} {cx cy : List Value} {x y : DLeg} (hx : RLeg W S cx x) (hy : RLeg W' S' cy y) : EqT Tryd.prog (d + 2) 76 (.agg cx.toArray) (.agg cy.toArray) (beqLeg x y) := by
  obtain ⟨c0, c1, c2, rfl, e0, e1, e2⟩ := hx
  obtain ⟨b0, b1, b2, rfl, q0, q1, q2⟩ := hy
  have l0 := lens_I _ _ _ _ e0
  have k0 := lens_I _ _ _ _ q0
  have l1 := lens_I _ _ _ _ e1
  have k1 := lens_I _ _ _ _ q1
  have l2 := lens_I _ _ _ _ e2
  have k2 := lens_I _ _ _ _ q2
  refine eq_st (by kernel_rfl) (by unfold Program.fieldsOf; rw [Tryd.underlying76]) (by kernel_rfl) ?_
  obtain ⟨rfl, _⟩ := e0
  obtain ⟨rfl, _⟩ := q0
  refine eqf_cons rfl (part_1 ta3 (sub_Leg_0 l0)) (part_1 ta3 (sub_Leg_0 k0)) (eq_i tu3) ?_
  obtain ⟨rfl, _⟩ := e1
  obtain ⟨rfl, _⟩ := q1
  refine eqf_cons rfl (part_1 ta3 (sub_Leg_1 l0 l1)) (part_1 ta3 (sub_Leg_1 k0 k1)) (eq_i tu3) ?_
  obtain ⟨rfl, _⟩ := e2
  obtain ⟨rfl, _⟩ := q2
  refine eqf_cons rfl (part_1 ta3 (sub_Leg_2 l0 l1 l2)) (part_1 ta3 (sub_Leg_2 k0 k1 k2)) (eq_i tu3) ?_
  exact eqf_nil
def beqMessage (x y : DMessage) : Bool := ((x.kind == y.kind) && ((x.id == y.id) && ((x.code == y.code) && (beqLeg x.pays y.pays && (beqLeg x.gets y.gets && ((x.hash == y.hash) && true))))))
theorem beqMessage_iff {x y : DMessage} : beqMessage x y = true ↔ x = y := by
  cases x; cases y
  simp [beqMessage, beqLeg_iff, beqLeg_iff]
theorem eq_Message {d : Nat} {W W' : World} {S S' : Nat → Prop} {cx cy : List Value} {x y : DMessage} (hx : RMessage W S cx x) (hy : RMessage W' S' cy y) : EqT Tryd.prog (d + 3) 78 (.agg cx.toArray) (.agg cy.toArray) (beqMessage x y) := by
  obtain ⟨c0, c1, c2, c3, c4, c5, rfl, e0, e1, e2, e3, e4, e5⟩ := hx
  obtain ⟨b0, b1, b2, b3, b4, b5, rfl, q0, q1, q2, q3, q4, q5⟩ := hy
  have l0 := lens_I _ _ _ _ e0
  have k0 := lens_I _ _ _ _ q0
  have l1 := lens_I _ _ _ _ e1
  have k1 := lens_I _ _ _ _ q1
  have l2 := lens_I _ _ _ _ e2
  have k2 := lens_I _ _ _ _ q2
  have l3 := lens_Leg _ _ _ _ e3
  have k3 := lens_Leg _ _ _ _ q3
  have l4 := lens_Leg _ _ _ _ e4
  have k4 := lens_Leg _ _ _ _ q4
  have l5 := lens_A _ _ _ _ e5
  have k5 := lens_A _ _ _ _ q5
  refine eq_st (by kernel_rfl) (by unfold Program.fieldsOf; rw [Tryd.underlying78]) (by kernel_rfl) ?_
  obtain ⟨rfl, _⟩ := e0
  obtain ⟨rfl, _⟩ := q0
  refine eqf_cons rfl (part_1 ta3 (sub_Message_0 l0)) (part_1 ta3 (sub_Message_0 k0)) (eq_i tu3) ?_
  obtain ⟨rfl, _⟩ := e1
  obtain ⟨rfl, _⟩ := q1
  refine eqf_cons rfl (part_1 ta3 (sub_Message_1 l0 l1)) (part_1 ta3 (sub_Message_1 k0 k1)) (eq_i tu3) ?_
  obtain ⟨rfl, _⟩ := e2
  obtain ⟨rfl, _⟩ := q2
  refine eqf_cons rfl (part_1 ta3 (sub_Message_2 l0 l1 l2)) (part_1 ta3 (sub_Message_2 k0 k1 k2)) (eq_i tu3) ?_
  refine eqf_cons rfl (part_Me ta76 ts76 (sub_Message_3 l0 l1 l2 l3)) (part_Me ta76 ts76 (sub_Message_3 k0 k1 k2 k3)) (eq_Leg e3 q3) ?_
  refine eqf_cons rfl (part_Me ta76 ts76 (sub_Message_4 l0 l1 l2 l3 l4)) (part_Me ta76 ts76 (sub_Message_4 k0 k1 k2 k3 k4)) (eq_Leg e4 q4) ?_
  have z5 := e5.2
  have y5 := q5.2
  obtain ⟨rfl, _⟩ := e5
  obtain ⟨rfl, _⟩ := q5
  refine eqf_cons rfl (part_Me ta36 ts36 (sub_Message_5 l0 l1 l2 l3 l4 l5)) (part_Me ta36 ts36 (sub_Message_5 k0 k1 k2 k3 k4 k5)) (eq_u8s tu36 tu5 ts5 z5 y5) ?_
  exact eqf_nil
end Go.Proofs.YtejaohlijaodjaaDoor

namespace Go.Proofs.YtejaohlijaodjaaDoor
open Go Go.RowKit

namespace Mg
def leg (l : DLeg) : Int := if l.whereA < 0 ∨ 2 < l.whereA ∨ l.untilA < 0 ∨ 1073741824 < l.untilA then 1 else if l.amount < 1 ∨ 1125899906842624 < l.amount then 15 else 0
abbrev z32 : List UInt8 := List.replicate 32 0
def bare (m : DMessage) : DMessage := ⟨m.kind, m.id, m.code, ⟨0, 0, 0⟩, ⟨0, 0, 0⟩, z32⟩
def chk (m : DMessage) : Int :=
  if m.kind < 1 ∨ 3 < m.kind then 2 else if m.id < 1 ∨ 1073741824 < m.id then 1
  else if m.kind = 3 then (if m.code < 1 ∨ 24 < m.code then 1 else if beqMessage m (bare m) = false then 11 else 0)
  else if leg m.pays ≠ 0 then leg m.pays else if leg m.gets ≠ 0 then leg m.gets else if m.pays.whereA = m.gets.whereA then 1 else if m.code ≠ 0 then 11 else 0
def legB (l : DLeg) : List UInt8 := Pk.int (Pk.toU l.whereA) ++ (Pk.int (Pk.toU l.amount) ++ Pk.int (Pk.toU l.untilA))
def putB (m : DMessage) : List UInt8 := Pk.int (Pk.toU m.kind) ++ (Pk.int (Pk.toU m.id) ++ (if m.kind = 3 then Pk.int (Pk.toU m.code) else legB m.pays ++ (legB m.gets ++ m.hash)))
def put (m : DMessage) : List UInt8 := if chk m = 0 then putB m else []
def rLeg (s : RS) : DLeg × RS := (⟨((Pk.rInt s).1 : Int), ((Pk.rInt (Pk.rInt s).2).1 : Int), ((Pk.rInt (Pk.rInt (Pk.rInt s).2).2).1 : Int)⟩, (Pk.rInt (Pk.rInt (Pk.rInt s).2).2).2)
def body (k i : Int) (s : RS) : DMessage × RS :=
  if k = 3 then (⟨k, i, ((Pk.rInt s).1 : Int), ⟨0, 0, 0⟩, ⟨0, 0, 0⟩, z32⟩, (Pk.rInt s).2)
  else (⟨k, i, 0, (rLeg s).1, (rLeg (rLeg s).2).1, (Pk.rBytes 32 (rLeg (rLeg s).2).2).1⟩, (Pk.rBytes 32 (rLeg (rLeg s).2).2).2)
def zero : DMessage := ⟨0, 0, 0, ⟨0, 0, 0⟩, ⟨0, 0, 0⟩, z32⟩
/-- Behind the body. -/
def fin (r : DMessage × RS) : DMessage × Int :=
  if Pk.rEnd r.2 = 0 then (if chk r.1 = 0 then (r.1, 0) else (zero, chk r.1)) else (zero, Pk.rEnd r.2)
def get (b : List UInt8) : DMessage × Int :=
  if (Pk.rInt (Pk.rInt (b, 0)).2).2.2 ≠ 0 then (zero, (Pk.rInt (Pk.rInt (b, 0)).2).2.2)
  else if (Pk.rInt (b, 0)).1 < 1 ∨ 3 < (Pk.rInt (b, 0)).1 then (zero, 2)
  else fin (body ((Pk.rInt (b, 0)).1 : Int) ((Pk.rInt (Pk.rInt (b, 0)).2).1 : Int) (Pk.rInt (Pk.rInt (b, 0)).2).2)

def OkL (l : DLeg) : Prop := (-9223372036854775808 ≤ l.whereA ∧ l.whereA ≤ 9223372036854775807) ∧ (-9223372036854775808 ≤ l.amount ∧ l.amount ≤ 9223372036854775807) ∧ (-9223372036854775808 ≤ l.untilA ∧ l.untilA ≤ 9223372036854775807)
def Ok (m : DMessage) : Prop := (-9223372036854775808 ≤ m.kind ∧ m.kind ≤ 9223372036854775807) ∧ (-9223372036854775808 ≤ m.id ∧ m.id ≤ 9223372036854775807) ∧ (-9223372036854775808 ≤ m.code ∧ m.code ≤ 9223372036854775807) ∧ OkL m.pays ∧ OkL m.gets ∧ m.hash.length = 32
theorem len_legB {l : DLeg} : (legB l).length ≤ 27 := by
  have h1 := Pk.len_int (Pk.toU l.whereA)
  have h2 := Pk.len_int (Pk.toU l.amount)
  have h3 := Pk.len_int (Pk.toU l.untilA)
  unfold legB
  rw [List.length_append, List.length_append]; omega
theorem len_putB {m : DMessage} (h : Ok m) : (putB m).length ≤ 200 := by
  have h1 := Pk.len_int (Pk.toU m.kind)
  have h2 := Pk.len_int (Pk.toU m.id)
  have h3 := Pk.len_int (Pk.toU m.code)
  have h4 := len_legB (l := m.pays)
  have h5 := len_legB (l := m.gets)
  have h6 := h.2.2.2.2.2
  unfold putB
  rw [List.length_append, List.length_append]
  split
  · omega
  · rw [List.length_append, List.length_append]; omega
end Mg
/-- A leg's, and a message's, cells. -/
def legC (l : DLeg) : List Value := [.int .i64 l.whereA, .int .i64 l.amount, .int .i64 l.untilA]
def msgC (m : DMessage) : List Value := .int .i64 m.kind :: .int .i64 m.id :: .int .i64 m.code :: .int .i64 m.pays.whereA :: .int .i64 m.pays.amount :: .int .i64 m.pays.untilA :: .int .i64 m.gets.whereA :: .int .i64 m.gets.amount :: .int .i64 m.gets.untilA :: m.hash.map u8v
theorem leg_of {W : World} {S : Nat → Prop} {cs : List Value} {l : DLeg} (h : RLeg W S cs l) : cs = legC l ∧ Mg.OkL l := by
  obtain ⟨c0, c1, c2, rfl, ⟨rfl, r0⟩, ⟨rfl, r1⟩, ⟨rfl, r2⟩⟩ := h
  exact ⟨rfl, r0, r1, r2⟩
theorem leg_rep {W : World} {S : Nat → Prop} {l : DLeg} (h : Mg.OkL l) : RLeg W S (legC l) l := ⟨_, _, _, rfl, ⟨rfl, h.1⟩, ⟨rfl, h.2.1⟩, ⟨rfl, h.2.2⟩⟩
theorem msg_of {W : World} {S : Nat → Prop} {cs : List Value} {m : DMessage} (h : RMessage W S cs m) : cs = msgC m ∧ Mg.Ok m := by
  obtain ⟨c0, c1, c2, c3, c4, c5, rfl, ⟨rfl, r0⟩, ⟨rfl, r1⟩, ⟨rfl, r2⟩, h3, h4, ⟨rfl, r5⟩⟩ := h
  obtain ⟨rfl, r3⟩ := leg_of h3
  obtain ⟨rfl, r4⟩ := leg_of h4
  exact ⟨rfl, r0, r1, r2, r3, r4, r5⟩
theorem msg_rep {W : World} {S : Nat → Prop} {m : DMessage} (h : Mg.Ok m) : RMessage W S (msgC m) m := ⟨[_], [_], [_], legC m.pays, legC m.gets, _, rfl, ⟨rfl, h.1⟩, ⟨rfl, h.2.1⟩, ⟨rfl, h.2.2.1⟩, leg_rep h.2.2.2.1, leg_rep h.2.2.2.2.1, ⟨rfl, h.2.2.2.2.2⟩⟩
theorem len_msg {m : DMessage} (h : m.hash.length = 32) : (msgC m).length = 41 := by simp [msgC]; omega
theorem sub_hash {m : DMessage} (h : m.hash.length = 32) : sub (msgC m) 9 32 = m.hash.map u8v := by
  unfold msgC
  show sub (m.hash.map u8v) 0 32 = _
  exact sub_all (by rw [List.length_map, h])
theorem okl_0 : Mg.OkL ⟨0, 0, 0⟩ := by unfold Mg.OkL; decide
theorem ok_bare {m : DMessage} (h : Mg.Ok m) : Mg.Ok (Mg.bare m) := ⟨h.1, h.2.1, h.2.2.1, okl_0, okl_0, List.length_replicate⟩
theorem ok_zero : Mg.Ok Mg.zero := ⟨by decide, by decide, by decide, okl_0, okl_0, List.length_replicate⟩
theorem msg_one {m : DMessage} : (msgC m).all (·.oneCell') = true := by
  unfold msgC
  simp only [List.all_cons, all_u8L]
  rfl
end Go.Proofs.YtejaohlijaodjaaDoor

namespace Go.Proofs.YtejaohlijaodjaaDoor
open Go Go.RowKit
attribute [local irreducible] wpList

/-- Results in a cell and in a slot. -/
theorem q_retct {P : Program} {n : Nat} {ρ : Nat → Value} {W w0 : World} {T : Nat → Prop} {L : List Fact} {t t' : TypeId} {g : Nat} {fn : Func} {R : Ending → World → Prop} {p q : Tmp} {c : List Value} {v : Value} (hr : fn.results = #[.cell p t, .tmp q]) (H : St T w0 W L) (hx : ev n ρ (.tmp p) = .pointer (some ⟨g, 0, none⟩)) (ha : aggB P t = some true) [hb : Blk g L c t'] (hs : (P.info? t).map (·.size) = some c.length) (hq : ev n ρ (.tmp q) = v)
    (h : R (.returned (.tuple #[.agg c.toArray, v])) W) : bodyPost P fn R .ret (st n ρ []) W := by
  refine ⟨rfl, .tuple #[.agg c.toArray, v], ?_, h⟩
  have hl : (loadVar t ⟨g, 0, none⟩).run P W = .ok (.agg c.toArray) W := loadsM ha hs H.blk
  have hp : (st n ρ []).tmps.getD p undef = .pointer (some ⟨g, 0, none⟩) := by rw [st_getD]; exact hx
  have hq' : (st n ρ []).tmps.getD q undef = v := by rw [st_getD]; exact hq
  have hp2 : (st n ρ []).tmps[p]?.getD undef = .pointer (some ⟨g, 0, none⟩) := by simpa using hp
  have hq2 : (st n ρ []).tmps[q]?.getD undef = v := by simpa using hq'
  simp [results, hr, hp2, hq2, asAddr, hl]

set_option maxHeartbeats 4000000 in
theorem legP {l : DLeg} (w : World) : Calls Tryd.prog 62 [.agg (legC l).toArray].toArray w (Ret (Is w (.int .i64 (Mg.leg l)))) := by
  refine k_enter (l := [_]) Tryd.func62 rfl rfl ?_
  have H := St.start nT w
  refine k_seq ?_
  refine k_region ?_
  refine s_eff (e_box (vs := (legC l)) (w_none rfl) rfl rfl rfl rfl H ?_)
  clear H; intro g0_0 W H
  refine s_run (w_none rfl) rfl (as_i rfl rfl) ?_
  refine l_nil ?_
  refine k_seq ?_
  refine k_block ?_
  refine k_seq ?_
  refine k_seq ?_
  rcases (show l.whereA < 0 ∨ (0 ≤ l.whereA ∧ l.whereA ≤ 2) ∨ 2 < l.whereA by omega) with ha | ha | ha
  · skip
    refine k_region ?_
    refine s_run (w_none rfl) rfl (d_fa rfl rfl tf76_0) ?_
    refine s_run (w_none rfl) rfl (d_ld rfl H rfl ta3 rfl) ?_
    refine s_run (w_none rfl) rfl (d_lt rfl rfl rfl) ?_
    refine s_run (w_none rfl) rfl (mv_bx (c := true) rfl rfl (by first | rfl | (simp; omega))) ?_
    refine s_skip (w_gno rfl rfl rfl rfl rfl) rfl ?_
    refine s_skip (w_gno rfl rfl rfl rfl rfl) rfl ?_
    refine s_skip (w_gno rfl rfl rfl rfl rfl) rfl ?_
    refine s_run (w_none rfl) rfl (d_pickT rfl rfl rfl) ?_
    refine s_run (w_none rfl) rfl (as_b rfl rfl) ?_
    refine l_nil ?_
    refine k_condT rfl (by first | rfl | (simp; omega)) ?_
    refine k_skip ?_
    refine k_condT rfl (by first | rfl | (simp; omega)) ?_
    refine k_seq ?_
    refine k_region ?_
    refine s_run (w_none rfl) rfl (as_i rfl rfl) ?_
    refine l_nil ?_
    refine k_ret ?_
    repeat (first | refine r_then ?_ | refine r_blk ?_)
    exact q_ret (v := .int _ _) rfl rfl ⟨_, rfl, vi (by unfold Mg.leg; (repeat' split) <;> omega), H.under⟩
  · skip
    refine k_region ?_
    refine s_run (w_none rfl) rfl (d_fa rfl rfl tf76_0) ?_
    refine s_run (w_none rfl) rfl (d_ld rfl H rfl ta3 rfl) ?_
    refine s_run (w_none rfl) rfl (d_lt rfl rfl rfl) ?_
    refine s_run (w_none rfl) rfl (mv_bx (c := false) rfl rfl (by first | rfl | (simp; omega))) ?_
    refine s_run (w_g rfl rfl rfl rfl) rfl (d_fa rfl rfl tf76_0) ?_
    refine s_run (w_g rfl rfl rfl rfl) rfl (d_ld rfl H rfl ta3 rfl) ?_
    refine s_run (w_g rfl rfl rfl rfl) rfl (d_gt rfl rfl rfl) ?_
    refine s_run (w_none rfl) rfl (d_pickF rfl rfl rfl) ?_
    refine s_run (w_none rfl) rfl (as_b rfl rfl) ?_
    refine l_nil ?_
    refine k_condF rfl (by first | rfl | (simp; omega)) ?_
    rcases (show l.untilA < 0 ∨ (0 ≤ l.untilA ∧ l.untilA ≤ 1073741824) ∨ 1073741824 < l.untilA by omega) with hb | hb | hb
    · skip
      refine k_region ?_
      refine s_run (w_none rfl) rfl (d_fa rfl rfl tf76_2) ?_
      refine s_run (w_none rfl) rfl (d_ld rfl H rfl ta3 rfl) ?_
      refine s_run (w_none rfl) rfl (d_lt rfl rfl rfl) ?_
      refine s_run (w_none rfl) rfl (mv_bx (c := true) rfl rfl (by first | rfl | (simp; omega))) ?_
      refine s_skip (w_gno rfl rfl rfl rfl rfl) rfl ?_
      refine s_skip (w_gno rfl rfl rfl rfl rfl) rfl ?_
      refine s_skip (w_gno rfl rfl rfl rfl rfl) rfl ?_
      refine s_run (w_none rfl) rfl (d_pickT rfl rfl rfl) ?_
      refine s_run (w_none rfl) rfl (as_b rfl rfl) ?_
      refine l_nil ?_
      refine k_condT rfl (by first | rfl | (simp; omega)) ?_
      refine k_seq ?_
      refine k_region ?_
      refine s_run (w_none rfl) rfl (as_i rfl rfl) ?_
      refine l_nil ?_
      refine k_ret ?_
      repeat (first | refine r_then ?_ | refine r_blk ?_)
      exact q_ret (v := .int _ _) rfl rfl ⟨_, rfl, vi (by unfold Mg.leg; (repeat' split) <;> omega), H.under⟩
    · skip
      refine k_region ?_
      refine s_run (w_none rfl) rfl (d_fa rfl rfl tf76_2) ?_
      refine s_run (w_none rfl) rfl (d_ld rfl H rfl ta3 rfl) ?_
      refine s_run (w_none rfl) rfl (d_lt rfl rfl rfl) ?_
      refine s_run (w_none rfl) rfl (mv_bx (c := false) rfl rfl (by first | rfl | (simp; omega))) ?_
      refine s_run (w_g rfl rfl rfl rfl) rfl (d_fa rfl rfl tf76_2) ?_
      refine s_run (w_g rfl rfl rfl rfl) rfl (d_ld rfl H rfl ta3 rfl) ?_
      refine s_run (w_g rfl rfl rfl rfl) rfl (d_gt rfl rfl rfl) ?_
      refine s_run (w_none rfl) rfl (d_pickF rfl rfl rfl) ?_
      refine s_run (w_none rfl) rfl (as_b rfl rfl) ?_
      refine l_nil ?_
      refine k_condF rfl (by first | rfl | (simp; omega)) ?_
      refine k_seq ?_
      rcases (show l.amount < 1 ∨ (1 ≤ l.amount ∧ l.amount ≤ 1125899906842624) ∨ 1125899906842624 < l.amount by omega) with hc | hc | hc
      · skip
        refine k_region ?_
        refine s_run (w_none rfl) rfl (d_fa rfl rfl tf76_1) ?_
        refine s_run (w_none rfl) rfl (d_ld rfl H rfl ta3 rfl) ?_
        refine s_run (w_none rfl) rfl (d_lt rfl rfl rfl) ?_
        refine s_run (w_none rfl) rfl (mv_bx (c := true) rfl rfl (by first | rfl | (simp; omega))) ?_
        refine s_skip (w_gno rfl rfl rfl rfl rfl) rfl ?_
        refine s_skip (w_gno rfl rfl rfl rfl rfl) rfl ?_
        refine s_skip (w_gno rfl rfl rfl rfl rfl) rfl ?_
        refine s_run (w_none rfl) rfl (d_pickT rfl rfl rfl) ?_
        refine s_run (w_none rfl) rfl (as_b rfl rfl) ?_
        refine l_nil ?_
        refine k_condT rfl (by first | rfl | (simp; omega)) ?_
        refine k_seq ?_
        refine k_region ?_
        refine s_run (w_none rfl) rfl (as_i rfl rfl) ?_
        refine l_nil ?_
        refine k_ret ?_
        repeat (first | refine r_then ?_ | refine r_blk ?_)
        exact q_ret (v := .int _ _) rfl rfl ⟨_, rfl, vi (by unfold Mg.leg; (repeat' split) <;> omega), H.under⟩
      · skip
        refine k_region ?_
        refine s_run (w_none rfl) rfl (d_fa rfl rfl tf76_1) ?_
        refine s_run (w_none rfl) rfl (d_ld rfl H rfl ta3 rfl) ?_
        refine s_run (w_none rfl) rfl (d_lt rfl rfl rfl) ?_
        refine s_run (w_none rfl) rfl (mv_bx (c := false) rfl rfl (by first | rfl | (simp; omega))) ?_
        refine s_run (w_g rfl rfl rfl rfl) rfl (d_fa rfl rfl tf76_1) ?_
        refine s_run (w_g rfl rfl rfl rfl) rfl (d_ld rfl H rfl ta3 rfl) ?_
        refine s_run (w_g rfl rfl rfl rfl) rfl (d_gt rfl rfl rfl) ?_
        refine s_run (w_none rfl) rfl (d_pickF rfl rfl rfl) ?_
        refine s_run (w_none rfl) rfl (as_b rfl rfl) ?_
        refine l_nil ?_
        refine k_condF rfl (by first | rfl | (simp; omega)) ?_
        refine k_skip ?_
        refine k_nil ?_
        refine b_end ?_
        refine k_seq ?_
        refine k_region ?_
        refine s_run (w_none rfl) rfl (as_i rfl rfl) ?_
        refine l_nil ?_
        refine k_ret ?_
        repeat (first | refine r_then ?_ | refine r_blk ?_)
        exact q_ret (v := .int _ _) rfl rfl ⟨_, rfl, vi (by unfold Mg.leg; (repeat' split) <;> omega), H.under⟩
      · skip
        refine k_region ?_
        refine s_run (w_none rfl) rfl (d_fa rfl rfl tf76_1) ?_
        refine s_run (w_none rfl) rfl (d_ld rfl H rfl ta3 rfl) ?_
        refine s_run (w_none rfl) rfl (d_lt rfl rfl rfl) ?_
        refine s_run (w_none rfl) rfl (mv_bx (c := false) rfl rfl (by first | rfl | (simp; omega))) ?_
        refine s_run (w_g rfl rfl rfl rfl) rfl (d_fa rfl rfl tf76_1) ?_
        refine s_run (w_g rfl rfl rfl rfl) rfl (d_ld rfl H rfl ta3 rfl) ?_
        refine s_run (w_g rfl rfl rfl rfl) rfl (d_gt rfl rfl rfl) ?_
        refine s_run (w_none rfl) rfl (d_pickF rfl rfl rfl) ?_
        refine s_run (w_none rfl) rfl (as_b rfl rfl) ?_
        refine l_nil ?_
        refine k_condT rfl (by first | rfl | (simp; omega)) ?_
        refine k_seq ?_
        refine k_region ?_
        refine s_run (w_none rfl) rfl (as_i rfl rfl) ?_
        refine l_nil ?_
        refine k_ret ?_
        repeat (first | refine r_then ?_ | refine r_blk ?_)
        exact q_ret (v := .int _ _) rfl rfl ⟨_, rfl, vi (by unfold Mg.leg; (repeat' split) <;> omega), H.under⟩
    · skip
      refine k_region ?_
      refine s_run (w_none rfl) rfl (d_fa rfl rfl tf76_2) ?_
      refine s_run (w_none rfl) rfl (d_ld rfl H rfl ta3 rfl) ?_
      refine s_run (w_none rfl) rfl (d_lt rfl rfl rfl) ?_
      refine s_run (w_none rfl) rfl (mv_bx (c := false) rfl rfl (by first | rfl | (simp; omega))) ?_
      refine s_run (w_g rfl rfl rfl rfl) rfl (d_fa rfl rfl tf76_2) ?_
      refine s_run (w_g rfl rfl rfl rfl) rfl (d_ld rfl H rfl ta3 rfl) ?_
      refine s_run (w_g rfl rfl rfl rfl) rfl (d_gt rfl rfl rfl) ?_
      refine s_run (w_none rfl) rfl (d_pickF rfl rfl rfl) ?_
      refine s_run (w_none rfl) rfl (as_b rfl rfl) ?_
      refine l_nil ?_
      refine k_condT rfl (by first | rfl | (simp; omega)) ?_
      refine k_seq ?_
      refine k_region ?_
      refine s_run (w_none rfl) rfl (as_i rfl rfl) ?_
      refine l_nil ?_
      refine k_ret ?_
      repeat (first | refine r_then ?_ | refine r_blk ?_)
      exact q_ret (v := .int _ _) rfl rfl ⟨_, rfl, vi (by unfold Mg.leg; (repeat' split) <;> omega), H.under⟩
  · skip
    refine k_region ?_
    refine s_run (w_none rfl) rfl (d_fa rfl rfl tf76_0) ?_
    refine s_run (w_none rfl) rfl (d_ld rfl H rfl ta3 rfl) ?_
    refine s_run (w_none rfl) rfl (d_lt rfl rfl rfl) ?_
    refine s_run (w_none rfl) rfl (mv_bx (c := false) rfl rfl (by first | rfl | (simp; omega))) ?_
    refine s_run (w_g rfl rfl rfl rfl) rfl (d_fa rfl rfl tf76_0) ?_
    refine s_run (w_g rfl rfl rfl rfl) rfl (d_ld rfl H rfl ta3 rfl) ?_
    refine s_run (w_g rfl rfl rfl rfl) rfl (d_gt rfl rfl rfl) ?_
    refine s_run (w_none rfl) rfl (d_pickF rfl rfl rfl) ?_
    refine s_run (w_none rfl) rfl (as_b rfl rfl) ?_
    refine l_nil ?_
    refine k_condT rfl (by first | rfl | (simp; omega)) ?_
    refine k_skip ?_
    refine k_condT rfl (by first | rfl | (simp; omega)) ?_
    refine k_seq ?_
    refine k_region ?_
    refine s_run (w_none rfl) rfl (as_i rfl rfl) ?_
    refine l_nil ?_
    refine k_ret ?_
    repeat (first | refine r_then ?_ | refine r_blk ?_)
    exact q_ret (v := .int _ _) rfl rfl ⟨_, rfl, vi (by unfold Mg.leg; (repeat' split) <;> omega), H.under⟩

set_option maxHeartbeats 4000000 in
theorem legR {l : DLeg} (w : World) : Calls Tryd.prog 63 [.agg (legC l).toArray].toArray w (Ret (Is w (.int .i64 (Mg.leg l)))) := by
  refine k_enter (l := [_]) Tryd.func63 rfl rfl ?_
  have H := St.start nT w
  refine k_seq ?_
  refine k_region ?_
  refine s_eff (e_box (vs := (legC l)) (w_none rfl) rfl rfl rfl rfl H ?_)
  clear H; intro g0_0 W H
  refine s_run (w_none rfl) rfl (as_i rfl rfl) ?_
  refine l_nil ?_
  refine k_seq ?_
  refine k_seq ?_
  rcases (show l.whereA < 0 ∨ 2 < l.whereA ∨ (0 ≤ l.whereA ∧ l.whereA ≤ 2 ∧ l.untilA < 0) ∨ (0 ≤ l.whereA ∧ l.whereA ≤ 2 ∧ 1073741824 < l.untilA) ∨ (0 ≤ l.whereA ∧ l.whereA ≤ 2 ∧ 0 ≤ l.untilA ∧ l.untilA ≤ 1073741824) by omega) with ha | ha | ha | ha | ha
  · skip
    refine k_region ?_
    refine s_run (w_none rfl) rfl (d_fa rfl rfl tf76_0) ?_
    refine s_run (w_none rfl) rfl (d_ld rfl H rfl ta3 rfl) ?_
    refine s_run (w_none rfl) rfl (d_lt rfl rfl rfl) ?_
    refine s_run (w_none rfl) rfl (mv_bx (c := true) rfl rfl (by first | rfl | (simp; omega))) ?_
    refine s_skip (w_gno rfl rfl rfl rfl rfl) rfl ?_
    refine s_skip (w_gno rfl rfl rfl rfl rfl) rfl ?_
    refine s_skip (w_gno rfl rfl rfl rfl rfl) rfl ?_
    refine s_run (w_none rfl) rfl (d_pickT rfl rfl rfl) ?_
    refine s_run (w_none rfl) rfl (mv_bx (c := true) rfl rfl (by first | rfl | (simp; omega))) ?_
    refine s_skip (w_gno rfl rfl rfl rfl rfl) rfl ?_
    refine s_skip (w_gno rfl rfl rfl rfl rfl) rfl ?_
    refine s_skip (w_gno rfl rfl rfl rfl rfl) rfl ?_
    refine s_run (w_none rfl) rfl (d_pickT rfl rfl rfl) ?_
    refine s_run (w_none rfl) rfl (mv_bx (c := true) rfl rfl (by first | rfl | (simp; omega))) ?_
    refine s_skip (w_gno rfl rfl rfl rfl rfl) rfl ?_
    refine s_skip (w_gno rfl rfl rfl rfl rfl) rfl ?_
    refine s_skip (w_gno rfl rfl rfl rfl rfl) rfl ?_
    refine s_run (w_none rfl) rfl (d_pickT rfl rfl rfl) ?_
    refine l_nil ?_
    refine k_condT rfl (by first | rfl | (simp; omega)) ?_
    refine k_seq ?_
    refine k_region ?_
    refine s_run (w_none rfl) rfl (as_i rfl rfl) ?_
    refine l_nil ?_
    refine k_ret ?_
    repeat (first | refine r_then ?_ | refine r_blk ?_)
    exact q_ret (v := .int _ _) rfl rfl ⟨_, rfl, vi (by unfold Mg.leg; (repeat' split) <;> omega), H.under⟩
  · skip
    refine k_region ?_
    refine s_run (w_none rfl) rfl (d_fa rfl rfl tf76_0) ?_
    refine s_run (w_none rfl) rfl (d_ld rfl H rfl ta3 rfl) ?_
    refine s_run (w_none rfl) rfl (d_lt rfl rfl rfl) ?_
    refine s_run (w_none rfl) rfl (mv_bx (c := false) rfl rfl (by first | rfl | (simp; omega))) ?_
    refine s_run (w_g rfl rfl rfl rfl) rfl (d_fa rfl rfl tf76_0) ?_
    refine s_run (w_g rfl rfl rfl rfl) rfl (d_ld rfl H rfl ta3 rfl) ?_
    refine s_run (w_g rfl rfl rfl rfl) rfl (d_gt rfl rfl rfl) ?_
    refine s_run (w_none rfl) rfl (d_pickF rfl rfl rfl) ?_
    refine s_run (w_none rfl) rfl (mv_bx (c := true) rfl rfl (by first | rfl | (simp; omega))) ?_
    refine s_skip (w_gno rfl rfl rfl rfl rfl) rfl ?_
    refine s_skip (w_gno rfl rfl rfl rfl rfl) rfl ?_
    refine s_skip (w_gno rfl rfl rfl rfl rfl) rfl ?_
    refine s_run (w_none rfl) rfl (d_pickT rfl rfl rfl) ?_
    refine s_run (w_none rfl) rfl (mv_bx (c := true) rfl rfl (by first | rfl | (simp; omega))) ?_
    refine s_skip (w_gno rfl rfl rfl rfl rfl) rfl ?_
    refine s_skip (w_gno rfl rfl rfl rfl rfl) rfl ?_
    refine s_skip (w_gno rfl rfl rfl rfl rfl) rfl ?_
    refine s_run (w_none rfl) rfl (d_pickT rfl rfl rfl) ?_
    refine l_nil ?_
    refine k_condT rfl (by first | rfl | (simp; omega)) ?_
    refine k_seq ?_
    refine k_region ?_
    refine s_run (w_none rfl) rfl (as_i rfl rfl) ?_
    refine l_nil ?_
    refine k_ret ?_
    repeat (first | refine r_then ?_ | refine r_blk ?_)
    exact q_ret (v := .int _ _) rfl rfl ⟨_, rfl, vi (by unfold Mg.leg; (repeat' split) <;> omega), H.under⟩
  · skip
    refine k_region ?_
    refine s_run (w_none rfl) rfl (d_fa rfl rfl tf76_0) ?_
    refine s_run (w_none rfl) rfl (d_ld rfl H rfl ta3 rfl) ?_
    refine s_run (w_none rfl) rfl (d_lt rfl rfl rfl) ?_
    refine s_run (w_none rfl) rfl (mv_bx (c := false) rfl rfl (by first | rfl | (simp; omega))) ?_
    refine s_run (w_g rfl rfl rfl rfl) rfl (d_fa rfl rfl tf76_0) ?_
    refine s_run (w_g rfl rfl rfl rfl) rfl (d_ld rfl H rfl ta3 rfl) ?_
    refine s_run (w_g rfl rfl rfl rfl) rfl (d_gt rfl rfl rfl) ?_
    refine s_run (w_none rfl) rfl (d_pickF rfl rfl rfl) ?_
    refine s_run (w_none rfl) rfl (mv_bx (c := false) rfl rfl (by first | rfl | (simp; omega))) ?_
    refine s_run (w_g rfl rfl rfl rfl) rfl (d_fa rfl rfl tf76_2) ?_
    refine s_run (w_g rfl rfl rfl rfl) rfl (d_ld rfl H rfl ta3 rfl) ?_
    refine s_run (w_g rfl rfl rfl rfl) rfl (d_lt rfl rfl rfl) ?_
    refine s_run (w_none rfl) rfl (d_pickF rfl rfl rfl) ?_
    refine s_run (w_none rfl) rfl (mv_bx (c := true) rfl rfl (by first | rfl | (simp; omega))) ?_
    refine s_skip (w_gno rfl rfl rfl rfl rfl) rfl ?_
    refine s_skip (w_gno rfl rfl rfl rfl rfl) rfl ?_
    refine s_skip (w_gno rfl rfl rfl rfl rfl) rfl ?_
    refine s_run (w_none rfl) rfl (d_pickT rfl rfl rfl) ?_
    refine l_nil ?_
    refine k_condT rfl (by first | rfl | (simp; omega)) ?_
    refine k_seq ?_
    refine k_region ?_
    refine s_run (w_none rfl) rfl (as_i rfl rfl) ?_
    refine l_nil ?_
    refine k_ret ?_
    repeat (first | refine r_then ?_ | refine r_blk ?_)
    exact q_ret (v := .int _ _) rfl rfl ⟨_, rfl, vi (by unfold Mg.leg; (repeat' split) <;> omega), H.under⟩
  · skip
    refine k_region ?_
    refine s_run (w_none rfl) rfl (d_fa rfl rfl tf76_0) ?_
    refine s_run (w_none rfl) rfl (d_ld rfl H rfl ta3 rfl) ?_
    refine s_run (w_none rfl) rfl (d_lt rfl rfl rfl) ?_
    refine s_run (w_none rfl) rfl (mv_bx (c := false) rfl rfl (by first | rfl | (simp; omega))) ?_
    refine s_run (w_g rfl rfl rfl rfl) rfl (d_fa rfl rfl tf76_0) ?_
    refine s_run (w_g rfl rfl rfl rfl) rfl (d_ld rfl H rfl ta3 rfl) ?_
    refine s_run (w_g rfl rfl rfl rfl) rfl (d_gt rfl rfl rfl) ?_
    refine s_run (w_none rfl) rfl (d_pickF rfl rfl rfl) ?_
    refine s_run (w_none rfl) rfl (mv_bx (c := false) rfl rfl (by first | rfl | (simp; omega))) ?_
    refine s_run (w_g rfl rfl rfl rfl) rfl (d_fa rfl rfl tf76_2) ?_
    refine s_run (w_g rfl rfl rfl rfl) rfl (d_ld rfl H rfl ta3 rfl) ?_
    refine s_run (w_g rfl rfl rfl rfl) rfl (d_lt rfl rfl rfl) ?_
    refine s_run (w_none rfl) rfl (d_pickF rfl rfl rfl) ?_
    refine s_run (w_none rfl) rfl (mv_bx (c := false) rfl rfl (by first | rfl | (simp; omega))) ?_
    refine s_run (w_g rfl rfl rfl rfl) rfl (d_fa rfl rfl tf76_2) ?_
    refine s_run (w_g rfl rfl rfl rfl) rfl (d_ld rfl H rfl ta3 rfl) ?_
    refine s_run (w_g rfl rfl rfl rfl) rfl (d_gt rfl rfl rfl) ?_
    refine s_run (w_none rfl) rfl (d_pickF rfl rfl rfl) ?_
    refine l_nil ?_
    refine k_condT rfl (by first | rfl | (simp; omega)) ?_
    refine k_seq ?_
    refine k_region ?_
    refine s_run (w_none rfl) rfl (as_i rfl rfl) ?_
    refine l_nil ?_
    refine k_ret ?_
    repeat (first | refine r_then ?_ | refine r_blk ?_)
    exact q_ret (v := .int _ _) rfl rfl ⟨_, rfl, vi (by unfold Mg.leg; (repeat' split) <;> omega), H.under⟩
  · skip
    refine k_region ?_
    refine s_run (w_none rfl) rfl (d_fa rfl rfl tf76_0) ?_
    refine s_run (w_none rfl) rfl (d_ld rfl H rfl ta3 rfl) ?_
    refine s_run (w_none rfl) rfl (d_lt rfl rfl rfl) ?_
    refine s_run (w_none rfl) rfl (mv_bx (c := false) rfl rfl (by first | rfl | (simp; omega))) ?_
    refine s_run (w_g rfl rfl rfl rfl) rfl (d_fa rfl rfl tf76_0) ?_
    refine s_run (w_g rfl rfl rfl rfl) rfl (d_ld rfl H rfl ta3 rfl) ?_
    refine s_run (w_g rfl rfl rfl rfl) rfl (d_gt rfl rfl rfl) ?_
    refine s_run (w_none rfl) rfl (d_pickF rfl rfl rfl) ?_
    refine s_run (w_none rfl) rfl (mv_bx (c := false) rfl rfl (by first | rfl | (simp; omega))) ?_
    refine s_run (w_g rfl rfl rfl rfl) rfl (d_fa rfl rfl tf76_2) ?_
    refine s_run (w_g rfl rfl rfl rfl) rfl (d_ld rfl H rfl ta3 rfl) ?_
    refine s_run (w_g rfl rfl rfl rfl) rfl (d_lt rfl rfl rfl) ?_
    refine s_run (w_none rfl) rfl (d_pickF rfl rfl rfl) ?_
    refine s_run (w_none rfl) rfl (mv_bx (c := false) rfl rfl (by first | rfl | (simp; omega))) ?_
    refine s_run (w_g rfl rfl rfl rfl) rfl (d_fa rfl rfl tf76_2) ?_
    refine s_run (w_g rfl rfl rfl rfl) rfl (d_ld rfl H rfl ta3 rfl) ?_
    refine s_run (w_g rfl rfl rfl rfl) rfl (d_gt rfl rfl rfl) ?_
    refine s_run (w_none rfl) rfl (d_pickF rfl rfl rfl) ?_
    refine l_nil ?_
    refine k_condF rfl (by first | rfl | (simp; omega)) ?_
    refine k_skip ?_
    refine k_seq ?_
    refine k_seq ?_
    rcases (show l.amount < 1 ∨ (1 ≤ l.amount ∧ l.amount ≤ 1125899906842624) ∨ 1125899906842624 < l.amount by omega) with hc | hc | hc
    · skip
      refine k_region ?_
      refine s_run (w_none rfl) rfl (d_fa rfl rfl tf76_1) ?_
      refine s_run (w_none rfl) rfl (d_ld rfl H rfl ta3 rfl) ?_
      refine s_run (w_none rfl) rfl (d_lt rfl rfl rfl) ?_
      refine s_run (w_none rfl) rfl (mv_bx (c := true) rfl rfl (by first | rfl | (simp; omega))) ?_
      refine s_skip (w_gno rfl rfl rfl rfl rfl) rfl ?_
      refine s_skip (w_gno rfl rfl rfl rfl rfl) rfl ?_
      refine s_skip (w_gno rfl rfl rfl rfl rfl) rfl ?_
      refine s_run (w_none rfl) rfl (d_pickT rfl rfl rfl) ?_
      refine l_nil ?_
      refine k_condT rfl (by first | rfl | (simp; omega)) ?_
      refine k_seq ?_
      refine k_region ?_
      refine s_run (w_none rfl) rfl (as_i rfl rfl) ?_
      refine l_nil ?_
      refine k_ret ?_
      repeat (first | refine r_then ?_ | refine r_blk ?_)
      exact q_ret (v := .int _ _) rfl rfl ⟨_, rfl, vi (by unfold Mg.leg; (repeat' split) <;> omega), H.under⟩
    · skip
      refine k_region ?_
      refine s_run (w_none rfl) rfl (d_fa rfl rfl tf76_1) ?_
      refine s_run (w_none rfl) rfl (d_ld rfl H rfl ta3 rfl) ?_
      refine s_run (w_none rfl) rfl (d_lt rfl rfl rfl) ?_
      refine s_run (w_none rfl) rfl (mv_bx (c := false) rfl rfl (by first | rfl | (simp; omega))) ?_
      refine s_run (w_g rfl rfl rfl rfl) rfl (d_fa rfl rfl tf76_1) ?_
      refine s_run (w_g rfl rfl rfl rfl) rfl (d_ld rfl H rfl ta3 rfl) ?_
      refine s_run (w_g rfl rfl rfl rfl) rfl (d_gt rfl rfl rfl) ?_
      refine s_run (w_none rfl) rfl (d_pickF rfl rfl rfl) ?_
      refine l_nil ?_
      refine k_condF rfl (by first | rfl | (simp; omega)) ?_
      refine k_skip ?_
      refine k_seq ?_
      refine k_region ?_
      refine s_run (w_none rfl) rfl (as_i rfl rfl) ?_
      refine l_nil ?_
      refine k_ret ?_
      repeat (first | refine r_then ?_ | refine r_blk ?_)
      exact q_ret (v := .int _ _) rfl rfl ⟨_, rfl, vi (by unfold Mg.leg; (repeat' split) <;> omega), H.under⟩
    · skip
      refine k_region ?_
      refine s_run (w_none rfl) rfl (d_fa rfl rfl tf76_1) ?_
      refine s_run (w_none rfl) rfl (d_ld rfl H rfl ta3 rfl) ?_
      refine s_run (w_none rfl) rfl (d_lt rfl rfl rfl) ?_
      refine s_run (w_none rfl) rfl (mv_bx (c := false) rfl rfl (by first | rfl | (simp; omega))) ?_
      refine s_run (w_g rfl rfl rfl rfl) rfl (d_fa rfl rfl tf76_1) ?_
      refine s_run (w_g rfl rfl rfl rfl) rfl (d_ld rfl H rfl ta3 rfl) ?_
      refine s_run (w_g rfl rfl rfl rfl) rfl (d_gt rfl rfl rfl) ?_
      refine s_run (w_none rfl) rfl (d_pickF rfl rfl rfl) ?_
      refine l_nil ?_
      refine k_condT rfl (by first | rfl | (simp; omega)) ?_
      refine k_seq ?_
      refine k_region ?_
      refine s_run (w_none rfl) rfl (as_i rfl rfl) ?_
      refine l_nil ?_
      refine k_ret ?_
      repeat (first | refine r_then ?_ | refine r_blk ?_)
      exact q_ret (v := .int _ _) rfl rfl ⟨_, rfl, vi (by unfold Mg.leg; (repeat' split) <;> omega), H.under⟩

theorem kindA {n : Int} (w : World) (hn : n = 1 ∨ n = 2) : Calls Tryd.prog 93 [.int .i64 n].toArray w (Ret (fun v w' => ∃ gk, v = .pointer (some ⟨gk, 0, none⟩) ∧ New w w' (Fact.blk gk [.func (.func 111) #[] #[], .func (.func 112) #[] #[], .func (.func 113) #[] #[]] 117))) := by
  refine k_enter (l := [_]) Tryd.func93 rfl rfl ?_
  have H := St.start nT w
  skip
  refine k_seq ?_
  refine k_region ?_
  refine s_run (w_none rfl) rfl (as_p rfl rfl) ?_
  refine l_nil ?_
  refine k_seq ?_
  refine k_seq ?_
  rcases hn with rfl | rfl
  · skip
    refine k_region ?_
    refine s_run (w_none rfl) rfl (mv_i rfl rfl) ?_
    refine l_nil ?_
    refine k_block ?_
    refine k_seq ?_
    refine k_seq ?_
    refine k_region ?_
    refine s_run (w_none rfl) rfl (d_eq rfl rfl rfl) ?_
    refine s_run (w_none rfl) rfl (as_b rfl rfl) ?_
    refine l_nil ?_
    refine k_condT rfl rfl ?_
    refine k_skip ?_
    refine k_condT rfl rfl ?_
    refine k_seq ?_
    refine k_region ?_
    refine s_run (w_none rfl) rfl (d_build (vs := [.func (.func 111) #[] #[], .func (.func 112) #[] #[], .func (.func 113) #[] #[]]) rfl (by kernel_rfl)) ?_
    refine s_eff (e_box (vs := [.func (.func 111) #[] #[], .func (.func 112) #[] #[], .func (.func 113) #[] #[]]) (w_none rfl) rfl rfl rfl rfl H ?_)
    clear H; intro gk W H
    refine s_run (w_none rfl) rfl (as_p rfl rfl) ?_
    refine l_nil ?_
    refine k_ret ?_
    repeat (first | refine r_then ?_ | refine r_blk ?_)
    exact q_ret (v := .pointer _) rfl rfl ⟨_, rfl, gk, rfl, H.give⟩
  · skip
    refine k_region ?_
    refine s_run (w_none rfl) rfl (mv_i rfl rfl) ?_
    refine l_nil ?_
    refine k_block ?_
    refine k_seq ?_
    refine k_seq ?_
    refine k_region ?_
    refine s_run (w_none rfl) rfl (d_eq rfl rfl rfl) ?_
    refine s_run (w_none rfl) rfl (as_b rfl rfl) ?_
    refine l_nil ?_
    refine k_condF rfl rfl ?_
    refine k_region ?_
    refine s_run (w_none rfl) rfl (d_eq rfl rfl rfl) ?_
    refine s_run (w_none rfl) rfl (as_b rfl rfl) ?_
    refine l_nil ?_
    refine k_condT rfl rfl ?_
    refine k_seq ?_
    refine k_region ?_
    refine s_run (w_none rfl) rfl (d_build (vs := [.func (.func 111) #[] #[], .func (.func 112) #[] #[], .func (.func 113) #[] #[]]) rfl (by kernel_rfl)) ?_
    refine s_eff (e_box (vs := [.func (.func 111) #[] #[], .func (.func 112) #[] #[], .func (.func 113) #[] #[]]) (w_none rfl) rfl rfl rfl rfl H ?_)
    clear H; intro gk W H
    refine s_run (w_none rfl) rfl (as_p rfl rfl) ?_
    refine l_nil ?_
    refine k_ret ?_
    repeat (first | refine r_then ?_ | refine r_blk ?_)
    exact q_ret (v := .pointer _) rfl rfl ⟨_, rfl, gk, rfl, H.give⟩

theorem kindB {n : Int} (w : World) (hn : n = 3) : Calls Tryd.prog 93 [.int .i64 n].toArray w (Ret (fun v w' => ∃ gk, v = .pointer (some ⟨gk, 0, none⟩) ∧ New w w' (Fact.blk gk [.func (.func 114) #[] #[], .func (.func 115) #[] #[], .func (.func 116) #[] #[]] 117))) := by
  refine k_enter (l := [_]) Tryd.func93 rfl rfl ?_
  have H := St.start nT w
  subst hn
  refine k_seq ?_
  refine k_region ?_
  refine s_run (w_none rfl) rfl (as_p rfl rfl) ?_
  refine l_nil ?_
  refine k_seq ?_
  refine k_seq ?_
  refine k_region ?_
  refine s_run (w_none rfl) rfl (mv_i rfl rfl) ?_
  refine l_nil ?_
  refine k_block ?_
  refine k_seq ?_
  refine k_seq ?_
  refine k_region ?_
  refine s_run (w_none rfl) rfl (d_eq rfl rfl rfl) ?_
  refine s_run (w_none rfl) rfl (as_b rfl rfl) ?_
  refine l_nil ?_
  refine k_condF rfl rfl ?_
  refine k_region ?_
  refine s_run (w_none rfl) rfl (d_eq rfl rfl rfl) ?_
  refine s_run (w_none rfl) rfl (as_b rfl rfl) ?_
  refine l_nil ?_
  refine k_condF rfl rfl ?_
  refine k_seq ?_
  refine k_region ?_
  refine s_run (w_none rfl) rfl (d_eq rfl rfl rfl) ?_
  refine s_run (w_none rfl) rfl (as_b rfl rfl) ?_
  refine l_nil ?_
  refine k_condT rfl rfl ?_
  refine k_seq ?_
  refine k_region ?_
  refine s_run (w_none rfl) rfl (d_build (vs := [.func (.func 114) #[] #[], .func (.func 115) #[] #[], .func (.func 116) #[] #[]]) rfl (by kernel_rfl)) ?_
  refine s_eff (e_box (vs := [.func (.func 114) #[] #[], .func (.func 115) #[] #[], .func (.func 116) #[] #[]]) (w_none rfl) rfl rfl rfl rfl H ?_)
  clear H; intro gk W H
  refine s_run (w_none rfl) rfl (as_p rfl rfl) ?_
  refine l_nil ?_
  refine k_ret ?_
  repeat (first | refine r_then ?_ | refine r_blk ?_)
  exact q_ret (v := .pointer _) rfl rfl ⟨_, rfl, gk, rfl, H.give⟩

theorem kindC {n : Int} (w : World) (hn : n < 1 ∨ 3 < n) : Calls Tryd.prog 93 [.int .i64 n].toArray w (Ret (Is w (.pointer none))) := by
  refine k_enter (l := [_]) Tryd.func93 rfl rfl ?_
  have H := St.start nT w
  refine k_seq ?_
  refine k_region ?_
  refine s_run (w_none rfl) rfl (as_p rfl rfl) ?_
  refine l_nil ?_
  refine k_seq ?_
  refine k_seq ?_
  refine k_region ?_
  refine s_run (w_none rfl) rfl (mv_i rfl rfl) ?_
  refine l_nil ?_
  refine k_block ?_
  refine k_seq ?_
  refine k_seq ?_
  refine k_region ?_
  refine s_run (w_none rfl) rfl (d_eq rfl rfl rfl) ?_
  refine s_run (w_none rfl) rfl (as_b rfl rfl) ?_
  refine l_nil ?_
  refine k_condF rfl (by simp; omega) ?_
  refine k_region ?_
  refine s_run (w_none rfl) rfl (d_eq rfl rfl rfl) ?_
  refine s_run (w_none rfl) rfl (as_b rfl rfl) ?_
  refine l_nil ?_
  refine k_condF rfl (by simp; omega) ?_
  refine k_seq ?_
  refine k_region ?_
  refine s_run (w_none rfl) rfl (d_eq rfl rfl rfl) ?_
  refine s_run (w_none rfl) rfl (as_b rfl rfl) ?_
  refine l_nil ?_
  refine k_condF rfl (by simp; omega) ?_
  refine k_skip ?_
  refine k_nil ?_
  refine b_end ?_
  refine k_seq ?_
  refine k_region ?_
  refine s_run (w_none rfl) rfl (as_p rfl rfl) ?_
  refine l_nil ?_
  refine k_ret ?_
  repeat (first | refine r_then ?_ | refine r_blk ?_)
  exact q_ret (v := .pointer _) rfl rfl ⟨_, rfl, rfl, H.under⟩

set_option maxHeartbeats 4000000 in
theorem refusalP {m : DMessage} (w : World) (hm : Mg.Ok m) (hk : m.kind = 3) (hi : 1 ≤ m.id ∧ m.id ≤ 1073741824) : Calls Tryd.prog 114 [.agg (msgC m).toArray].toArray w (Ret (Is w (.int .i64 (Mg.chk m)))) := by
  refine k_enter (l := [_]) Tryd.func114 rfl rfl ?_
  have H := St.start nT w
  have hkk : Mg.chk m = if m.code < 1 ∨ 24 < m.code then 1 else if beqMessage m (Mg.bare m) = false then 11 else 0 := by unfold Mg.chk; rw [if_neg (by omega), if_neg (by omega), if_pos hk]
  rw [hkk]
  refine k_seq ?_
  refine k_region ?_
  refine s_eff (e_box (vs := (msgC m)) (w_none rfl) rfl rfl rfl rfl H ?_)
  clear H; intro g0_0 W H
  refine s_run (w_none rfl) rfl (as_i rfl rfl) ?_
  refine l_nil ?_
  refine k_seq ?_
  refine k_block ?_
  refine k_seq ?_
  rcases (show m.code < 1 ∨ (1 ≤ m.code ∧ m.code ≤ 24) ∨ 24 < m.code by omega) with hc | hc | hc
  · rw [if_pos (by omega)]
    refine k_region ?_
    refine s_run (w_none rfl) rfl (d_fa rfl rfl tf78_2) ?_
    refine s_run (w_none rfl) rfl (d_ldX (off := 2) rfl H rfl rfl rfl ta3) ?_
    refine s_run (w_none rfl) rfl (d_lt rfl rfl rfl) ?_
    refine s_run (w_none rfl) rfl (mv_bx (c := true) rfl rfl (by first | rfl | (simp; omega))) ?_
    refine s_skip (w_gno rfl rfl rfl rfl rfl) rfl ?_
    refine s_skip (w_gno rfl rfl rfl rfl rfl) rfl ?_
    refine s_skip (w_gno rfl rfl rfl rfl rfl) rfl ?_
    refine s_run (w_none rfl) rfl (d_pickT rfl rfl rfl) ?_
    refine s_run (w_none rfl) rfl (as_b rfl rfl) ?_
    refine l_nil ?_
    refine k_condT rfl (by first | rfl | (simp; omega)) ?_
    refine k_seq ?_
    refine k_region ?_
    refine s_run (w_none rfl) rfl (as_i rfl rfl) ?_
    refine l_nil ?_
    refine k_ret ?_
    repeat (first | refine r_then ?_ | refine r_blk ?_)
    exact q_ret (v := .int _ _) rfl rfl ⟨_, rfl, rfl, H.under⟩
  · rw [if_neg (by omega)]
    refine k_region ?_
    refine s_run (w_none rfl) rfl (d_fa rfl rfl tf78_2) ?_
    refine s_run (w_none rfl) rfl (d_ldX (off := 2) rfl H rfl rfl rfl ta3) ?_
    refine s_run (w_none rfl) rfl (d_lt rfl rfl rfl) ?_
    refine s_run (w_none rfl) rfl (mv_bx (c := false) rfl rfl (by first | rfl | (simp; omega))) ?_
    refine s_run (w_g rfl rfl rfl rfl) rfl (d_fa rfl rfl tf78_2) ?_
    refine s_run (w_g rfl rfl rfl rfl) rfl (d_ldX (off := 2) rfl H rfl rfl rfl ta3) ?_
    refine s_run (w_g rfl rfl rfl rfl) rfl (d_gt rfl rfl rfl) ?_
    refine s_run (w_none rfl) rfl (d_pickF rfl rfl rfl) ?_
    refine s_run (w_none rfl) rfl (as_b rfl rfl) ?_
    refine l_nil ?_
    refine k_condF rfl (by first | rfl | (simp; omega)) ?_
    refine k_seq ?_
    refine k_region ?_
    refine s_run (w_none rfl) rfl (d_ldXM (off := 0) rfl H (sub_all (len_msg hm.2.2.2.2.2)) (len_msg hm.2.2.2.2.2) rfl rfl rfl ta78 ts78) ?_
    refine s_run (w_none rfl) rfl (d_fa rfl rfl tf78_0) ?_
    refine s_run (w_none rfl) rfl (d_ldX (off := 0) rfl H rfl rfl rfl ta3) ?_
    refine s_run (w_none rfl) rfl (d_fa rfl rfl tf78_1) ?_
    refine s_run (w_none rfl) rfl (d_ldX (off := 1) rfl H rfl rfl rfl ta3) ?_
    refine s_run (w_none rfl) rfl (d_fa rfl rfl tf78_2) ?_
    refine s_run (w_none rfl) rfl (d_ldX (off := 2) rfl H rfl rfl rfl ta3) ?_
    refine s_run (w_none rfl) rfl (d_build (vs := msgC (Mg.bare m)) rfl (by kernel_rfl)) ?_
    refine s_run (w_none rfl) rfl (d_nest (r := beqMessage m (Mg.bare m)) rfl rfl rfl (eq_Message (d := 9997) (msg_rep (W := w) (S := nT) hm) (msg_rep (W := w) (S := nT) (ok_bare hm))) (by kernel_rfl)) ?_
    refine s_run (w_none rfl) rfl (as_b rfl rfl) ?_
    refine l_nil ?_
    refine k_cond rfl (fun hc12 => ?_) (fun hc12 => ?_)
    · have hb : beqMessage m (Mg.bare m) = false := by simpa using hc12
      rw [if_pos hb]
      refine k_seq ?_
      refine k_region ?_
      refine s_run (w_none rfl) rfl (as_i rfl rfl) ?_
      refine l_nil ?_
      refine k_ret ?_
      repeat (first | refine r_then ?_ | refine r_blk ?_)
      exact q_ret (v := .int _ _) rfl rfl ⟨_, rfl, rfl, H.under⟩
    · have hb : beqMessage m (Mg.bare m) = true := by simpa using hc12
      rw [if_neg (by rw [hb]; simp)]
      refine k_skip ?_
      refine k_nil ?_
      refine b_end ?_
      refine k_seq ?_
      refine k_region ?_
      refine s_run (w_none rfl) rfl (as_i rfl rfl) ?_
      refine l_nil ?_
      refine k_ret ?_
      repeat (first | refine r_then ?_ | refine r_blk ?_)
      exact q_ret (v := .int _ _) rfl rfl ⟨_, rfl, rfl, H.under⟩
  · rw [if_pos (by omega)]
    refine k_region ?_
    refine s_run (w_none rfl) rfl (d_fa rfl rfl tf78_2) ?_
    refine s_run (w_none rfl) rfl (d_ldX (off := 2) rfl H rfl rfl rfl ta3) ?_
    refine s_run (w_none rfl) rfl (d_lt rfl rfl rfl) ?_
    refine s_run (w_none rfl) rfl (mv_bx (c := false) rfl rfl (by first | rfl | (simp; omega))) ?_
    refine s_run (w_g rfl rfl rfl rfl) rfl (d_fa rfl rfl tf78_2) ?_
    refine s_run (w_g rfl rfl rfl rfl) rfl (d_ldX (off := 2) rfl H rfl rfl rfl ta3) ?_
    refine s_run (w_g rfl rfl rfl rfl) rfl (d_gt rfl rfl rfl) ?_
    refine s_run (w_none rfl) rfl (d_pickF rfl rfl rfl) ?_
    refine s_run (w_none rfl) rfl (as_b rfl rfl) ?_
    refine l_nil ?_
    refine k_condT rfl (by first | rfl | (simp; omega)) ?_
    refine k_seq ?_
    refine k_region ?_
    refine s_run (w_none rfl) rfl (as_i rfl rfl) ?_
    refine l_nil ?_
    refine k_ret ?_
    repeat (first | refine r_then ?_ | refine r_blk ?_)
    exact q_ret (v := .int _ _) rfl rfl ⟨_, rfl, rfl, H.under⟩

set_option maxHeartbeats 4000000 in
theorem proposalP {m : DMessage} (w : World) (hm : Mg.Ok m) (hk : m.kind = 1 ∨ m.kind = 2) (hi : 1 ≤ m.id ∧ m.id ≤ 1073741824) : Calls Tryd.prog 111 [.agg (msgC m).toArray].toArray w (Ret (Is w (.int .i64 (Mg.chk m)))) := by
  refine k_enter (l := [_]) Tryd.func111 rfl rfl ?_
  have H := St.start nT w
  have hkk : Mg.chk m = if Mg.leg m.pays ≠ 0 then Mg.leg m.pays else if Mg.leg m.gets ≠ 0 then Mg.leg m.gets else if m.pays.whereA = m.gets.whereA then 1 else if m.code ≠ 0 then 11 else 0 := by unfold Mg.chk; rw [if_neg (by omega), if_neg (by omega), if_neg (by omega)]
  rw [hkk]
  refine k_seq ?_
  refine k_region ?_
  refine s_eff (e_box (vs := (msgC m)) (w_none rfl) rfl rfl rfl rfl H ?_)
  clear H; intro g0_0 W H
  refine s_run (w_none rfl) rfl (as_i rfl rfl) ?_
  refine l_nil ?_
  refine k_seq ?_
  refine k_seq ?_
  refine k_region ?_
  refine s_run (w_none rfl) rfl (d_fa rfl rfl tf78_3) ?_
  refine s_run (w_none rfl) rfl (d_ldXM (cs := legC m.pays) (off := 3) rfl H rfl rfl rfl rfl rfl ta76 ts76) ?_
  refine s_run (w_none rfl) rfl (d_fa rfl rfl tf78_4) ?_
  refine s_run (w_none rfl) rfl (d_ldXM (cs := legC m.gets) (off := 6) rfl H rfl rfl rfl rfl rfl ta76 ts76) ?_
  refine s_eff (e_bsl (xs := [.tmp 7, .tmp 9]) (vals := [.agg (legC m.pays).toArray, .agg (legC m.gets).toArray]) (vs := (legC m.pays ++ legC m.gets)) (w_none rfl) rfl rfl rfl rfl rfl rfl tu152 ts76 ty76 rfl rfl rfl H ?_)
  clear H; intro gl W H
  refine s_run (w_none rfl) rfl (d_len rfl rfl tu152) ?_
  refine s_run (w_none rfl) rfl (mv_i rfl rfl) ?_
  refine l_nil ?_
  refine k_block ?_
  refine k_unr (k_one ?_)
  refine k_seq ?_
  refine k_region ?_
  refine s_run (w_none rfl) rfl (d_lt rfl rfl rfl) ?_
  refine l_nil ?_
  refine k_seq ?_
  refine k_condT rfl rfl ?_
  refine k_skip ?_
  refine k_seq ?_
  refine k_block ?_
  refine k_seq ?_
  refine k_region ?_
  refine s_run (w_none rfl) rfl (d_iaS rfl (rd_blk (m := 2) (H.blk (g := gl)) rfl) rfl rfl (q := 0) rfl (by decide) tu152 ts76) ?_
  refine s_run (w_none rfl) rfl (d_ldmR (q := 0) rfl (rd_blk (m := 2) (H.blk (g := gl)) rfl) rfl ta76 ts76 (by decide) (by simp [legC])) ?_
  refine s_eff (e_alloc (w_none rfl) rfl rfl [.int .i64 0, .int .i64 0, .int .i64 0] tz76 H ?_)
  clear H; intro g40 W H
  refine s_eff (e_stoK (legC m.pays) (w_none rfl) rfl rfl rfl rfl rfl ts76 rfl rfl H (by decide) (spl_all (c := [.int .i64 0, .int .i64 0, .int .i64 0]) rfl) ?_)
  clear H; intro W H
  refine l_nil ?_
  refine k_seq ?_
  refine k_region ?_
  refine s_run (w_none rfl) rfl (d_ldm0 (g := g40) rfl H rfl ta76 ts76 rfl) ?_
  refine s_eff (e_call (w_none rfl) rfl rfl Tryd.func62 rfl rfl rfl (legP (l := m.pays) _) ?_)
  rintro _ W ⟨rfl, hb⟩
  replace H := H.below hb
  clear hb
  refine s_run (w_none rfl) rfl (as_i rfl rfl) ?_
  refine l_nil ?_
  refine k_seq ?_
  refine k_region ?_
  refine s_run (w_none rfl) rfl (mv_i rfl rfl) ?_
  refine s_run (w_none rfl) rfl (d_ne rfl rfl rfl) ?_
  refine l_nil ?_
  refine k_cond rfl (fun hc19 => ?_) (fun hc19 => ?_)
  · have hne : Mg.leg m.pays ≠ 0 := by simpa using hc19
    rw [if_pos hne]
    refine k_seq ?_
    refine k_region ?_
    refine s_run (w_none rfl) rfl (mv_i rfl rfl) ?_
    refine s_run (w_none rfl) rfl (as_i rfl rfl) ?_
    refine l_nil ?_
    refine k_ret ?_
    repeat (first | refine r_then ?_ | refine r_blk ?_)
    exact q_ret (v := .int _ _) rfl rfl ⟨_, rfl, rfl, H.under⟩
  · have hne : Mg.leg m.pays = 0 := by simpa using hc19
    rw [if_neg (by simpa using hne)]
    refine k_skip ?_
    refine k_nil ?_
    refine b_end ?_
    refine k_region ?_
    refine s_run (w_none rfl) rfl (d_add rfl rfl rfl (by omega)) ?_
    refine s_run (w_none rfl) rfl (mv_i rfl rfl) ?_
    refine l_nil ?_
    refine k_nil ?_
    refine k_next (hd_of (k_one ?_))
    refine k_seq ?_
    refine k_region ?_
    refine s_run (w_none rfl) rfl (d_lt rfl rfl rfl) ?_
    refine l_nil ?_
    refine k_seq ?_
    refine k_condT rfl rfl ?_
    refine k_skip ?_
    refine k_seq ?_
    refine k_block ?_
    refine k_seq ?_
    refine k_region ?_
    refine s_run (w_none rfl) rfl (d_iaS rfl (rd_blk (m := 2) (H.blk (g := gl)) rfl) rfl rfl (q := 1) rfl (by decide) tu152 ts76) ?_
    refine s_run (w_none rfl) rfl (d_ldmR (q := 1) rfl (rd_blk (m := 2) (H.blk (g := gl)) rfl) rfl ta76 ts76 (by decide) (by simp [legC])) ?_
    refine s_eff (e_alloc (w_none rfl) rfl rfl [.int .i64 0, .int .i64 0, .int .i64 0] tz76 H ?_)
    clear H; intro g41 W H
    refine s_eff (e_stoK (legC m.gets) (w_none rfl) rfl rfl rfl rfl rfl ts76 rfl rfl H (by decide) (spl_all (c := [.int .i64 0, .int .i64 0, .int .i64 0]) rfl) ?_)
    clear H; intro W H
    refine l_nil ?_
    refine k_seq ?_
    refine k_region ?_
    refine s_run (w_none rfl) rfl (d_ldm0 (g := g41) rfl H rfl ta76 ts76 rfl) ?_
    refine s_eff (e_call (w_none rfl) rfl rfl Tryd.func62 rfl rfl rfl (legP (l := m.gets) _) ?_)
    rintro _ W ⟨rfl, hb⟩
    replace H := H.below hb
    clear hb
    refine s_run (w_none rfl) rfl (as_i rfl rfl) ?_
    refine l_nil ?_
    refine k_seq ?_
    refine k_region ?_
    refine s_run (w_none rfl) rfl (mv_i rfl rfl) ?_
    refine s_run (w_none rfl) rfl (d_ne rfl rfl rfl) ?_
    refine l_nil ?_
    refine k_cond rfl (fun hc19 => ?_) (fun hc19 => ?_)
    · have hne : Mg.leg m.gets ≠ 0 := by simpa using hc19
      rw [if_pos hne]
      refine k_seq ?_
      refine k_region ?_
      refine s_run (w_none rfl) rfl (mv_i rfl rfl) ?_
      refine s_run (w_none rfl) rfl (as_i rfl rfl) ?_
      refine l_nil ?_
      refine k_ret ?_
      repeat (first | refine r_then ?_ | refine r_blk ?_)
      exact q_ret (v := .int _ _) rfl rfl ⟨_, rfl, rfl, H.under⟩
    · have hne : Mg.leg m.gets = 0 := by simpa using hc19
      rw [if_neg (by simpa using hne)]
      refine k_skip ?_
      refine k_nil ?_
      refine b_end ?_
      refine k_region ?_
      refine s_run (w_none rfl) rfl (d_add rfl rfl rfl (by omega)) ?_
      refine s_run (w_none rfl) rfl (mv_i rfl rfl) ?_
      refine l_nil ?_
      refine k_nil ?_
      refine k_next (hd_of (k_one ?_))
      refine k_seq ?_
      refine k_region ?_
      refine s_run (w_none rfl) rfl (d_lt rfl rfl rfl) ?_
      refine l_nil ?_
      refine k_seq ?_
      refine k_condF rfl rfl ?_
      refine k_exit ?_
      refine x_then (x_then ?_)
      refine x_hit ?_
      refine k_seq ?_
      refine k_block ?_
      refine k_seq ?_
      refine k_region ?_
      refine s_run (w_none rfl) rfl (d_fa rfl rfl tf78_3) ?_
      refine s_run (w_none rfl) rfl (d_fa rfl rfl tf76_0) ?_
      refine s_run (w_none rfl) rfl (d_ldX (off := 3) rfl H rfl rfl rfl ta3) ?_
      refine s_run (w_none rfl) rfl (d_fa rfl rfl tf78_4) ?_
      refine s_run (w_none rfl) rfl (d_fa rfl rfl tf76_0) ?_
      refine s_run (w_none rfl) rfl (d_ldX (off := 6) rfl H rfl rfl rfl ta3) ?_
      refine s_run (w_none rfl) rfl (d_eq rfl rfl rfl) ?_
      refine s_run (w_none rfl) rfl (as_b rfl rfl) ?_
      refine l_nil ?_
      refine k_cond rfl (fun hc22 => ?_) (fun hc22 => ?_)
      · have he : m.pays.whereA = m.gets.whereA := by simpa using hc22
        rw [if_pos he]
        refine k_seq ?_
        refine k_region ?_
        refine s_run (w_none rfl) rfl (as_i rfl rfl) ?_
        refine l_nil ?_
        refine k_ret ?_
        repeat (first | refine r_then ?_ | refine r_blk ?_)
        exact q_ret (v := .int _ _) rfl rfl ⟨_, rfl, rfl, H.under⟩
      · have he : ¬ m.pays.whereA = m.gets.whereA := by simpa using hc22
        rw [if_neg he]
        refine k_seq ?_
        refine k_region ?_
        refine s_run (w_none rfl) rfl (d_fa rfl rfl tf78_2) ?_
        refine s_run (w_none rfl) rfl (d_ldX (off := 2) rfl H rfl rfl rfl ta3) ?_
        refine s_run (w_none rfl) rfl (d_ne rfl rfl rfl) ?_
        refine s_run (w_none rfl) rfl (as_b rfl rfl) ?_
        refine l_nil ?_
        refine k_cond rfl (fun hc30 => ?_) (fun hc30 => ?_)
        · have he2 : m.code ≠ 0 := by simpa using hc30
          rw [if_pos he2]
          refine k_seq ?_
          refine k_region ?_
          refine s_run (w_none rfl) rfl (as_i rfl rfl) ?_
          refine l_nil ?_
          refine k_ret ?_
          repeat (first | refine r_then ?_ | refine r_blk ?_)
          exact q_ret (v := .int _ _) rfl rfl ⟨_, rfl, rfl, H.under⟩
        · have he2 : m.code = 0 := by simpa using hc30
          rw [if_neg (by simpa using he2)]
          refine k_skip ?_
          refine k_nil ?_
          refine b_end ?_
          refine k_seq ?_
          refine k_region ?_
          refine s_run (w_none rfl) rfl (as_i rfl rfl) ?_
          refine l_nil ?_
          refine k_ret ?_
          repeat (first | refine r_then ?_ | refine r_blk ?_)
          exact q_ret (v := .int _ _) rfl rfl ⟨_, rfl, rfl, H.under⟩

set_option maxHeartbeats 4000000 in
theorem checkP {m : DMessage} (w : World) (hm : Mg.Ok m) : Calls Tryd.prog 61 [.agg (msgC m).toArray].toArray w (Ret (Is w (.int .i64 (Mg.chk m)))) := by
  refine k_enter (l := [_]) Tryd.func61 rfl rfl ?_
  have H := St.start nT w
  refine k_seq ?_
  refine k_region ?_
  refine s_eff (e_box (vs := (msgC m)) (w_none rfl) rfl rfl rfl rfl H ?_)
  clear H; intro gm W H
  refine s_run (w_none rfl) rfl (as_i rfl rfl) ?_
  refine l_nil ?_
  refine k_seq ?_
  rcases (show (m.kind < 1 ∨ 3 < m.kind) ∨ (m.kind = 1 ∨ m.kind = 2) ∨ m.kind = 3 by omega) with hk | hk | hk
  · have hkk : Mg.chk m = 2 := by unfold Mg.chk; rw [if_pos hk]
    rw [hkk]
    refine k_region ?_
    refine s_run (w_none rfl) rfl (d_fa rfl rfl tf78_0) ?_
    refine s_run (w_none rfl) rfl (d_ldX (off := 0) rfl H rfl rfl rfl ta3) ?_
    refine s_eff (e_call (w_none rfl) rfl rfl Tryd.func93 rfl rfl rfl (kindC _ hk) ?_)
    rintro _ W ⟨rfl, hb⟩
    replace H := H.below hb
    clear hb
    refine s_run (w_none rfl) rfl (as_p rfl rfl) ?_
    refine l_nil ?_
    refine k_seq ?_
    refine k_block ?_
    refine k_seq ?_
    refine k_region ?_
    refine s_run (w_none rfl) rfl (mv_p rfl rfl) ?_
    refine s_run (w_none rfl) rfl (d_eqpn rfl rfl rfl (by kernel_rfl)) ?_
    refine s_run (w_none rfl) rfl (as_b rfl rfl) ?_
    refine l_nil ?_
    refine k_condT rfl (by first | rfl | (simp; omega)) ?_
    refine k_seq ?_
    refine k_region ?_
    refine s_run (w_none rfl) rfl (as_i rfl rfl) ?_
    refine l_nil ?_
    refine k_ret ?_
    repeat (first | refine r_then ?_ | refine r_blk ?_)
    exact q_ret (v := .int _ _) rfl rfl ⟨_, rfl, rfl, H.under⟩
  · skip
    refine k_region ?_
    refine s_run (w_none rfl) rfl (d_fa rfl rfl tf78_0) ?_
    refine s_run (w_none rfl) rfl (d_ldX (off := 0) rfl H rfl rfl rfl ta3) ?_
    refine s_eff (e_call (w_none rfl) rfl rfl Tryd.func93 rfl rfl rfl (kindA _ hk) ?_)
    rintro _ W ⟨gk, rfl, hnk⟩
    replace H := H.new hnk
    clear hnk
    refine s_run (w_none rfl) rfl (as_p rfl rfl) ?_
    refine l_nil ?_
    refine k_seq ?_
    refine k_block ?_
    refine k_seq ?_
    refine k_region ?_
    refine s_run (w_none rfl) rfl (mv_p rfl rfl) ?_
    refine s_run (w_none rfl) rfl (d_eqpn rfl rfl rfl (by kernel_rfl)) ?_
    refine s_run (w_none rfl) rfl (as_b rfl rfl) ?_
    refine l_nil ?_
    refine k_condF rfl (by first | rfl | (simp; omega)) ?_
    refine k_seq ?_
    rcases (show m.id < 1 ∨ (1 ≤ m.id ∧ m.id ≤ 1073741824) ∨ 1073741824 < m.id by omega) with hi | hi | hi
    · have hkk : Mg.chk m = 1 := by unfold Mg.chk; rw [if_neg (by omega), if_pos (by omega)]
      rw [hkk]
      refine k_region ?_
      refine s_run (w_none rfl) rfl (d_fa rfl rfl tf78_1) ?_
      refine s_run (w_none rfl) rfl (d_ldX (off := 1) rfl H rfl rfl rfl ta3) ?_
      refine s_run (w_none rfl) rfl (d_lt rfl rfl rfl) ?_
      refine s_run (w_none rfl) rfl (mv_bx (c := true) rfl rfl (by first | rfl | (simp; omega))) ?_
      refine s_skip (w_gno rfl rfl rfl rfl rfl) rfl ?_
      refine s_skip (w_gno rfl rfl rfl rfl rfl) rfl ?_
      refine s_skip (w_gno rfl rfl rfl rfl rfl) rfl ?_
      refine s_run (w_none rfl) rfl (d_pickT rfl rfl rfl) ?_
      refine s_run (w_none rfl) rfl (as_b rfl rfl) ?_
      refine l_nil ?_
      refine k_condT rfl (by first | rfl | (simp; omega)) ?_
      refine k_seq ?_
      refine k_region ?_
      refine s_run (w_none rfl) rfl (as_i rfl rfl) ?_
      refine l_nil ?_
      refine k_ret ?_
      repeat (first | refine r_then ?_ | refine r_blk ?_)
      exact q_ret (v := .int _ _) rfl rfl ⟨_, rfl, rfl, H.under⟩
    · skip
      refine k_region ?_
      refine s_run (w_none rfl) rfl (d_fa rfl rfl tf78_1) ?_
      refine s_run (w_none rfl) rfl (d_ldX (off := 1) rfl H rfl rfl rfl ta3) ?_
      refine s_run (w_none rfl) rfl (d_lt rfl rfl rfl) ?_
      refine s_run (w_none rfl) rfl (mv_bx (c := false) rfl rfl (by first | rfl | (simp; omega))) ?_
      refine s_run (w_g rfl rfl rfl rfl) rfl (d_fa rfl rfl tf78_1) ?_
      refine s_run (w_g rfl rfl rfl rfl) rfl (d_ldX (off := 1) rfl H rfl rfl rfl ta3) ?_
      refine s_run (w_g rfl rfl rfl rfl) rfl (d_gt rfl rfl rfl) ?_
      refine s_run (w_none rfl) rfl (d_pickF rfl rfl rfl) ?_
      refine s_run (w_none rfl) rfl (as_b rfl rfl) ?_
      refine l_nil ?_
      refine k_condF rfl (by first | rfl | (simp; omega)) ?_
      refine k_skip ?_
      refine k_nil ?_
      refine b_end ?_
      refine k_seq ?_
      refine k_draw [(0, true), (1, true), (2, true), (3, true), (4, true), (5, false), (6, true)] _ (by kernel_rfl) (by kernel_rfl) H (.refl _) ?_
      clear H; intro W H
      refine c_run rfl (w_none rfl) rfl (fun W H => mv_p rfl rfl) ?_
      refine c_run rfl (w_none rfl) rfl (fun W H => d_nil rfl rfl) ?_
      refine c_run rfl (w_none rfl) rfl (fun W H => d_fa (c := 0) rfl rfl tf117_0) ?_
      refine c_run rfl (w_none rfl) rfl (fun W H => d_ld (g := gk) rfl H rfl ta81 rfl) ?_
      refine c_run rfl (w_none rfl) rfl (fun W H => d_ldXM (g := gm) (off := 0) rfl H (sub_all (len_msg hm.2.2.2.2.2)) (len_msg hm.2.2.2.2.2) rfl rfl rfl ta78 ts78) ?_
      refine c_eff rfl (e_callv (w_none rfl) rfl rfl rfl Tryd.func111 rfl rfl rfl (proposalP _ hm hk hi) ?_)
      rintro _ W ⟨rfl, hb⟩
      replace H := H.below hb
      clear hb
      refine ⟨H.sub (by repeat (first | exact List.Sublist.refl _ | exact List.nil_sublist _ | refine List.Sublist.cons_cons _ ?_ | refine List.Sublist.cons _ ?_)), ?_⟩
      refine c_run rfl (w_none rfl) rfl (fun W H => as_i rfl rfl) ?_
      refine c_nil ?_
      refine k_ret ?_
      repeat (first | refine r_then ?_ | refine r_blk ?_)
      exact q_ret (v := .int _ _) rfl rfl ⟨_, rfl, rfl, H.under⟩
    · have hkk : Mg.chk m = 1 := by unfold Mg.chk; rw [if_neg (by omega), if_pos (by omega)]
      rw [hkk]
      refine k_region ?_
      refine s_run (w_none rfl) rfl (d_fa rfl rfl tf78_1) ?_
      refine s_run (w_none rfl) rfl (d_ldX (off := 1) rfl H rfl rfl rfl ta3) ?_
      refine s_run (w_none rfl) rfl (d_lt rfl rfl rfl) ?_
      refine s_run (w_none rfl) rfl (mv_bx (c := false) rfl rfl (by first | rfl | (simp; omega))) ?_
      refine s_run (w_g rfl rfl rfl rfl) rfl (d_fa rfl rfl tf78_1) ?_
      refine s_run (w_g rfl rfl rfl rfl) rfl (d_ldX (off := 1) rfl H rfl rfl rfl ta3) ?_
      refine s_run (w_g rfl rfl rfl rfl) rfl (d_gt rfl rfl rfl) ?_
      refine s_run (w_none rfl) rfl (d_pickF rfl rfl rfl) ?_
      refine s_run (w_none rfl) rfl (as_b rfl rfl) ?_
      refine l_nil ?_
      refine k_condT rfl (by first | rfl | (simp; omega)) ?_
      refine k_seq ?_
      refine k_region ?_
      refine s_run (w_none rfl) rfl (as_i rfl rfl) ?_
      refine l_nil ?_
      refine k_ret ?_
      repeat (first | refine r_then ?_ | refine r_blk ?_)
      exact q_ret (v := .int _ _) rfl rfl ⟨_, rfl, rfl, H.under⟩
  · skip
    refine k_region ?_
    refine s_run (w_none rfl) rfl (d_fa rfl rfl tf78_0) ?_
    refine s_run (w_none rfl) rfl (d_ldX (off := 0) rfl H rfl rfl rfl ta3) ?_
    refine s_eff (e_call (w_none rfl) rfl rfl Tryd.func93 rfl rfl rfl (kindB _ hk) ?_)
    rintro _ W ⟨gk, rfl, hnk⟩
    replace H := H.new hnk
    clear hnk
    refine s_run (w_none rfl) rfl (as_p rfl rfl) ?_
    refine l_nil ?_
    refine k_seq ?_
    refine k_block ?_
    refine k_seq ?_
    refine k_region ?_
    refine s_run (w_none rfl) rfl (mv_p rfl rfl) ?_
    refine s_run (w_none rfl) rfl (d_eqpn rfl rfl rfl (by kernel_rfl)) ?_
    refine s_run (w_none rfl) rfl (as_b rfl rfl) ?_
    refine l_nil ?_
    refine k_condF rfl (by first | rfl | (simp; omega)) ?_
    refine k_seq ?_
    rcases (show m.id < 1 ∨ (1 ≤ m.id ∧ m.id ≤ 1073741824) ∨ 1073741824 < m.id by omega) with hi | hi | hi
    · have hkk : Mg.chk m = 1 := by unfold Mg.chk; rw [if_neg (by omega), if_pos (by omega)]
      rw [hkk]
      refine k_region ?_
      refine s_run (w_none rfl) rfl (d_fa rfl rfl tf78_1) ?_
      refine s_run (w_none rfl) rfl (d_ldX (off := 1) rfl H rfl rfl rfl ta3) ?_
      refine s_run (w_none rfl) rfl (d_lt rfl rfl rfl) ?_
      refine s_run (w_none rfl) rfl (mv_bx (c := true) rfl rfl (by first | rfl | (simp; omega))) ?_
      refine s_skip (w_gno rfl rfl rfl rfl rfl) rfl ?_
      refine s_skip (w_gno rfl rfl rfl rfl rfl) rfl ?_
      refine s_skip (w_gno rfl rfl rfl rfl rfl) rfl ?_
      refine s_run (w_none rfl) rfl (d_pickT rfl rfl rfl) ?_
      refine s_run (w_none rfl) rfl (as_b rfl rfl) ?_
      refine l_nil ?_
      refine k_condT rfl (by first | rfl | (simp; omega)) ?_
      refine k_seq ?_
      refine k_region ?_
      refine s_run (w_none rfl) rfl (as_i rfl rfl) ?_
      refine l_nil ?_
      refine k_ret ?_
      repeat (first | refine r_then ?_ | refine r_blk ?_)
      exact q_ret (v := .int _ _) rfl rfl ⟨_, rfl, rfl, H.under⟩
    · skip
      refine k_region ?_
      refine s_run (w_none rfl) rfl (d_fa rfl rfl tf78_1) ?_
      refine s_run (w_none rfl) rfl (d_ldX (off := 1) rfl H rfl rfl rfl ta3) ?_
      refine s_run (w_none rfl) rfl (d_lt rfl rfl rfl) ?_
      refine s_run (w_none rfl) rfl (mv_bx (c := false) rfl rfl (by first | rfl | (simp; omega))) ?_
      refine s_run (w_g rfl rfl rfl rfl) rfl (d_fa rfl rfl tf78_1) ?_
      refine s_run (w_g rfl rfl rfl rfl) rfl (d_ldX (off := 1) rfl H rfl rfl rfl ta3) ?_
      refine s_run (w_g rfl rfl rfl rfl) rfl (d_gt rfl rfl rfl) ?_
      refine s_run (w_none rfl) rfl (d_pickF rfl rfl rfl) ?_
      refine s_run (w_none rfl) rfl (as_b rfl rfl) ?_
      refine l_nil ?_
      refine k_condF rfl (by first | rfl | (simp; omega)) ?_
      refine k_skip ?_
      refine k_nil ?_
      refine b_end ?_
      refine k_seq ?_
      refine k_draw [(0, true), (1, true), (2, true), (3, true), (4, true), (5, false), (6, true)] _ (by kernel_rfl) (by kernel_rfl) H (.refl _) ?_
      clear H; intro W H
      refine c_run rfl (w_none rfl) rfl (fun W H => mv_p rfl rfl) ?_
      refine c_run rfl (w_none rfl) rfl (fun W H => d_nil rfl rfl) ?_
      refine c_run rfl (w_none rfl) rfl (fun W H => d_fa (c := 0) rfl rfl tf117_0) ?_
      refine c_run rfl (w_none rfl) rfl (fun W H => d_ld (g := gk) rfl H rfl ta81 rfl) ?_
      refine c_run rfl (w_none rfl) rfl (fun W H => d_ldXM (g := gm) (off := 0) rfl H (sub_all (len_msg hm.2.2.2.2.2)) (len_msg hm.2.2.2.2.2) rfl rfl rfl ta78 ts78) ?_
      refine c_eff rfl (e_callv (w_none rfl) rfl rfl rfl Tryd.func114 rfl rfl rfl (refusalP _ hm hk hi) ?_)
      rintro _ W ⟨rfl, hb⟩
      replace H := H.below hb
      clear hb
      refine ⟨H.sub (by repeat (first | exact List.Sublist.refl _ | exact List.nil_sublist _ | refine List.Sublist.cons_cons _ ?_ | refine List.Sublist.cons _ ?_)), ?_⟩
      refine c_run rfl (w_none rfl) rfl (fun W H => as_i rfl rfl) ?_
      refine c_nil ?_
      refine k_ret ?_
      repeat (first | refine r_then ?_ | refine r_blk ?_)
      exact q_ret (v := .int _ _) rfl rfl ⟨_, rfl, rfl, H.under⟩
    · have hkk : Mg.chk m = 1 := by unfold Mg.chk; rw [if_neg (by omega), if_pos (by omega)]
      rw [hkk]
      refine k_region ?_
      refine s_run (w_none rfl) rfl (d_fa rfl rfl tf78_1) ?_
      refine s_run (w_none rfl) rfl (d_ldX (off := 1) rfl H rfl rfl rfl ta3) ?_
      refine s_run (w_none rfl) rfl (d_lt rfl rfl rfl) ?_
      refine s_run (w_none rfl) rfl (mv_bx (c := false) rfl rfl (by first | rfl | (simp; omega))) ?_
      refine s_run (w_g rfl rfl rfl rfl) rfl (d_fa rfl rfl tf78_1) ?_
      refine s_run (w_g rfl rfl rfl rfl) rfl (d_ldX (off := 1) rfl H rfl rfl rfl ta3) ?_
      refine s_run (w_g rfl rfl rfl rfl) rfl (d_gt rfl rfl rfl) ?_
      refine s_run (w_none rfl) rfl (d_pickF rfl rfl rfl) ?_
      refine s_run (w_none rfl) rfl (as_b rfl rfl) ?_
      refine l_nil ?_
      refine k_condT rfl (by first | rfl | (simp; omega)) ?_
      refine k_seq ?_
      refine k_region ?_
      refine s_run (w_none rfl) rfl (as_i rfl rfl) ?_
      refine l_nil ?_
      refine k_ret ?_
      repeat (first | refine r_then ?_ | refine r_blk ?_)
      exact q_ret (v := .int _ _) rfl rfl ⟨_, rfl, rfl, H.under⟩

set_option maxHeartbeats 4000000 in
theorem checkR {m : DMessage} (w : World) (hm : Mg.Ok m) : Calls Tryd.prog 94 [.agg (msgC m).toArray].toArray w (Ret (Is w (.int .i64 (Mg.chk m)))) := by
  refine k_enter (l := [_]) Tryd.func94 rfl rfl ?_
  have H := St.start nT w
  refine k_seq ?_
  refine k_region ?_
  refine s_eff (e_box (vs := (msgC m)) (w_none rfl) rfl rfl rfl rfl H ?_)
  clear H; intro gm W H
  refine s_run (w_none rfl) rfl (as_i rfl rfl) ?_
  refine l_nil ?_
  refine k_seq ?_
  refine k_seq ?_
  rcases (show m.kind < 1 ∨ (1 ≤ m.kind ∧ m.kind ≤ 3) ∨ 3 < m.kind by omega) with hk | hk | hk
  · have hkk : Mg.chk m = 2 := by unfold Mg.chk; rw [if_pos (by omega)]
    rw [hkk]
    refine k_region ?_
    refine s_run (w_none rfl) rfl (d_fa rfl rfl tf78_0) ?_
    refine s_run (w_none rfl) rfl (d_ldX (off := 0) rfl H rfl rfl rfl ta3) ?_
    refine s_run (w_none rfl) rfl (d_lt rfl rfl rfl) ?_
    refine s_run (w_none rfl) rfl (mv_bx (c := true) rfl rfl (by first | rfl | (simp; omega))) ?_
    refine s_skip (w_gno rfl rfl rfl rfl rfl) rfl ?_
    refine s_skip (w_gno rfl rfl rfl rfl rfl) rfl ?_
    refine s_skip (w_gno rfl rfl rfl rfl rfl) rfl ?_
    refine s_run (w_none rfl) rfl (d_pickT rfl rfl rfl) ?_
    refine l_nil ?_
    refine k_condT rfl (by first | rfl | (simp; omega)) ?_
    refine k_seq ?_
    refine k_region ?_
    refine s_run (w_none rfl) rfl (as_i rfl rfl) ?_
    refine l_nil ?_
    refine k_ret ?_
    repeat (first | refine r_then ?_ | refine r_blk ?_)
    exact q_ret (v := .int _ _) rfl rfl ⟨_, rfl, rfl, H.under⟩
  · skip
    refine k_region ?_
    refine s_run (w_none rfl) rfl (d_fa rfl rfl tf78_0) ?_
    refine s_run (w_none rfl) rfl (d_ldX (off := 0) rfl H rfl rfl rfl ta3) ?_
    refine s_run (w_none rfl) rfl (d_lt rfl rfl rfl) ?_
    refine s_run (w_none rfl) rfl (mv_bx (c := false) rfl rfl (by first | rfl | (simp; omega))) ?_
    refine s_run (w_g rfl rfl rfl rfl) rfl (d_fa rfl rfl tf78_0) ?_
    refine s_run (w_g rfl rfl rfl rfl) rfl (d_ldX (off := 0) rfl H rfl rfl rfl ta3) ?_
    refine s_run (w_g rfl rfl rfl rfl) rfl (d_gt rfl rfl rfl) ?_
    refine s_run (w_none rfl) rfl (d_pickF rfl rfl rfl) ?_
    refine l_nil ?_
    refine k_condF rfl (by first | rfl | (simp; omega)) ?_
    refine k_skip ?_
    refine k_seq ?_
    refine k_seq ?_
    rcases (show m.id < 1 ∨ (1 ≤ m.id ∧ m.id ≤ 1073741824) ∨ 1073741824 < m.id by omega) with hi | hi | hi
    · have hkk : Mg.chk m = 1 := by unfold Mg.chk; rw [if_neg (by omega), if_pos (by omega)]
      rw [hkk]
      refine k_region ?_
      refine s_run (w_none rfl) rfl (d_fa rfl rfl tf78_1) ?_
      refine s_run (w_none rfl) rfl (d_ldX (off := 1) rfl H rfl rfl rfl ta3) ?_
      refine s_run (w_none rfl) rfl (d_lt rfl rfl rfl) ?_
      refine s_run (w_none rfl) rfl (mv_bx (c := true) rfl rfl (by first | rfl | (simp; omega))) ?_
      refine s_skip (w_gno rfl rfl rfl rfl rfl) rfl ?_
      refine s_skip (w_gno rfl rfl rfl rfl rfl) rfl ?_
      refine s_skip (w_gno rfl rfl rfl rfl rfl) rfl ?_
      refine s_run (w_none rfl) rfl (d_pickT rfl rfl rfl) ?_
      refine l_nil ?_
      refine k_condT rfl (by first | rfl | (simp; omega)) ?_
      refine k_seq ?_
      refine k_region ?_
      refine s_run (w_none rfl) rfl (as_i rfl rfl) ?_
      refine l_nil ?_
      refine k_ret ?_
      repeat (first | refine r_then ?_ | refine r_blk ?_)
      exact q_ret (v := .int _ _) rfl rfl ⟨_, rfl, rfl, H.under⟩
    · skip
      refine k_region ?_
      refine s_run (w_none rfl) rfl (d_fa rfl rfl tf78_1) ?_
      refine s_run (w_none rfl) rfl (d_ldX (off := 1) rfl H rfl rfl rfl ta3) ?_
      refine s_run (w_none rfl) rfl (d_lt rfl rfl rfl) ?_
      refine s_run (w_none rfl) rfl (mv_bx (c := false) rfl rfl (by first | rfl | (simp; omega))) ?_
      refine s_run (w_g rfl rfl rfl rfl) rfl (d_fa rfl rfl tf78_1) ?_
      refine s_run (w_g rfl rfl rfl rfl) rfl (d_ldX (off := 1) rfl H rfl rfl rfl ta3) ?_
      refine s_run (w_g rfl rfl rfl rfl) rfl (d_gt rfl rfl rfl) ?_
      refine s_run (w_none rfl) rfl (d_pickF rfl rfl rfl) ?_
      refine l_nil ?_
      refine k_condF rfl (by first | rfl | (simp; omega)) ?_
      refine k_skip ?_
      refine k_seq ?_
      refine k_region ?_
      refine s_run (w_none rfl) rfl (d_fa rfl rfl tf78_0) ?_
      refine s_run (w_none rfl) rfl (d_ldX (off := 0) rfl H rfl rfl rfl ta3) ?_
      refine s_run (w_none rfl) rfl (d_fa rfl rfl tf78_1) ?_
      refine s_run (w_none rfl) rfl (d_ldX (off := 1) rfl H rfl rfl rfl ta3) ?_
      refine s_run (w_none rfl) rfl (d_fa rfl rfl tf78_2) ?_
      refine s_run (w_none rfl) rfl (d_ldX (off := 2) rfl H rfl rfl rfl ta3) ?_
      refine s_run (w_none rfl) rfl (d_build (vs := msgC (Mg.bare m)) rfl (by kernel_rfl)) ?_
      refine s_eff (e_alloc (w_none rfl) rfl rfl (msgC Mg.zero) (by kernel_rfl) H ?_)
      clear H; intro gz W H
      refine s_eff (e_stoK (msgC (Mg.bare m)) (w_none rfl) rfl rfl rfl rfl rfl ts78 (len_msg List.length_replicate) msg_one H (by rw [len_msg List.length_replicate]; decide) (spl_all (by rw [len_msg List.length_replicate, len_msg List.length_replicate])) ?_)
      clear H; intro W H
      refine l_nil ?_
      refine k_seq ?_
      refine k_seq ?_
      refine k_region ?_
      refine s_run (w_none rfl) rfl (d_fa rfl rfl tf78_0) ?_
      refine s_run (w_none rfl) rfl (d_ldX (off := 0) rfl H rfl rfl rfl ta3) ?_
      refine s_run (w_none rfl) rfl (d_eq rfl rfl rfl) ?_
      refine l_nil ?_
      refine k_cond rfl (fun hc30 => ?_) (fun hc30 => ?_)
      · have hk3 : m.kind = 3 := by simpa using hc30
        have hkk : Mg.chk m = if m.code < 1 ∨ 24 < m.code then 1 else if beqMessage m (Mg.bare m) = false then 11 else 0 := by unfold Mg.chk; rw [if_neg (by omega), if_neg (by omega), if_pos hk3]
        rw [hkk]
        refine k_seq ?_
        refine k_seq ?_
        rcases (show m.code < 1 ∨ (1 ≤ m.code ∧ m.code ≤ 24) ∨ 24 < m.code by omega) with hc | hc | hc
        · rw [if_pos (by omega)]
          refine k_region ?_
          refine s_run (w_none rfl) rfl (d_fa rfl rfl tf78_2) ?_
          refine s_run (w_none rfl) rfl (d_ldX (off := 2) rfl H rfl rfl rfl ta3) ?_
          refine s_run (w_none rfl) rfl (d_lt rfl rfl rfl) ?_
          refine s_run (w_none rfl) rfl (mv_bx (c := true) rfl rfl (by first | rfl | (simp; omega))) ?_
          refine s_skip (w_gno rfl rfl rfl rfl rfl) rfl ?_
          refine s_skip (w_gno rfl rfl rfl rfl rfl) rfl ?_
          refine s_skip (w_gno rfl rfl rfl rfl rfl) rfl ?_
          refine s_run (w_none rfl) rfl (d_pickT rfl rfl rfl) ?_
          refine l_nil ?_
          refine k_condT rfl (by first | rfl | (simp; omega)) ?_
          refine k_seq ?_
          refine k_region ?_
          refine s_run (w_none rfl) rfl (as_i rfl rfl) ?_
          refine l_nil ?_
          refine k_ret ?_
          repeat (first | refine r_then ?_ | refine r_blk ?_)
          exact q_ret (v := .int _ _) rfl rfl ⟨_, rfl, rfl, H.under⟩
        · rw [if_neg (by omega)]
          refine k_region ?_
          refine s_run (w_none rfl) rfl (d_fa rfl rfl tf78_2) ?_
          refine s_run (w_none rfl) rfl (d_ldX (off := 2) rfl H rfl rfl rfl ta3) ?_
          refine s_run (w_none rfl) rfl (d_lt rfl rfl rfl) ?_
          refine s_run (w_none rfl) rfl (mv_bx (c := false) rfl rfl (by first | rfl | (simp; omega))) ?_
          refine s_run (w_g rfl rfl rfl rfl) rfl (d_fa rfl rfl tf78_2) ?_
          refine s_run (w_g rfl rfl rfl rfl) rfl (d_ldX (off := 2) rfl H rfl rfl rfl ta3) ?_
          refine s_run (w_g rfl rfl rfl rfl) rfl (d_gt rfl rfl rfl) ?_
          refine s_run (w_none rfl) rfl (d_pickF rfl rfl rfl) ?_
          refine l_nil ?_
          refine k_condF rfl (by first | rfl | (simp; omega)) ?_
          refine k_skip ?_
          refine k_seq ?_
          refine k_seq ?_
          refine k_region ?_
          refine s_run (w_none rfl) rfl (d_ldXM (g := gm) (off := 0) rfl H (sub_all (len_msg hm.2.2.2.2.2)) (len_msg hm.2.2.2.2.2) rfl rfl rfl ta78 ts78) ?_
          refine s_run (w_none rfl) rfl (d_ldm0 (g := gz) rfl H rfl ta78 ts78 (len_msg List.length_replicate)) ?_
          refine s_run (w_none rfl) rfl (d_nest (r := beqMessage m (Mg.bare m)) rfl rfl rfl (eq_Message (d := 9997) (msg_rep (W := w) (S := nT) hm) (msg_rep (W := w) (S := nT) (ok_bare hm))) (by kernel_rfl)) ?_
          refine l_nil ?_
          refine k_cond rfl (fun hc41 => ?_) (fun hc41 => ?_)
          · have hb : beqMessage m (Mg.bare m) = false := by simpa using hc41
            rw [if_pos hb]
            refine k_seq ?_
            refine k_region ?_
            refine s_run (w_none rfl) rfl (as_i rfl rfl) ?_
            refine l_nil ?_
            refine k_ret ?_
            repeat (first | refine r_then ?_ | refine r_blk ?_)
            exact q_ret (v := .int _ _) rfl rfl ⟨_, rfl, rfl, H.under⟩
          · have hb : beqMessage m (Mg.bare m) = true := by simpa using hc41
            rw [if_neg (by rw [hb]; simp)]
            refine k_skip ?_
            refine k_seq ?_
            refine k_region ?_
            refine s_run (w_none rfl) rfl (as_i rfl rfl) ?_
            refine l_nil ?_
            refine k_ret ?_
            repeat (first | refine r_then ?_ | refine r_blk ?_)
            exact q_ret (v := .int _ _) rfl rfl ⟨_, rfl, rfl, H.under⟩
        · rw [if_pos (by omega)]
          refine k_region ?_
          refine s_run (w_none rfl) rfl (d_fa rfl rfl tf78_2) ?_
          refine s_run (w_none rfl) rfl (d_ldX (off := 2) rfl H rfl rfl rfl ta3) ?_
          refine s_run (w_none rfl) rfl (d_lt rfl rfl rfl) ?_
          refine s_run (w_none rfl) rfl (mv_bx (c := false) rfl rfl (by first | rfl | (simp; omega))) ?_
          refine s_run (w_g rfl rfl rfl rfl) rfl (d_fa rfl rfl tf78_2) ?_
          refine s_run (w_g rfl rfl rfl rfl) rfl (d_ldX (off := 2) rfl H rfl rfl rfl ta3) ?_
          refine s_run (w_g rfl rfl rfl rfl) rfl (d_gt rfl rfl rfl) ?_
          refine s_run (w_none rfl) rfl (d_pickF rfl rfl rfl) ?_
          refine l_nil ?_
          refine k_condT rfl (by first | rfl | (simp; omega)) ?_
          refine k_seq ?_
          refine k_region ?_
          refine s_run (w_none rfl) rfl (as_i rfl rfl) ?_
          refine l_nil ?_
          refine k_ret ?_
          repeat (first | refine r_then ?_ | refine r_blk ?_)
          exact q_ret (v := .int _ _) rfl rfl ⟨_, rfl, rfl, H.under⟩
      · have hk3 : ¬ m.kind = 3 := by simpa using hc30
        have hkk : Mg.chk m = if Mg.leg m.pays ≠ 0 then Mg.leg m.pays else if Mg.leg m.gets ≠ 0 then Mg.leg m.gets else if m.pays.whereA = m.gets.whereA then 1 else if m.code ≠ 0 then 11 else 0 := by unfold Mg.chk; rw [if_neg (by omega), if_neg (by omega), if_neg (by omega)]
        rw [hkk]
        refine k_skip ?_
        refine k_seq ?_
        refine k_region ?_
        refine s_run (w_none rfl) rfl (d_fa rfl rfl tf78_3) ?_
        refine s_run (w_none rfl) rfl (d_ldXM (g := gm) (cs := legC m.pays) (off := 3) rfl H rfl rfl rfl rfl rfl ta76 ts76) ?_
        refine s_eff (e_call (w_none rfl) rfl rfl Tryd.func63 rfl rfl rfl (legR (l := m.pays) _) ?_)
        rintro _ W ⟨rfl, hb⟩
        replace H := H.below hb
        clear hb
        refine s_run (w_none rfl) rfl (as_i rfl rfl) ?_
        refine l_nil ?_
        refine k_seq ?_
        refine k_seq ?_
        refine k_region ?_
        refine s_run (w_none rfl) rfl (mv_i rfl rfl) ?_
        refine s_run (w_none rfl) rfl (d_eq rfl rfl rfl) ?_
        refine l_nil ?_
        refine k_cond rfl (fun hc46 => ?_) (fun hc46 => ?_)
        · have hne : Mg.leg m.pays = 0 := by simpa using hc46
          rw [if_neg (by simpa using hne)]
          refine k_region ?_
          refine s_run (w_none rfl) rfl (d_fa rfl rfl tf78_4) ?_
          refine s_run (w_none rfl) rfl (d_ldXM (g := gm) (cs := legC m.gets) (off := 6) rfl H rfl rfl rfl rfl rfl ta76 ts76) ?_
          refine s_eff (e_call (w_none rfl) rfl rfl Tryd.func63 rfl rfl rfl (legR (l := m.gets) _) ?_)
          rintro _ W ⟨rfl, hb⟩
          replace H := H.below hb
          clear hb
          refine s_run (w_none rfl) rfl (as_i rfl rfl) ?_
          refine l_nil ?_
          refine k_seq ?_
          refine k_seq ?_
          refine k_region ?_
          refine s_run (w_none rfl) rfl (mv_i rfl rfl) ?_
          refine s_run (w_none rfl) rfl (d_ne rfl rfl rfl) ?_
          refine l_nil ?_
          refine k_cond rfl (fun hc51 => ?_) (fun hc51 => ?_)
          · have hne : Mg.leg m.gets ≠ 0 := by simpa using hc51
            rw [if_pos hne]
            refine k_seq ?_
            refine k_region ?_
            refine s_run (w_none rfl) rfl (mv_i rfl rfl) ?_
            refine s_run (w_none rfl) rfl (as_i rfl rfl) ?_
            refine l_nil ?_
            refine k_ret ?_
            repeat (first | refine r_then ?_ | refine r_blk ?_)
            exact q_ret (v := .int _ _) rfl rfl ⟨_, rfl, rfl, H.under⟩
          · have hne : Mg.leg m.gets = 0 := by simpa using hc51
            rw [if_neg (by simpa using hne)]
            refine k_skip ?_
            refine k_seq ?_
            refine k_seq ?_
            refine k_region ?_
            refine s_run (w_none rfl) rfl (d_fa rfl rfl tf78_3) ?_
            refine s_run (w_none rfl) rfl (d_fa rfl rfl tf76_0) ?_
            refine s_run (w_none rfl) rfl (d_ldX (off := 3) rfl H rfl rfl rfl ta3) ?_
            refine s_run (w_none rfl) rfl (d_fa rfl rfl tf78_4) ?_
            refine s_run (w_none rfl) rfl (d_fa rfl rfl tf76_0) ?_
            refine s_run (w_none rfl) rfl (d_ldX (off := 6) rfl H rfl rfl rfl ta3) ?_
            refine s_run (w_none rfl) rfl (d_eq rfl rfl rfl) ?_
            refine l_nil ?_
            refine k_cond rfl (fun hc59 => ?_) (fun hc59 => ?_)
            · have he : m.pays.whereA = m.gets.whereA := by simpa using hc59
              rw [if_pos he]
              refine k_seq ?_
              refine k_region ?_
              refine s_run (w_none rfl) rfl (as_i rfl rfl) ?_
              refine l_nil ?_
              refine k_ret ?_
              repeat (first | refine r_then ?_ | refine r_blk ?_)
              exact q_ret (v := .int _ _) rfl rfl ⟨_, rfl, rfl, H.under⟩
            · have he : ¬ m.pays.whereA = m.gets.whereA := by simpa using hc59
              rw [if_neg he]
              refine k_skip ?_
              refine k_seq ?_
              refine k_seq ?_
              refine k_region ?_
              refine s_run (w_none rfl) rfl (d_fa rfl rfl tf78_2) ?_
              refine s_run (w_none rfl) rfl (d_ldX (off := 2) rfl H rfl rfl rfl ta3) ?_
              refine s_run (w_none rfl) rfl (d_ne rfl rfl rfl) ?_
              refine l_nil ?_
              refine k_cond rfl (fun hc62 => ?_) (fun hc62 => ?_)
              · have he2 : m.code ≠ 0 := by simpa using hc62
                rw [if_pos he2]
                refine k_seq ?_
                refine k_region ?_
                refine s_run (w_none rfl) rfl (as_i rfl rfl) ?_
                refine l_nil ?_
                refine k_ret ?_
                repeat (first | refine r_then ?_ | refine r_blk ?_)
                exact q_ret (v := .int _ _) rfl rfl ⟨_, rfl, rfl, H.under⟩
              · have he2 : m.code = 0 := by simpa using hc62
                rw [if_neg (by simpa using he2)]
                refine k_skip ?_
                refine k_seq ?_
                refine k_region ?_
                refine s_run (w_none rfl) rfl (as_i rfl rfl) ?_
                refine l_nil ?_
                refine k_ret ?_
                repeat (first | refine r_then ?_ | refine r_blk ?_)
                exact q_ret (v := .int _ _) rfl rfl ⟨_, rfl, rfl, H.under⟩
        · have hne : Mg.leg m.pays ≠ 0 := by simpa using hc46
          rw [if_pos hne]
          refine k_skip ?_
          refine k_seq ?_
          refine k_seq ?_
          refine k_region ?_
          refine s_run (w_none rfl) rfl (mv_i rfl rfl) ?_
          refine s_run (w_none rfl) rfl (d_ne rfl rfl rfl) ?_
          refine l_nil ?_
          refine k_condT rfl (by simpa using hne) ?_
          refine k_seq ?_
          refine k_region ?_
          refine s_run (w_none rfl) rfl (mv_i rfl rfl) ?_
          refine s_run (w_none rfl) rfl (as_i rfl rfl) ?_
          refine l_nil ?_
          refine k_ret ?_
          repeat (first | refine r_then ?_ | refine r_blk ?_)
          exact q_ret (v := .int _ _) rfl rfl ⟨_, rfl, rfl, H.under⟩
    · have hkk : Mg.chk m = 1 := by unfold Mg.chk; rw [if_neg (by omega), if_pos (by omega)]
      rw [hkk]
      refine k_region ?_
      refine s_run (w_none rfl) rfl (d_fa rfl rfl tf78_1) ?_
      refine s_run (w_none rfl) rfl (d_ldX (off := 1) rfl H rfl rfl rfl ta3) ?_
      refine s_run (w_none rfl) rfl (d_lt rfl rfl rfl) ?_
      refine s_run (w_none rfl) rfl (mv_bx (c := false) rfl rfl (by first | rfl | (simp; omega))) ?_
      refine s_run (w_g rfl rfl rfl rfl) rfl (d_fa rfl rfl tf78_1) ?_
      refine s_run (w_g rfl rfl rfl rfl) rfl (d_ldX (off := 1) rfl H rfl rfl rfl ta3) ?_
      refine s_run (w_g rfl rfl rfl rfl) rfl (d_gt rfl rfl rfl) ?_
      refine s_run (w_none rfl) rfl (d_pickF rfl rfl rfl) ?_
      refine l_nil ?_
      refine k_condT rfl (by first | rfl | (simp; omega)) ?_
      refine k_seq ?_
      refine k_region ?_
      refine s_run (w_none rfl) rfl (as_i rfl rfl) ?_
      refine l_nil ?_
      refine k_ret ?_
      repeat (first | refine r_then ?_ | refine r_blk ?_)
      exact q_ret (v := .int _ _) rfl rfl ⟨_, rfl, rfl, H.under⟩
  · have hkk : Mg.chk m = 2 := by unfold Mg.chk; rw [if_pos (by omega)]
    rw [hkk]
    refine k_region ?_
    refine s_run (w_none rfl) rfl (d_fa rfl rfl tf78_0) ?_
    refine s_run (w_none rfl) rfl (d_ldX (off := 0) rfl H rfl rfl rfl ta3) ?_
    refine s_run (w_none rfl) rfl (d_lt rfl rfl rfl) ?_
    refine s_run (w_none rfl) rfl (mv_bx (c := false) rfl rfl (by first | rfl | (simp; omega))) ?_
    refine s_run (w_g rfl rfl rfl rfl) rfl (d_fa rfl rfl tf78_0) ?_
    refine s_run (w_g rfl rfl rfl rfl) rfl (d_ldX (off := 0) rfl H rfl rfl rfl ta3) ?_
    refine s_run (w_g rfl rfl rfl rfl) rfl (d_gt rfl rfl rfl) ?_
    refine s_run (w_none rfl) rfl (d_pickF rfl rfl rfl) ?_
    refine l_nil ?_
    refine k_condT rfl (by first | rfl | (simp; omega)) ?_
    refine k_seq ?_
    refine k_region ?_
    refine s_run (w_none rfl) rfl (as_i rfl rfl) ?_
    refine l_nil ?_
    refine k_ret ?_
    repeat (first | refine r_then ?_ | refine r_blk ?_)
    exact q_ret (v := .int _ _) rfl rfl ⟨_, rfl, rfl, H.under⟩
end Go.Proofs.YtejaohlijaodjaaDoor

namespace Go.Proofs.YtejaohlijaodjaaDoor
open Go Go.RowKit
attribute [local irreducible] wpList

set_option maxHeartbeats 4000000 in
theorem putCodeP {S : Nat → Prop} {v : Value} {b : List UInt8} {m : DMessage} (w : World) (hG : Gat w 0 formsC) (hb : Bs w S v b) (hl : b.length ≤ 1000) (hm : Mg.Ok m) : Calls Tryd.prog 115 [v, .agg (msgC m).toArray].toArray w (Ret (NewB 5 w (b ++ Pk.int (Pk.toU m.code)))) := by
  have hb0 := hb
  obtain ⟨A, c, rfl, _, _, _⟩ := hb.op
  refine k_enter (l := [_, _]) Tryd.func115 rfl rfl ?_
  have H := St.start nT w
  refine k_seq ?_
  refine k_region ?_
  refine s_eff (e_box (vs := (msgC m)) (w_none rfl) rfl rfl rfl rfl H ?_)
  clear H; intro gm W H
  refine s_run (w_none rfl) rfl (as_s rfl rfl) ?_
  refine l_nil ?_
  refine k_seq ?_
  refine k_region ?_
  refine s_run (w_none rfl) rfl (mv_s rfl rfl) ?_
  refine s_run (w_none rfl) rfl (d_fa rfl rfl tf78_2) ?_
  refine s_run (w_none rfl) rfl (d_ld rfl H rfl ta3 rfl) ?_
  refine s_eff (e_call (w_none rfl) rfl rfl Tryd.func18 rfl rfl rfl (packInt (b := b) m.code _ (H.gat hG) (H.bs hb0) hm.2.2.1 (by omega)) ?_)
  rintro _ W ⟨A1, c1, rfl, hc1, hd1, hn⟩
  replace H := H.new hn
  clear hn
  refine s_run (w_none rfl) rfl (as_s rfl rfl) ?_
  refine l_nil ?_
  refine k_ret ?_
  repeat (first | refine r_then ?_ | refine r_blk ?_)
  exact q_ret (v := .slice _ _ _) rfl rfl ⟨_, rfl, H.newB rfl rfl hc1 hd1⟩

set_option maxHeartbeats 4000000 in
theorem putLegsP {S : Nat → Prop} {v : Value} {b : List UInt8} {m : DMessage} (w : World) (hG : Gat w 0 formsC) (hb : Bs w S v b) (hl : b.length ≤ 1000) (hm : Mg.Ok m) : Calls Tryd.prog 112 [v, .agg (msgC m).toArray].toArray w (Ret (NewB 5 w (b ++ (Mg.legB m.pays ++ (Mg.legB m.gets ++ m.hash))))) := by
  have hb0 := hb
  obtain ⟨A, c, rfl, _, _, _⟩ := hb.op
  refine k_enter (l := [_, _]) Tryd.func112 rfl rfl ?_
  have H := St.start nT w
  have l0 := Pk.len_int (Pk.toU m.pays.whereA)
  have l1 := Pk.len_int (Pk.toU m.pays.amount)
  have l2 := Pk.len_int (Pk.toU m.pays.untilA)
  have l3 := Pk.len_int (Pk.toU m.gets.whereA)
  have l4 := Pk.len_int (Pk.toU m.gets.amount)
  have l5 := Pk.len_int (Pk.toU m.gets.untilA)
  have l6 := Pk.len_int (Pk.toU m.code)
  have l7 := Pk.len_int (Pk.toU m.kind)
  have l8 := Pk.len_int (Pk.toU m.id)
  refine k_seq ?_
  refine k_region ?_
  refine s_eff (e_box (vs := (msgC m)) (w_none rfl) rfl rfl rfl rfl H ?_)
  clear H; intro gm W H
  refine s_run (w_none rfl) rfl (as_s rfl rfl) ?_
  refine l_nil ?_
  refine k_seq ?_
  refine k_seq ?_
  refine k_region ?_
  refine s_run (w_none rfl) rfl (d_fa rfl rfl tf78_3) ?_
  refine s_run (w_none rfl) rfl (d_ldXM (g := gm) (cs := legC m.pays) (off := 3) rfl H rfl rfl rfl rfl rfl ta76 ts76) ?_
  refine s_run (w_none rfl) rfl (d_fa rfl rfl tf78_4) ?_
  refine s_run (w_none rfl) rfl (d_ldXM (g := gm) (cs := legC m.gets) (off := 6) rfl H rfl rfl rfl rfl rfl ta76 ts76) ?_
  refine s_eff (e_bsl (xs := [.tmp 8, .tmp 10]) (vals := [.agg (legC m.pays).toArray, .agg (legC m.gets).toArray]) (vs := (legC m.pays ++ legC m.gets)) (w_none rfl) rfl rfl rfl rfl rfl rfl tu152 ts76 ty76 rfl rfl rfl H ?_)
  clear H; intro gl W H
  refine s_run (w_none rfl) rfl (d_len rfl rfl tu152) ?_
  refine s_run (w_none rfl) rfl (mv_i rfl rfl) ?_
  refine l_nil ?_
  refine k_block ?_
  refine k_unr (k_one ?_)
  refine k_seq ?_
  refine k_region ?_
  refine s_run (w_none rfl) rfl (d_lt rfl rfl rfl) ?_
  refine l_nil ?_
  refine k_seq ?_
  refine k_condT rfl rfl ?_
  refine k_skip ?_
  refine k_seq ?_
  refine k_block ?_
  refine k_seq ?_
  refine k_region ?_
  refine s_run (w_none rfl) rfl (d_iaS rfl (rd_blk (m := 2) (H.blk (g := gl)) rfl) rfl rfl (q := 0) rfl (by decide) tu152 ts76) ?_
  refine s_run (w_none rfl) rfl (d_ldmR (q := 0) rfl (rd_blk (m := 2) (H.blk (g := gl)) rfl) rfl ta76 ts76 (by decide) (by simp [legC])) ?_
  refine s_eff (e_alloc (w_none rfl) rfl rfl [.int .i64 0, .int .i64 0, .int .i64 0] tz76 H ?_)
  clear H; intro g60 W H
  refine s_eff (e_stoK (legC m.pays) (w_none rfl) rfl rfl rfl rfl rfl ts76 rfl rfl H (by decide) (spl_all (c := [.int .i64 0, .int .i64 0, .int .i64 0]) rfl) ?_)
  clear H; intro W H
  refine l_nil ?_
  refine k_draw [(0, true), (1, true), (2, true), (4, true), (5, true), (7, true), (8, true), (3, false), (6, false), (9, false), (10, true)] _ (by kernel_rfl) (by kernel_rfl) H (.refl _) ?_
  clear H; intro W H
  refine c_run rfl (w_none rfl) rfl (fun W H => mv_s rfl rfl) ?_
  refine c_run rfl (w_none rfl) rfl (fun W H => d_fa rfl rfl tf76_0) ?_
  refine c_run rfl (w_none rfl) rfl (fun W H => d_ld rfl H rfl ta3 rfl) ?_
  refine c_run rfl (w_none rfl) rfl (fun W H => d_fa rfl rfl tf76_1) ?_
  refine c_run rfl (w_none rfl) rfl (fun W H => d_ld rfl H rfl ta3 rfl) ?_
  refine c_run rfl (w_none rfl) rfl (fun W H => d_fa rfl rfl tf76_2) ?_
  refine c_run rfl (w_none rfl) rfl (fun W H => d_ld rfl H rfl ta3 rfl) ?_
  refine c_eff rfl (e_call (w_none rfl) rfl rfl Tryd.func18 rfl rfl rfl (packInt (b := b) m.pays.whereA _ (H.gat hG) (H.bs hb0) hm.2.2.2.1.1 (by first | omega | (simp only [List.length_append]; omega))) ?_)
  rintro _ W ⟨A1, c1, rfl, hc1, hd1, hn⟩
  replace H := H.new hn
  clear hn
  refine ⟨H.sub (by repeat (first | exact List.Sublist.refl _ | exact List.nil_sublist _ | refine List.Sublist.cons_cons _ ?_ | refine List.Sublist.cons _ ?_)), ?_⟩
  refine c_eff rfl (e_call (w_none rfl) rfl rfl Tryd.func18 rfl rfl rfl (packInt (b := (b ++ Pk.int (Pk.toU m.pays.whereA))) m.pays.amount _ (H.gat hG) (H.rowbs (A := A1) rfl) hm.2.2.2.1.2.1 (by first | omega | (simp only [List.length_append]; omega))) ?_)
  rintro _ W ⟨A2, c2, rfl, hc2, hd2, hn⟩
  replace H := H.new hn
  clear hn
  refine ⟨H.sub (by repeat (first | exact List.Sublist.refl _ | exact List.nil_sublist _ | refine List.Sublist.cons_cons _ ?_ | refine List.Sublist.cons _ ?_)), ?_⟩
  refine c_eff rfl (e_call (w_none rfl) rfl rfl Tryd.func18 rfl rfl rfl (packInt (b := ((b ++ Pk.int (Pk.toU m.pays.whereA)) ++ Pk.int (Pk.toU m.pays.amount))) m.pays.untilA _ (H.gat hG) (H.rowbs (A := A2) rfl) hm.2.2.2.1.2.2 (by first | omega | (simp only [List.length_append]; omega))) ?_)
  rintro _ W ⟨A3, c3, rfl, hc3, hd3, hn⟩
  replace H := H.new hn
  clear hn
  refine ⟨H.sub (by repeat (first | exact List.Sublist.refl _ | exact List.nil_sublist _ | refine List.Sublist.cons_cons _ ?_ | refine List.Sublist.cons _ ?_)), ?_⟩
  refine c_run rfl (w_none rfl) rfl (fun W H => as_s rfl rfl) ?_
  refine c_nil ?_
  refine k_nil ?_
  refine b_end ?_
  refine k_region ?_
  refine s_run (w_none rfl) rfl (d_add rfl rfl rfl (by omega)) ?_
  refine s_run (w_none rfl) rfl (mv_i rfl rfl) ?_
  refine l_nil ?_
  refine k_nil ?_
  refine k_next (hd_of (k_one ?_))
  refine k_seq ?_
  refine k_region ?_
  refine s_run (w_none rfl) rfl (d_lt rfl rfl rfl) ?_
  refine l_nil ?_
  refine k_seq ?_
  refine k_condT rfl rfl ?_
  refine k_skip ?_
  refine k_seq ?_
  refine k_block ?_
  refine k_seq ?_
  refine k_region ?_
  refine s_run (w_none rfl) rfl (d_iaS rfl (rd_blk (m := 2) (H.blk (g := gl)) rfl) rfl rfl (q := 1) rfl (by decide) tu152 ts76) ?_
  refine s_run (w_none rfl) rfl (d_ldmR (q := 1) rfl (rd_blk (m := 2) (H.blk (g := gl)) rfl) rfl ta76 ts76 (by decide) (by simp [legC])) ?_
  refine s_eff (e_alloc (w_none rfl) rfl rfl [.int .i64 0, .int .i64 0, .int .i64 0] tz76 H ?_)
  clear H; intro g61 W H
  refine s_eff (e_stoK (legC m.gets) (w_none rfl) rfl rfl rfl rfl rfl ts76 rfl rfl H (by decide) (spl_all (c := [.int .i64 0, .int .i64 0, .int .i64 0]) rfl) ?_)
  clear H; intro W H
  refine l_nil ?_
  refine k_draw [(0, true), (1, true), (2, true), (4, true), (5, true), (7, true), (8, true), (3, false), (6, false), (9, false), (10, true)] _ (by kernel_rfl) (by kernel_rfl) H (.refl _) ?_
  clear H; intro W H
  refine c_run rfl (w_none rfl) rfl (fun W H => mv_s rfl rfl) ?_
  refine c_run rfl (w_none rfl) rfl (fun W H => d_fa rfl rfl tf76_0) ?_
  refine c_run rfl (w_none rfl) rfl (fun W H => d_ld rfl H rfl ta3 rfl) ?_
  refine c_run rfl (w_none rfl) rfl (fun W H => d_fa rfl rfl tf76_1) ?_
  refine c_run rfl (w_none rfl) rfl (fun W H => d_ld rfl H rfl ta3 rfl) ?_
  refine c_run rfl (w_none rfl) rfl (fun W H => d_fa rfl rfl tf76_2) ?_
  refine c_run rfl (w_none rfl) rfl (fun W H => d_ld rfl H rfl ta3 rfl) ?_
  refine c_eff rfl (e_call (w_none rfl) rfl rfl Tryd.func18 rfl rfl rfl (packInt (b := (((b ++ Pk.int (Pk.toU m.pays.whereA)) ++ Pk.int (Pk.toU m.pays.amount)) ++ Pk.int (Pk.toU m.pays.untilA))) m.gets.whereA _ (H.gat hG) (H.rowbs (A := A3) rfl) hm.2.2.2.2.1.1 (by first | omega | (simp only [List.length_append]; omega))) ?_)
  rintro _ W ⟨A4, c4, rfl, hc4, hd4, hn⟩
  replace H := H.new hn
  clear hn
  refine ⟨H.sub (by repeat (first | exact List.Sublist.refl _ | exact List.nil_sublist _ | refine List.Sublist.cons_cons _ ?_ | refine List.Sublist.cons _ ?_)), ?_⟩
  refine c_eff rfl (e_call (w_none rfl) rfl rfl Tryd.func18 rfl rfl rfl (packInt (b := ((((b ++ Pk.int (Pk.toU m.pays.whereA)) ++ Pk.int (Pk.toU m.pays.amount)) ++ Pk.int (Pk.toU m.pays.untilA)) ++ Pk.int (Pk.toU m.gets.whereA))) m.gets.amount _ (H.gat hG) (H.rowbs (A := A4) rfl) hm.2.2.2.2.1.2.1 (by first | omega | (simp only [List.length_append]; omega))) ?_)
  rintro _ W ⟨A5, c5, rfl, hc5, hd5, hn⟩
  replace H := H.new hn
  clear hn
  refine ⟨H.sub (by repeat (first | exact List.Sublist.refl _ | exact List.nil_sublist _ | refine List.Sublist.cons_cons _ ?_ | refine List.Sublist.cons _ ?_)), ?_⟩
  refine c_eff rfl (e_call (w_none rfl) rfl rfl Tryd.func18 rfl rfl rfl (packInt (b := (((((b ++ Pk.int (Pk.toU m.pays.whereA)) ++ Pk.int (Pk.toU m.pays.amount)) ++ Pk.int (Pk.toU m.pays.untilA)) ++ Pk.int (Pk.toU m.gets.whereA)) ++ Pk.int (Pk.toU m.gets.amount))) m.gets.untilA _ (H.gat hG) (H.rowbs (A := A5) rfl) hm.2.2.2.2.1.2.2 (by first | omega | (simp only [List.length_append]; omega))) ?_)
  rintro _ W ⟨A6, c6, rfl, hc6, hd6, hn⟩
  replace H := H.new hn
  clear hn
  refine ⟨H.sub (by repeat (first | exact List.Sublist.refl _ | exact List.nil_sublist _ | refine List.Sublist.cons_cons _ ?_ | refine List.Sublist.cons _ ?_)), ?_⟩
  refine c_run rfl (w_none rfl) rfl (fun W H => as_s rfl rfl) ?_
  refine c_nil ?_
  refine k_nil ?_
  refine b_end ?_
  refine k_region ?_
  refine s_run (w_none rfl) rfl (d_add rfl rfl rfl (by omega)) ?_
  refine s_run (w_none rfl) rfl (mv_i rfl rfl) ?_
  refine l_nil ?_
  refine k_nil ?_
  refine k_next (hd_of (k_one ?_))
  refine k_seq ?_
  refine k_region ?_
  refine s_run (w_none rfl) rfl (d_lt rfl rfl rfl) ?_
  refine l_nil ?_
  refine k_seq ?_
  refine k_condF rfl rfl ?_
  refine k_exit ?_
  refine x_then (x_then ?_)
  refine x_hit ?_
  refine k_seq ?_
  refine k_region ?_
  refine s_run (w_none rfl) rfl (mv_s rfl rfl) ?_
  refine s_run (w_none rfl) rfl (d_fa rfl rfl tf78_5) ?_
  refine s_run (w_none rfl) rfl (d_ldXM (g := gm) (off := 9) rfl H (sub_hash hm.2.2.2.2.2) (by rw [List.length_map]; exact hm.2.2.2.2.2) rfl rfl rfl ta36 ts36) ?_
  refine s_eff (e_call (w_none rfl) rfl rfl Tryd.func26 rfl rfl rfl (packHash (b := ((((((b ++ Pk.int (Pk.toU m.pays.whereA)) ++ Pk.int (Pk.toU m.pays.amount)) ++ Pk.int (Pk.toU m.pays.untilA)) ++ Pk.int (Pk.toU m.gets.whereA)) ++ Pk.int (Pk.toU m.gets.amount)) ++ Pk.int (Pk.toU m.gets.untilA))) (h := m.hash) _ (H.rowbs (A := A6) rfl) (by first | omega | (simp only [List.length_append]; omega)) hm.2.2.2.2.2) ?_)
  rintro _ W ⟨A7, c7, rfl, hc7, hd7, hn⟩
  replace H := H.new hn
  clear hn
  refine s_run (w_none rfl) rfl (as_s rfl rfl) ?_
  refine l_nil ?_
  refine k_ret ?_
  repeat (first | refine r_then ?_ | refine r_blk ?_)
  have he : ((((((b ++ Pk.int (Pk.toU m.pays.whereA)) ++ Pk.int (Pk.toU m.pays.amount)) ++ Pk.int (Pk.toU m.pays.untilA)) ++ Pk.int (Pk.toU m.gets.whereA)) ++ Pk.int (Pk.toU m.gets.amount)) ++ Pk.int (Pk.toU m.gets.untilA)) ++ m.hash = b ++ (Mg.legB m.pays ++ (Mg.legB m.gets ++ m.hash)) := by unfold Mg.legB; simp only [List.append_assoc]
  rw [he] at hc7 H ⊢
  exact q_ret (v := .slice _ _ _) rfl rfl ⟨_, rfl, H.newB rfl rfl hc7 hd7⟩

theorem Mg.kind_of {m : DMessage} (h : Mg.chk m = 0) : 1 ≤ m.kind ∧ m.kind ≤ 3 := by
  unfold Mg.chk at h
  split at h
  · cases h
  · omega

set_option maxHeartbeats 4000000 in
theorem putP {m : DMessage} (w : World) (hG : Gat w 0 formsC) (hm : Mg.Ok m) : Calls Tryd.prog 59 [.agg (msgC m).toArray].toArray w (Ret (fun v w' => ∃ x, v = .tuple #[x, .int .i64 (Mg.chk m)] ∧ NewB 5 w (Mg.put m) x w')) := by
  refine k_enter (l := [_]) Tryd.func59 rfl rfl ?_
  have H := St.start nT w
  have l0 := Pk.len_int (Pk.toU m.pays.whereA)
  have l1 := Pk.len_int (Pk.toU m.pays.amount)
  have l2 := Pk.len_int (Pk.toU m.pays.untilA)
  have l3 := Pk.len_int (Pk.toU m.gets.whereA)
  have l4 := Pk.len_int (Pk.toU m.gets.amount)
  have l5 := Pk.len_int (Pk.toU m.gets.untilA)
  have l6 := Pk.len_int (Pk.toU m.code)
  have l7 := Pk.len_int (Pk.toU m.kind)
  have l8 := Pk.len_int (Pk.toU m.id)
  refine k_seq ?_
  refine k_region ?_
  refine s_eff (e_box (vs := (msgC m)) (w_none rfl) rfl rfl rfl rfl H ?_)
  clear H; intro gm W H
  refine s_run (w_none rfl) rfl (as_s rfl rfl) ?_
  refine s_run (w_none rfl) rfl (as_i rfl rfl) ?_
  refine l_nil ?_
  refine k_seq ?_
  refine k_seq ?_
  refine k_region ?_
  refine s_run (w_none rfl) rfl (d_ldXM (g := gm) (off := 0) rfl H (sub_all (len_msg hm.2.2.2.2.2)) (len_msg hm.2.2.2.2.2) rfl rfl rfl ta78 ts78) ?_
  refine s_eff (e_call (w_none rfl) rfl rfl Tryd.func61 rfl rfl rfl (checkP _ hm) ?_)
  rintro _ W ⟨rfl, hb⟩
  replace H := H.below hb
  clear hb
  refine s_run (w_none rfl) rfl (as_i rfl rfl) ?_
  refine l_nil ?_
  refine k_seq ?_
  refine k_region ?_
  refine s_run (w_none rfl) rfl (mv_i rfl rfl) ?_
  refine s_run (w_none rfl) rfl (d_ne rfl rfl rfl) ?_
  refine l_nil ?_
  refine k_cond rfl (fun hc8 => ?_) (fun hc8 => ?_)
  · have hne : Mg.chk m ≠ 0 := by simpa using hc8
    refine k_seq ?_
    refine k_region ?_
    refine s_run (w_none rfl) rfl (mv_i rfl rfl) ?_
    refine s_run (w_none rfl) rfl (as_s rfl rfl) ?_
    refine s_run (w_none rfl) rfl (as_i rfl rfl) ?_
    refine l_nil ?_
    refine k_ret ?_
    repeat (first | refine r_then ?_ | refine r_blk ?_)
    have hp : Mg.put m = [] := by unfold Mg.put; rw [if_neg hne]
    rw [hp]
    replace H := H.nilrow 5 1
    exact q_ret2 (v := .slice _ _ _) (x := .int _ _) rfl rfl rfl ⟨_, rfl, _, rfl, H.newB (l := []) rfl rfl (Nat.le_refl _) (by omega)⟩
  · have hne : Mg.chk m = 0 := by simpa using hc8
    refine k_skip ?_
    refine k_seq ?_
    rcases (show (m.kind = 1 ∨ m.kind = 2) ∨ m.kind = 3 by have := Mg.kind_of hne; omega) with hk | hk
    · skip
      refine k_drawT (.rd 0 (.rd 1 (.rd 6 (.rd 7 (.rd 9 (.rd 10 (.rd 12 (.ef 2 (.rd 3 (.rd 4 (.rd 5 (.ef 8 (.ef 11 (.ef 13 (.rd 14 (.rd 15 .nil)))))))))))))))) _ (by kernel_rfl) (by kernel_rfl) H (.refl _) ?_
      clear H; intro W H
      refine t_run rfl (w_none rfl) rfl (fun W H => d_fa rfl rfl tf78_0) ?_
      refine t_run rfl (w_none rfl) rfl (fun W H => d_ldX (g := gm) (off := 0) rfl H rfl rfl rfl ta3) ?_
      refine t_run rfl (w_none rfl) rfl (fun W H => d_fa rfl rfl tf78_0) ?_
      refine t_run rfl (w_none rfl) rfl (fun W H => d_ldX (g := gm) (off := 0) rfl H rfl rfl rfl ta3) ?_
      refine t_run rfl (w_none rfl) rfl (fun W H => d_fa rfl rfl tf78_1) ?_
      refine t_run rfl (w_none rfl) rfl (fun W H => d_ldX (g := gm) (off := 1) rfl H rfl rfl rfl ta3) ?_
      refine t_run rfl (w_none rfl) rfl (fun W H => d_ldXM (g := gm) (off := 0) rfl H (sub_all (len_msg hm.2.2.2.2.2)) (len_msg hm.2.2.2.2.2) rfl rfl rfl ta78 ts78) ?_
      refine t_eff rfl (e_call (w_none rfl) rfl rfl Tryd.func93 rfl rfl rfl (kindA _ hk) ?_)
      rintro _ W ⟨gk, rfl, hnk⟩
      replace H := H.new hnk
      clear hnk
      refine ⟨fun W => St _ _ W [Fact.blk gk [.func (.func 111) #[] #[], .func (.func 112) #[] #[], .func (.func 113) #[] #[]] 117, Fact.blk gm (msgC m) 78], fun _ h => h.sub (by repeat (first | exact List.Sublist.refl _ | exact List.nil_sublist _ | refine List.Sublist.cons_cons _ ?_ | refine List.Sublist.cons _ ?_)), H.sub (by repeat (first | exact List.Sublist.refl _ | exact List.nil_sublist _ | refine List.Sublist.cons_cons _ ?_ | refine List.Sublist.cons _ ?_)), ?_⟩
      refine t_run rfl (w_none rfl) rfl (fun W H => d_nil rfl rfl) ?_
      refine t_run rfl (w_none rfl) rfl (fun W H => d_fa rfl rfl tf117_1) ?_
      refine t_run rfl (w_none rfl) rfl (fun W H => d_ld (g := gk) rfl H rfl ta114 rfl) ?_
      refine t_eff rfl (e_call (w_none rfl) rfl rfl Tryd.func18 rfl rfl rfl (packInt (S := (0 ≤ ·)) (b := []) m.kind _ (H.gat hG) Bs.nil hm.1 (by simp)) ?_)
      rintro _ W ⟨A1, c1, rfl, hc1, hd1, hn⟩
      replace H := H.new hn
      clear hn
      refine ⟨_, fun _ h => h, H.sub (by repeat (first | exact List.Sublist.refl _ | exact List.nil_sublist _ | refine List.Sublist.cons_cons _ ?_ | refine List.Sublist.cons _ ?_)), ?_⟩
      refine t_eff rfl (e_call (w_none rfl) rfl rfl Tryd.func18 rfl rfl rfl (packInt (b := [] ++ Pk.int (Pk.toU m.kind)) m.id _ (H.gat hG) (H.rowbs (A := A1) rfl) hm.2.1 (by simp only [List.length_append, List.length_nil]; omega)) ?_)
      rintro _ W ⟨A2, c2, rfl, hc2, hd2, hn⟩
      replace H := H.new hn
      clear hn
      refine ⟨_, fun _ h => h, H.sub (by repeat (first | exact List.Sublist.refl _ | exact List.nil_sublist _ | refine List.Sublist.cons_cons _ ?_ | refine List.Sublist.cons _ ?_)), ?_⟩
      refine t_eff rfl (e_callv (w_none rfl) rfl rfl rfl Tryd.func112 rfl rfl rfl (putLegsP (b := (([] ++ Pk.int (Pk.toU m.kind)) ++ Pk.int (Pk.toU m.id))) _ (H.gat hG) (H.rowbs (A := A2) rfl) (by simp only [List.length_append, List.length_nil]; omega) hm) ?_)
      rintro _ W ⟨A3, c3, rfl, hc3, hd3, hn⟩
      replace H := H.new hn
      clear hn
      refine ⟨_, fun _ h => h, H.sub (by repeat (first | exact List.Sublist.refl _ | exact List.nil_sublist _ | refine List.Sublist.cons_cons _ ?_ | refine List.Sublist.cons _ ?_)), ?_⟩
      refine t_run rfl (w_none rfl) rfl (fun W H => as_s rfl rfl) ?_
      refine t_run rfl (w_none rfl) rfl (fun W H => as_i rfl rfl) ?_
      refine t_nil ?_
      refine k_ret ?_
      repeat (first | refine r_then ?_ | refine r_blk ?_)
      have hp : Mg.put m = (([] ++ Pk.int (Pk.toU m.kind)) ++ Pk.int (Pk.toU m.id)) ++ (Mg.legB m.pays ++ (Mg.legB m.gets ++ m.hash)) := by unfold Mg.put Mg.putB; rw [if_pos hne, if_neg (by omega)]; simp only [List.append_assoc, List.nil_append]
      rw [hp, hne]
      exact q_ret2 (v := .slice _ _ _) (x := .int _ _) rfl rfl rfl ⟨_, rfl, _, rfl, H.newB rfl rfl hc3 hd3⟩
    · skip
      refine k_drawT (.rd 0 (.rd 1 (.rd 6 (.rd 7 (.rd 9 (.rd 10 (.rd 12 (.ef 2 (.rd 3 (.rd 4 (.rd 5 (.ef 8 (.ef 11 (.ef 13 (.rd 14 (.rd 15 .nil)))))))))))))))) _ (by kernel_rfl) (by kernel_rfl) H (.refl _) ?_
      clear H; intro W H
      refine t_run rfl (w_none rfl) rfl (fun W H => d_fa rfl rfl tf78_0) ?_
      refine t_run rfl (w_none rfl) rfl (fun W H => d_ldX (g := gm) (off := 0) rfl H rfl rfl rfl ta3) ?_
      refine t_run rfl (w_none rfl) rfl (fun W H => d_fa rfl rfl tf78_0) ?_
      refine t_run rfl (w_none rfl) rfl (fun W H => d_ldX (g := gm) (off := 0) rfl H rfl rfl rfl ta3) ?_
      refine t_run rfl (w_none rfl) rfl (fun W H => d_fa rfl rfl tf78_1) ?_
      refine t_run rfl (w_none rfl) rfl (fun W H => d_ldX (g := gm) (off := 1) rfl H rfl rfl rfl ta3) ?_
      refine t_run rfl (w_none rfl) rfl (fun W H => d_ldXM (g := gm) (off := 0) rfl H (sub_all (len_msg hm.2.2.2.2.2)) (len_msg hm.2.2.2.2.2) rfl rfl rfl ta78 ts78) ?_
      refine t_eff rfl (e_call (w_none rfl) rfl rfl Tryd.func93 rfl rfl rfl (kindB _ hk) ?_)
      rintro _ W ⟨gk, rfl, hnk⟩
      replace H := H.new hnk
      clear hnk
      refine ⟨fun W => St _ _ W [Fact.blk gk [.func (.func 114) #[] #[], .func (.func 115) #[] #[], .func (.func 116) #[] #[]] 117, Fact.blk gm (msgC m) 78], fun _ h => h.sub (by repeat (first | exact List.Sublist.refl _ | exact List.nil_sublist _ | refine List.Sublist.cons_cons _ ?_ | refine List.Sublist.cons _ ?_)), H.sub (by repeat (first | exact List.Sublist.refl _ | exact List.nil_sublist _ | refine List.Sublist.cons_cons _ ?_ | refine List.Sublist.cons _ ?_)), ?_⟩
      refine t_run rfl (w_none rfl) rfl (fun W H => d_nil rfl rfl) ?_
      refine t_run rfl (w_none rfl) rfl (fun W H => d_fa rfl rfl tf117_1) ?_
      refine t_run rfl (w_none rfl) rfl (fun W H => d_ld (g := gk) rfl H rfl ta114 rfl) ?_
      refine t_eff rfl (e_call (w_none rfl) rfl rfl Tryd.func18 rfl rfl rfl (packInt (S := (0 ≤ ·)) (b := []) m.kind _ (H.gat hG) Bs.nil hm.1 (by simp)) ?_)
      rintro _ W ⟨A1, c1, rfl, hc1, hd1, hn⟩
      replace H := H.new hn
      clear hn
      refine ⟨_, fun _ h => h, H.sub (by repeat (first | exact List.Sublist.refl _ | exact List.nil_sublist _ | refine List.Sublist.cons_cons _ ?_ | refine List.Sublist.cons _ ?_)), ?_⟩
      refine t_eff rfl (e_call (w_none rfl) rfl rfl Tryd.func18 rfl rfl rfl (packInt (b := [] ++ Pk.int (Pk.toU m.kind)) m.id _ (H.gat hG) (H.rowbs (A := A1) rfl) hm.2.1 (by simp only [List.length_append, List.length_nil]; omega)) ?_)
      rintro _ W ⟨A2, c2, rfl, hc2, hd2, hn⟩
      replace H := H.new hn
      clear hn
      refine ⟨_, fun _ h => h, H.sub (by repeat (first | exact List.Sublist.refl _ | exact List.nil_sublist _ | refine List.Sublist.cons_cons _ ?_ | refine List.Sublist.cons _ ?_)), ?_⟩
      refine t_eff rfl (e_callv (w_none rfl) rfl rfl rfl Tryd.func115 rfl rfl rfl (putCodeP (b := (([] ++ Pk.int (Pk.toU m.kind)) ++ Pk.int (Pk.toU m.id))) _ (H.gat hG) (H.rowbs (A := A2) rfl) (by simp only [List.length_append, List.length_nil]; omega) hm) ?_)
      rintro _ W ⟨A3, c3, rfl, hc3, hd3, hn⟩
      replace H := H.new hn
      clear hn
      refine ⟨_, fun _ h => h, H.sub (by repeat (first | exact List.Sublist.refl _ | exact List.nil_sublist _ | refine List.Sublist.cons_cons _ ?_ | refine List.Sublist.cons _ ?_)), ?_⟩
      refine t_run rfl (w_none rfl) rfl (fun W H => as_s rfl rfl) ?_
      refine t_run rfl (w_none rfl) rfl (fun W H => as_i rfl rfl) ?_
      refine t_nil ?_
      refine k_ret ?_
      repeat (first | refine r_then ?_ | refine r_blk ?_)
      have hp : Mg.put m = (([] ++ Pk.int (Pk.toU m.kind)) ++ Pk.int (Pk.toU m.id)) ++ Pk.int (Pk.toU m.code) := by unfold Mg.put Mg.putB; rw [if_pos hne, if_pos (by omega)]; simp only [List.append_assoc, List.nil_append]
      rw [hp, hne]
      exact q_ret2 (v := .slice _ _ _) (x := .int _ _) rfl rfl rfl ⟨_, rfl, _, rfl, H.newB rfl rfl hc3 hd3⟩

set_option maxHeartbeats 4000000 in
theorem legBR {S : Nat → Prop} {v : Value} {b : List UInt8} {l : DLeg} (w : World) (hb : Bs w S v b) (hl : b.length ≤ 1000) (hm : Mg.OkL l) : Calls Tryd.prog 95 [v, .agg (legC l).toArray].toArray w (Ret (NewB 5 w (b ++ Mg.legB l))) := by
  have hb0 := hb
  obtain ⟨A, c, rfl, _, _, _⟩ := hb.op
  refine k_enter (l := [_, _]) Tryd.func95 rfl rfl ?_
  have H := St.start nT w
  have l1 := Pk.len_int (Pk.toU l.whereA)
  have l2 := Pk.len_int (Pk.toU l.amount)
  have l3 := Pk.len_int (Pk.toU l.untilA)
  refine k_seq ?_
  refine k_region ?_
  refine s_eff (e_box (vs := (legC l)) (w_none rfl) rfl rfl rfl rfl H ?_)
  clear H; intro gm W H
  refine s_run (w_none rfl) rfl (as_s rfl rfl) ?_
  refine l_nil ?_
  refine k_seq ?_
  refine k_region ?_
  refine s_run (w_none rfl) rfl (mv_s rfl rfl) ?_
  refine s_run (w_none rfl) rfl (d_fa rfl rfl tf76_0) ?_
  refine s_run (w_none rfl) rfl (d_ld rfl H rfl ta3 rfl) ?_
  refine s_eff (e_call (w_none rfl) rfl rfl Tryd.func28 rfl rfl rfl (refInt (b := b) l.whereA _ (H.bs hb0) hm.1 (by omega)) ?_)
  rintro _ W ⟨A1, c1, rfl, hc1, hd1, hn⟩
  replace H := H.new hn
  clear hn
  refine s_run (w_none rfl) rfl (as_s rfl rfl) ?_
  refine l_nil ?_
  refine k_seq ?_
  refine k_region ?_
  refine s_run (w_none rfl) rfl (mv_s rfl rfl) ?_
  refine s_run (w_none rfl) rfl (d_fa rfl rfl tf76_1) ?_
  refine s_run (w_none rfl) rfl (d_ld rfl H rfl ta3 rfl) ?_
  refine s_eff (e_call (w_none rfl) rfl rfl Tryd.func28 rfl rfl rfl (refInt (b := b ++ Pk.int (Pk.toU l.whereA)) l.amount _ (H.rowbs (A := A1) rfl) hm.2.1 (by first | omega | (simp only [List.length_append]; omega))) ?_)
  rintro _ W ⟨A2, c2, rfl, hc2, hd2, hn⟩
  replace H := H.new hn
  clear hn
  refine s_run (w_none rfl) rfl (as_s rfl rfl) ?_
  refine l_nil ?_
  refine k_seq ?_
  refine k_region ?_
  refine s_run (w_none rfl) rfl (mv_s rfl rfl) ?_
  refine s_run (w_none rfl) rfl (d_fa rfl rfl tf76_2) ?_
  refine s_run (w_none rfl) rfl (d_ld rfl H rfl ta3 rfl) ?_
  refine s_eff (e_call (w_none rfl) rfl rfl Tryd.func28 rfl rfl rfl (refInt (b := (b ++ Pk.int (Pk.toU l.whereA)) ++ Pk.int (Pk.toU l.amount)) l.untilA _ (H.rowbs (A := A2) rfl) hm.2.2 (by first | omega | (simp only [List.length_append]; omega))) ?_)
  rintro _ W ⟨A3, c3, rfl, hc3, hd3, hn⟩
  replace H := H.new hn
  clear hn
  refine s_run (w_none rfl) rfl (as_s rfl rfl) ?_
  refine l_nil ?_
  refine k_ret ?_
  repeat (first | refine r_then ?_ | refine r_blk ?_)
  have he : ((b ++ Pk.int (Pk.toU l.whereA)) ++ Pk.int (Pk.toU l.amount)) ++ Pk.int (Pk.toU l.untilA) = b ++ Mg.legB l := by unfold Mg.legB; simp only [List.append_assoc]
  rw [he] at hc3 H ⊢
  exact q_ret (v := .slice _ _ _) rfl rfl ⟨_, rfl, H.newB rfl rfl hc3 hd3⟩

set_option maxHeartbeats 4000000 in
theorem putR {m : DMessage} (w : World) (hm : Mg.Ok m) : Calls Tryd.prog 60 [.agg (msgC m).toArray].toArray w (Ret (fun v w' => ∃ x, v = .tuple #[x, .int .i64 (Mg.chk m)] ∧ NewB 5 w (Mg.put m) x w')) := by
  refine k_enter (l := [_]) Tryd.func60 rfl rfl ?_
  have H := St.start nT w
  have l0 := Pk.len_int (Pk.toU m.pays.whereA)
  have l1 := Pk.len_int (Pk.toU m.pays.amount)
  have l2 := Pk.len_int (Pk.toU m.pays.untilA)
  have l3 := Pk.len_int (Pk.toU m.gets.whereA)
  have l4 := Pk.len_int (Pk.toU m.gets.amount)
  have l5 := Pk.len_int (Pk.toU m.gets.untilA)
  have l6 := Pk.len_int (Pk.toU m.code)
  have l7 := Pk.len_int (Pk.toU m.kind)
  have l8 := Pk.len_int (Pk.toU m.id)
  have p1 := Mg.len_legB (l := m.pays)
  have p2 := Mg.len_legB (l := m.gets)
  refine k_seq ?_
  refine k_region ?_
  refine s_eff (e_box (vs := (msgC m)) (w_none rfl) rfl rfl rfl rfl H ?_)
  clear H; intro gm W H
  refine s_run (w_none rfl) rfl (as_s rfl rfl) ?_
  refine s_run (w_none rfl) rfl (as_i rfl rfl) ?_
  refine l_nil ?_
  refine k_seq ?_
  refine k_region ?_
  refine s_run (w_none rfl) rfl (d_ldXM (g := gm) (off := 0) rfl H (sub_all (len_msg hm.2.2.2.2.2)) (len_msg hm.2.2.2.2.2) rfl rfl rfl ta78 ts78) ?_
  refine s_eff (e_call (w_none rfl) rfl rfl Tryd.func94 rfl rfl rfl (checkR _ hm) ?_)
  rintro _ W ⟨rfl, hb⟩
  replace H := H.below hb
  clear hb
  refine s_run (w_none rfl) rfl (as_i rfl rfl) ?_
  refine l_nil ?_
  refine k_seq ?_
  refine k_seq ?_
  refine k_region ?_
  refine s_run (w_none rfl) rfl (mv_i rfl rfl) ?_
  refine s_run (w_none rfl) rfl (d_ne rfl rfl rfl) ?_
  refine l_nil ?_
  refine k_cond rfl (fun hc9 => ?_) (fun hc9 => ?_)
  · have hne : Mg.chk m ≠ 0 := by simpa using hc9
    refine k_seq ?_
    refine k_region ?_
    refine s_run (w_none rfl) rfl (mv_i rfl rfl) ?_
    refine s_run (w_none rfl) rfl (as_s rfl rfl) ?_
    refine s_run (w_none rfl) rfl (as_i rfl rfl) ?_
    refine l_nil ?_
    refine k_ret ?_
    repeat (first | refine r_then ?_ | refine r_blk ?_)
    have hp : Mg.put m = [] := by unfold Mg.put; rw [if_neg hne]
    rw [hp]
    replace H := H.nilrow 5 1
    exact q_ret2 (v := .slice _ _ _) (x := .int _ _) rfl rfl rfl ⟨_, rfl, _, rfl, H.newB (l := []) rfl rfl (Nat.le_refl _) (by omega)⟩
  · have hne : Mg.chk m = 0 := by simpa using hc9
    refine k_skip ?_
    refine k_seq ?_
    refine k_draw [(0, true), (1, true), (3, true), (4, true), (2, false), (5, false), (6, true)] _ (by kernel_rfl) (by kernel_rfl) H (.refl _) ?_
    clear H; intro W H
    refine c_run rfl (w_none rfl) rfl (fun W H => d_fa rfl rfl tf78_0) ?_
    refine c_run rfl (w_none rfl) rfl (fun W H => d_ldX (g := gm) (off := 0) rfl H rfl rfl rfl ta3) ?_
    refine c_run rfl (w_none rfl) rfl (fun W H => d_fa rfl rfl tf78_1) ?_
    refine c_run rfl (w_none rfl) rfl (fun W H => d_ldX (g := gm) (off := 1) rfl H rfl rfl rfl ta3) ?_
    refine c_eff rfl (e_call (w_none rfl) rfl rfl Tryd.func28 rfl rfl rfl (refInt (S := (0 ≤ ·)) (b := []) m.kind _ Bs.nil hm.1 (by simp)) ?_)
    rintro _ W ⟨A1, c1, rfl, hc1, hd1, hn⟩
    replace H := H.new hn
    clear hn
    refine ⟨H.sub (by repeat (first | exact List.Sublist.refl _ | exact List.nil_sublist _ | refine List.Sublist.cons_cons _ ?_ | refine List.Sublist.cons _ ?_)), ?_⟩
    refine c_eff rfl (e_call (w_none rfl) rfl rfl Tryd.func28 rfl rfl rfl (refInt (b := [] ++ Pk.int (Pk.toU m.kind)) m.id _ (H.rowbs (A := A1) rfl) hm.2.1 (by simp only [List.length_append, List.length_nil]; omega)) ?_)
    rintro _ W ⟨A2, c2, rfl, hc2, hd2, hn⟩
    replace H := H.new hn
    clear hn
    refine ⟨H.sub (by repeat (first | exact List.Sublist.refl _ | exact List.nil_sublist _ | refine List.Sublist.cons_cons _ ?_ | refine List.Sublist.cons _ ?_)), ?_⟩
    refine c_run rfl (w_none rfl) rfl (fun W H => as_s rfl rfl) ?_
    refine c_nil ?_
    refine k_seq ?_
    refine k_seq ?_
    refine k_region ?_
    refine s_run (w_none rfl) rfl (d_fa rfl rfl tf78_0) ?_
    refine s_run (w_none rfl) rfl (d_ldX (g := gm) (off := 0) rfl H rfl rfl rfl ta3) ?_
    refine s_run (w_none rfl) rfl (d_eq rfl rfl rfl) ?_
    refine l_nil ?_
    refine k_cond rfl (fun hc19 => ?_) (fun hc19 => ?_)
    · have hk : m.kind = 3 := by simpa using hc19
      refine k_seq ?_
      refine k_region ?_
      refine s_run (w_none rfl) rfl (mv_s rfl rfl) ?_
      refine s_run (w_none rfl) rfl (d_fa rfl rfl tf78_2) ?_
      refine s_run (w_none rfl) rfl (d_ldX (g := gm) (off := 2) rfl H rfl rfl rfl ta3) ?_
      refine s_eff (e_call (w_none rfl) rfl rfl Tryd.func28 rfl rfl rfl (refInt (b := (([] ++ Pk.int (Pk.toU m.kind)) ++ Pk.int (Pk.toU m.id))) m.code _ (H.rowbs (A := A2) rfl) hm.2.2.1 (by simp only [List.length_append, List.length_nil]; omega)) ?_)
      rintro _ W ⟨A3, c3, rfl, hc3, hd3, hn⟩
      replace H := H.new hn
      clear hn
      refine s_run (w_none rfl) rfl (as_s rfl rfl) ?_
      refine s_run (w_none rfl) rfl (as_i rfl rfl) ?_
      refine l_nil ?_
      refine k_ret ?_
      repeat (first | refine r_then ?_ | refine r_blk ?_)
      have hp : Mg.put m = (([] ++ Pk.int (Pk.toU m.kind)) ++ Pk.int (Pk.toU m.id)) ++ Pk.int (Pk.toU m.code) := by unfold Mg.put Mg.putB; rw [if_pos hne, if_pos (by omega)]; simp only [List.append_assoc, List.nil_append]
      rw [hp, hne]
      exact q_ret2 (v := .slice _ _ _) (x := .int _ _) rfl rfl rfl ⟨_, rfl, _, rfl, H.newB rfl rfl hc3 hd3⟩
    · have hk : ¬ m.kind = 3 := by simpa using hc19
      refine k_skip ?_
      refine k_seq ?_
      refine k_draw [(0, true), (1, true), (2, true), (4, true), (5, true), (7, true), (8, true), (3, false), (6, false), (9, false), (10, true), (11, true)] _ (by kernel_rfl) (by kernel_rfl) H (.refl _) ?_
      clear H; intro W H
      refine c_run rfl (w_none rfl) rfl (fun W H => mv_s rfl rfl) ?_
      refine c_run rfl (w_none rfl) rfl (fun W H => d_fa rfl rfl tf78_3) ?_
      refine c_run rfl (w_none rfl) rfl (fun W H => d_ldXM (g := gm) (cs := legC m.pays) (off := 3) rfl H rfl rfl rfl rfl rfl ta76 ts76) ?_
      refine c_run rfl (w_none rfl) rfl (fun W H => d_fa rfl rfl tf78_4) ?_
      refine c_run rfl (w_none rfl) rfl (fun W H => d_ldXM (g := gm) (cs := legC m.gets) (off := 6) rfl H rfl rfl rfl rfl rfl ta76 ts76) ?_
      refine c_run rfl (w_none rfl) rfl (fun W H => d_fa rfl rfl tf78_5) ?_
      refine c_run rfl (w_none rfl) rfl (fun W H => d_ldXM (g := gm) (off := 9) rfl H (sub_hash hm.2.2.2.2.2) (by rw [List.length_map]; exact hm.2.2.2.2.2) rfl rfl rfl ta36 ts36) ?_
      refine c_eff rfl (e_call (w_none rfl) rfl rfl Tryd.func95 rfl rfl rfl (legBR (b := (([] ++ Pk.int (Pk.toU m.kind)) ++ Pk.int (Pk.toU m.id))) (l := m.pays) _ (H.rowbs (A := A2) rfl) (by simp only [List.length_append, List.length_nil]; omega) hm.2.2.2.1) ?_)
      rintro _ W ⟨A3, c3, rfl, hc3, hd3, hn⟩
      replace H := H.new hn
      clear hn
      refine ⟨H.sub (by repeat (first | exact List.Sublist.refl _ | exact List.nil_sublist _ | refine List.Sublist.cons_cons _ ?_ | refine List.Sublist.cons _ ?_)), ?_⟩
      refine c_eff rfl (e_call (w_none rfl) rfl rfl Tryd.func95 rfl rfl rfl (legBR (b := (([] ++ Pk.int (Pk.toU m.kind)) ++ Pk.int (Pk.toU m.id)) ++ Mg.legB m.pays) (l := m.gets) _ (H.rowbs (A := A3) rfl) (by simp only [List.length_append, List.length_nil]; omega) hm.2.2.2.2.1) ?_)
      rintro _ W ⟨A4, c4, rfl, hc4, hd4, hn⟩
      replace H := H.new hn
      clear hn
      refine ⟨H.sub (by repeat (first | exact List.Sublist.refl _ | exact List.nil_sublist _ | refine List.Sublist.cons_cons _ ?_ | refine List.Sublist.cons _ ?_)), ?_⟩
      refine c_eff rfl (e_call (w_none rfl) rfl rfl Tryd.func30 rfl rfl rfl (refHash (b := ((([] ++ Pk.int (Pk.toU m.kind)) ++ Pk.int (Pk.toU m.id)) ++ Mg.legB m.pays) ++ Mg.legB m.gets) (h := m.hash) _ (H.rowbs (A := A4) rfl) (by simp only [List.length_append, List.length_nil]; omega) hm.2.2.2.2.2) ?_)
      rintro _ W ⟨A5, c5, rfl, hc5, hd5, hn⟩
      replace H := H.new hn
      clear hn
      refine ⟨H.sub (by repeat (first | exact List.Sublist.refl _ | exact List.nil_sublist _ | refine List.Sublist.cons_cons _ ?_ | refine List.Sublist.cons _ ?_)), ?_⟩
      refine c_run rfl (w_none rfl) rfl (fun W H => as_s rfl rfl) ?_
      refine c_run rfl (w_none rfl) rfl (fun W H => as_i rfl rfl) ?_
      refine c_nil ?_
      refine k_ret ?_
      repeat (first | refine r_then ?_ | refine r_blk ?_)
      have hp : Mg.put m = (((([] ++ Pk.int (Pk.toU m.kind)) ++ Pk.int (Pk.toU m.id)) ++ Mg.legB m.pays) ++ Mg.legB m.gets) ++ m.hash := by unfold Mg.put Mg.putB; rw [if_pos hne, if_neg (by omega)]; simp only [List.append_assoc, List.nil_append]
      rw [hp, hne]
      exact q_ret2 (v := .slice _ _ _) (x := .int _ _) rfl rfl rfl ⟨_, rfl, _, rfl, H.newB rfl rfl hc5 hd5⟩
end Go.Proofs.YtejaohlijaodjaaDoor

namespace Go.Proofs.YtejaohlijaodjaaDoor
open Go Go.RowKit
attribute [local irreducible] wpList

theorem St.untwo {T : Nat → Prop} {w0 W : World} {L : List Fact} {f f' : Fact} (H : St T w0 W (Fact.two f f' :: L)) (hd : ∀ g, f.fp g → ¬ f'.fp g) : St T w0 W (f :: f' :: L) := by
  have h1 := List.pairwise_cons.1 H.apart
  have h2 := H.holds _ (.head _)
  refine ⟨H.fr, fun x hx => ?_, fun x hx g hg => ?_, List.pairwise_cons.2 ⟨fun x hx g hg hxg => ?_, List.pairwise_cons.2 ⟨fun x hx g hg hxg => h1.1 x hx g (.inr hg) hxg, h1.2⟩⟩⟩
  · rcases List.mem_cons.1 hx with rfl | hx
    · exact h2.1
    · rcases List.mem_cons.1 hx with rfl | hx
      · exact h2.2
      · exact H.holds x (.tail _ hx)
  · rcases List.mem_cons.1 hx with rfl | hx
    · exact H.own _ (.head _) g (.inl hg)
    · rcases List.mem_cons.1 hx with rfl | hx
      · exact H.own _ (.head _) g (.inr hg)
      · exact H.own x (.tail _ hx) g hg
  · rcases List.mem_cons.1 hx with rfl | hx
    · exact hd g hg hxg
    · exact h1.1 x hx g (.inl hg) hxg
theorem spl_hash {m : DMessage} {h : List UInt8} (hm : m.hash.length = 32) (hh : h.length = 32) : spl (msgC m) 9 (h.map u8v) = msgC ⟨m.kind, m.id, m.code, m.pays, m.gets, h⟩ := by
  unfold msgC
  show _ :: _ :: _ :: _ :: _ :: _ :: _ :: _ :: _ :: spl (m.hash.map u8v) 0 (h.map u8v) = _
  rw [spl_all (by rw [List.length_map, List.length_map, hm, hh])]
theorem spl_8 {m : DMessage} {x : Int} : spl (msgC m) 8 [.int .i64 x] = msgC ⟨m.kind, m.id, m.code, m.pays, ⟨m.gets.whereA, m.gets.amount, x⟩, m.hash⟩ := by
  obtain ⟨k, i, c, p, q, h⟩ := m
  cases h <;> rfl
namespace Mg
def two (k i : Int) : DMessage := ⟨k, i, 0, ⟨0, 0, 0⟩, ⟨0, 0, 0⟩, z32⟩
theorem rInt_ok {s : RS} : (-9223372036854775808 : Int) ≤ ((Pk.rInt s).1 : Int) ∧ ((Pk.rInt s).1 : Int) ≤ 9223372036854775807 := by
  have := Pk.rInt_lt (s := s); omega
theorem ok_rLeg {s : RS} : OkL (rLeg s).1 := ⟨rInt_ok, rInt_ok, rInt_ok⟩
theorem ok_body {k i : Int} {s : RS} (hk : -9223372036854775808 ≤ k ∧ k ≤ 9223372036854775807) (hi : -9223372036854775808 ≤ i ∧ i ≤ 9223372036854775807) : Ok (body k i s).1 := by
  unfold body
  split
  · exact ⟨hk, hi, rInt_ok, okl_0, okl_0, List.length_replicate⟩
  · exact ⟨hk, hi, ⟨by show (-9223372036854775808 : Int) ≤ 0; decide, by show (0 : Int) ≤ 9223372036854775807; decide⟩, ok_rLeg, ok_rLeg, Pk.len_full Pk.next_len⟩
theorem ok_sLeg {s : RS} (h : Pk.Ok s) : Pk.Ok (rLeg s).2 := Pk.ok_rInt (Pk.ok_rInt (Pk.ok_rInt h))
theorem ok_sBody {k i : Int} {s : RS} (h : Pk.Ok s) : Pk.Ok (body k i s).2 := by
  unfold body
  split
  · exact Pk.ok_rInt h
  · exact Pk.ok_next (ok_sLeg (ok_sLeg h))
theorem rInt_bad {s : RS} (h : s.2 ≠ 0) : Pk.rInt s = (0, s) := by
  unfold Pk.rInt; rw [Pk.next_bad h]
theorem body_bad {k i : Int} {s : RS} (h : s.2 ≠ 0) : (body k i s).2 = s := by
  unfold body
  split
  · rw [rInt_bad h]
  · have e : (rLeg s).2 = s := by unfold rLeg; rw [rInt_bad h, rInt_bad h, rInt_bad h]
    unfold Pk.rBytes
    rw [e, e, Pk.next_bad h]
theorem end_bad {s : RS} (hok : Pk.Ok s) (h : s.2 ≠ 0) : Pk.rEnd s = s.2 := by
  unfold Pk.rEnd; rw [hok.1 h]; rfl
end Mg

set_option maxHeartbeats 4000000 in
theorem getCodeP {A0 : Option Addr} {n0 c0 r gm : Nat} {Y : List UInt8 → Prop} {s : RS} {m : DMessage} (w : World) (hR : (RdYP 5 96 r A0 n0 c0 Y s).p w) (hM : (Fact.blk gm (msgC m) 78).p w) (hne : ¬ RdT r A0 n0 c0 gm) (hok : Pk.Ok s) (hG : Gat w 0 formsC) (h0 : ¬ (fun g => g = gm ∨ RdT r A0 n0 c0 g) 0) (hm : m.hash.length = 32) : Calls Tryd.prog 116 [.pointer (some ⟨r, 0, none⟩), .pointer (some ⟨gm, 0, none⟩)].toArray w (Ret (fun v' w' => v' = .tuple #[] ∧ (Fact.two (Fact.blk gm (msgC ⟨m.kind, m.id, ((Pk.rInt s).1 : Int), m.pays, m.gets, m.hash⟩) 78) (RdYP 5 96 r A0 n0 c0 Y (Pk.rInt s).2)).p w' ∧ Fr (fun g => g = gm ∨ RdT r A0 n0 c0 g) w w')) := by
  have H0 := (St.begin (f := RdYP 5 96 r A0 n0 c0 Y s) hR (RdB.lt hR)).old (f := Fact.blk gm (msgC m) 78) hM (fun g hg => by cases hg; exact blk_lt hM) (fun x hx g hg hxg => by
    cases hg
    obtain rfl : x = RdYP 5 96 r A0 n0 c0 Y s := by simpa using hx
    exact hne hxg)
  refine k_enter (l := [_, _]) Tryd.func116 rfl rfl ?_
  have H := H0
  refine k_region ?_
  refine s_run (w_none rfl) rfl (mv_p rfl rfl) ?_
  refine s_run (w_none rfl) rfl (mv_p rfl rfl) ?_
  refine s_eff (e_call (w_none rfl) rfl rfl Tryd.func20 rfl rfl rfl (prgInt _ (H.get (f := RdYP 5 96 r A0 n0 c0 Y s)) hok (H.gatT hG h0) (fun h => h0 (.inr h))) ?_)
  rintro _ W ⟨rfl, hp, hf⟩
  replace H := H.mut (f := RdYP 5 96 r A0 n0 c0 Y s) (f' := RdYP 5 96 r A0 n0 c0 Y (Pk.rInt s).2) hf hp (fun _ h => h)
  clear hp hf
  refine s_run (w_none rfl) rfl (d_nil rfl rfl) ?_
  refine s_run (w_none rfl) rfl (d_fa rfl rfl tf78_2) ?_
  refine s_eff (e_stoK (msgC ⟨m.kind, m.id, ((Pk.rInt s).1 : Int), m.pays, m.gets, m.hash⟩) (w_none rfl) rfl rfl rfl rfl rfl ts3 rfl rfl H (by rw [len_msg (m := m) hm]; decide) rfl ?_)
  clear H; intro W H
  refine l_nil ?_
  refine k_nil ?_
  exact q_end0 rfl ⟨_, rfl, rfl, ⟨H.get (f := Fact.blk gm (msgC ⟨m.kind, m.id, ((Pk.rInt s).1 : Int), m.pays, m.gets, m.hash⟩) 78), H.get (f := RdYP 5 96 r A0 n0 c0 Y (Pk.rInt s).2)⟩, H.fr⟩

set_option maxHeartbeats 4000000 in
theorem getLegsP {A0 : Option Addr} {n0 c0 r gm : Nat} {Y : List UInt8 → Prop} {s : RS} {m : DMessage} (w : World) (hR : (RdYP 5 96 r A0 n0 c0 Y s).p w) (hM : (Fact.blk gm (msgC m) 78).p w) (hne : ¬ RdT r A0 n0 c0 gm) (hok : Pk.Ok s) (hG : Gat w 0 formsC) (h0 : ¬ (fun g => g = gm ∨ RdT r A0 n0 c0 g) 0) (hm : m.hash.length = 32) : Calls Tryd.prog 113 [.pointer (some ⟨r, 0, none⟩), .pointer (some ⟨gm, 0, none⟩)].toArray w (Ret (fun v' w' => v' = .tuple #[] ∧ (Fact.two (Fact.blk gm (msgC ⟨m.kind, m.id, m.code, (Mg.rLeg s).1, (Mg.rLeg (Mg.rLeg s).2).1, (Pk.rBytes 32 (Mg.rLeg (Mg.rLeg s).2).2).1⟩) 78) (RdYP 5 96 r A0 n0 c0 Y (Pk.rBytes 32 (Mg.rLeg (Mg.rLeg s).2).2).2)).p w' ∧ Fr (fun g => g = gm ∨ RdT r A0 n0 c0 g) w w')) := by
  have H0 := (St.begin (f := RdYP 5 96 r A0 n0 c0 Y s) hR (RdB.lt hR)).old (f := Fact.blk gm (msgC m) 78) hM (fun g hg => by cases hg; exact blk_lt hM) (fun x hx g hg hxg => by
    cases hg
    obtain rfl : x = RdYP 5 96 r A0 n0 c0 Y s := by simpa using hx
    exact hne hxg)
  refine k_enter (l := [_, _]) Tryd.func113 rfl rfl ?_
  have H := H0
  refine k_seq ?_
  refine k_seq ?_
  refine k_draw [(0, true), (1, true), (2, true), (3, true), (4, true), (5, true), (8, true), (6, false), (7, true)] _ (by kernel_rfl) (by kernel_rfl) H (.refl _) ?_
  clear H; intro W H
  refine c_run rfl (w_none rfl) rfl (fun W H => mv_p rfl rfl) ?_
  refine c_run rfl (w_none rfl) rfl (fun W H => d_nil rfl rfl) ?_
  refine c_run rfl (w_none rfl) rfl (fun W H => d_fa rfl rfl tf78_3) ?_
  refine c_run rfl (w_none rfl) rfl (fun W H => mv_p rfl rfl) ?_
  refine c_run rfl (w_none rfl) rfl (fun W H => d_nil rfl rfl) ?_
  refine c_run rfl (w_none rfl) rfl (fun W H => d_fa rfl rfl tf78_4) ?_
  refine c_run rfl (w_none rfl) rfl (fun W H => mv_i rfl rfl) ?_
  refine c_eff rfl (e_bsl (xs := [.tmp 8, .tmp 11]) (vals := [.pointer _, .pointer _]) (vs := [.pointer _, .pointer _]) (w_none rfl) rfl rfl rfl rfl rfl rfl tu154 ts153 ty153 rfl rfl rfl H ?_)
  clear H; intro gl W H
  refine ⟨H.sub (by repeat (first | exact List.Sublist.refl _ | exact List.nil_sublist _ | refine List.Sublist.cons_cons _ ?_ | refine List.Sublist.cons _ ?_)), ?_⟩
  refine c_run rfl (w_none rfl) rfl (fun W H => d_len rfl rfl tu154) ?_
  refine c_nil ?_
  refine k_block ?_
  refine k_unr (k_one ?_)
  refine k_seq ?_
  refine k_region ?_
  refine s_run (w_none rfl) rfl (d_lt rfl rfl rfl) ?_
  refine l_nil ?_
  refine k_seq ?_
  refine k_condT rfl rfl ?_
  refine k_skip ?_
  refine k_seq ?_
  refine k_block ?_
  refine k_seq ?_
  refine k_region ?_
  refine s_run (w_none rfl) rfl (d_iaS rfl (rd_blk (m := 2) (H.blk (g := gl)) rfl) rfl rfl (q := 0) rfl (by decide) tu154 ts153) ?_
  refine s_run (w_none rfl) rfl (d_ldE (s := 1) (q := 0) (off := 0) rfl (rd_blk (m := 2) (H.blk (g := gl)) rfl) (by decide) rfl rfl rfl rfl rfl ta153) ?_
  refine s_run (w_none rfl) rfl (as_p rfl rfl) ?_
  refine l_nil ?_
  refine k_region ?_
  refine s_run (w_none rfl) rfl (mv_p rfl rfl) ?_
  refine s_run (w_none rfl) rfl (mv_p rfl rfl) ?_
  refine s_run (w_none rfl) rfl (mv_p rfl rfl) ?_
  refine s_run (w_none rfl) rfl (mv_p rfl rfl) ?_
  refine s_eff (e_call (w_none rfl) rfl rfl Tryd.func20 rfl rfl rfl (prgInt _ (H.get (f := RdYP 5 96 r A0 n0 c0 Y s)) hok (H.gatT hG h0) (fun h => h0 (.inr h))) ?_)
  rintro _ W ⟨rfl, hp, hf⟩
  replace H := H.mut (f := RdYP 5 96 r A0 n0 c0 Y s) (f' := RdYP 5 96 r A0 n0 c0 Y (Pk.rInt s).2) hf hp (fun _ h => h)
  clear hp hf
  refine s_run (w_none rfl) rfl (mv_p rfl rfl) ?_
  refine s_eff (e_call (w_none rfl) rfl rfl Tryd.func20 rfl rfl rfl (prgInt _ (H.get (f := RdYP 5 96 r A0 n0 c0 Y (Pk.rInt s).2)) (Pk.ok_rInt hok) (H.gatT hG h0) (fun h => h0 (.inr h))) ?_)
  rintro _ W ⟨rfl, hp, hf⟩
  replace H := H.mut (f := RdYP 5 96 r A0 n0 c0 Y (Pk.rInt s).2) (f' := RdYP 5 96 r A0 n0 c0 Y (Pk.rInt (Pk.rInt s).2).2) hf hp (fun _ h => h)
  clear hp hf
  refine s_run (w_none rfl) rfl (mv_p rfl rfl) ?_
  refine s_eff (e_call (w_none rfl) rfl rfl Tryd.func20 rfl rfl rfl (prgInt _ (H.get (f := RdYP 5 96 r A0 n0 c0 Y (Pk.rInt (Pk.rInt s).2).2)) (Pk.ok_rInt (Pk.ok_rInt hok)) (H.gatT hG h0) (fun h => h0 (.inr h))) ?_)
  rintro _ W ⟨rfl, hp, hf⟩
  replace H := H.mut (f := RdYP 5 96 r A0 n0 c0 Y (Pk.rInt (Pk.rInt s).2).2) (f' := RdYP 5 96 r A0 n0 c0 Y (Pk.rInt (Pk.rInt (Pk.rInt s).2).2).2) hf hp (fun _ h => h)
  clear hp hf
  refine s_run (w_none rfl) rfl (d_nil rfl rfl) ?_
  refine s_run (w_none rfl) rfl (d_fa rfl rfl tf76_0) ?_
  refine s_eff (e_stoK (v := (.int .i64 ((Pk.rInt s).1 : Int))) (vs := [(.int .i64 ((Pk.rInt s).1 : Int))]) (msgC ⟨m.kind, m.id, m.code, ⟨((Pk.rInt s).1 : Int), m.pays.amount, m.pays.untilA⟩, m.gets, m.hash⟩) (w_none rfl) rfl rfl rfl rfl rfl ts3 rfl rfl H (by rw [len_msg (m := ⟨m.kind, m.id, m.code, m.pays, m.gets, m.hash⟩) hm]; decide) rfl ?_)
  clear H; intro W H
  refine s_run (w_none rfl) rfl (d_nil rfl rfl) ?_
  refine s_run (w_none rfl) rfl (d_fa rfl rfl tf76_1) ?_
  refine s_eff (e_stoK (v := (.int .i64 ((Pk.rInt (Pk.rInt s).2).1 : Int))) (vs := [(.int .i64 ((Pk.rInt (Pk.rInt s).2).1 : Int))]) (msgC ⟨m.kind, m.id, m.code, ⟨((Pk.rInt s).1 : Int), ((Pk.rInt (Pk.rInt s).2).1 : Int), m.pays.untilA⟩, m.gets, m.hash⟩) (w_none rfl) rfl rfl rfl rfl rfl ts3 rfl rfl H (by rw [len_msg (m := ⟨m.kind, m.id, m.code, ⟨((Pk.rInt s).1 : Int), m.pays.amount, m.pays.untilA⟩, m.gets, m.hash⟩) hm]; decide) rfl ?_)
  clear H; intro W H
  refine s_run (w_none rfl) rfl (d_nil rfl rfl) ?_
  refine s_run (w_none rfl) rfl (d_fa rfl rfl tf76_2) ?_
  refine s_eff (e_stoK (v := (.int .i64 ((Pk.rInt (Pk.rInt (Pk.rInt s).2).2).1 : Int))) (vs := [(.int .i64 ((Pk.rInt (Pk.rInt (Pk.rInt s).2).2).1 : Int))]) (msgC ⟨m.kind, m.id, m.code, ⟨((Pk.rInt s).1 : Int), ((Pk.rInt (Pk.rInt s).2).1 : Int), ((Pk.rInt (Pk.rInt (Pk.rInt s).2).2).1 : Int)⟩, m.gets, m.hash⟩) (w_none rfl) rfl rfl rfl rfl rfl ts3 rfl rfl H (by rw [len_msg (m := ⟨m.kind, m.id, m.code, ⟨((Pk.rInt s).1 : Int), ((Pk.rInt (Pk.rInt s).2).1 : Int), m.pays.untilA⟩, m.gets, m.hash⟩) hm]; decide) rfl ?_)
  clear H; intro W H
  refine l_nil ?_
  refine k_nil ?_
  refine b_end ?_
  refine k_region ?_
  refine s_run (w_none rfl) rfl (d_add rfl rfl rfl (by omega)) ?_
  refine s_run (w_none rfl) rfl (mv_i rfl rfl) ?_
  refine l_nil ?_
  refine k_nil ?_
  refine k_next (hd_of (k_one ?_))
  refine k_seq ?_
  refine k_region ?_
  refine s_run (w_none rfl) rfl (d_lt rfl rfl rfl) ?_
  refine l_nil ?_
  refine k_seq ?_
  refine k_condT rfl rfl ?_
  refine k_skip ?_
  refine k_seq ?_
  refine k_block ?_
  refine k_seq ?_
  refine k_region ?_
  refine s_run (w_none rfl) rfl (d_iaS rfl (rd_blk (m := 2) (H.blk (g := gl)) rfl) rfl rfl (q := 1) rfl (by decide) tu154 ts153) ?_
  refine s_run (w_none rfl) rfl (d_ldE (s := 1) (q := 1) (off := 0) rfl (rd_blk (m := 2) (H.blk (g := gl)) rfl) (by decide) rfl rfl rfl rfl rfl ta153) ?_
  refine s_run (w_none rfl) rfl (as_p rfl rfl) ?_
  refine l_nil ?_
  refine k_region ?_
  refine s_run (w_none rfl) rfl (mv_p rfl rfl) ?_
  refine s_run (w_none rfl) rfl (mv_p rfl rfl) ?_
  refine s_run (w_none rfl) rfl (mv_p rfl rfl) ?_
  refine s_run (w_none rfl) rfl (mv_p rfl rfl) ?_
  refine s_eff (e_call (w_none rfl) rfl rfl Tryd.func20 rfl rfl rfl (prgInt _ (H.get (f := RdYP 5 96 r A0 n0 c0 Y (Pk.rInt (Pk.rInt (Pk.rInt s).2).2).2)) (Pk.ok_rInt (Pk.ok_rInt (Pk.ok_rInt hok))) (H.gatT hG h0) (fun h => h0 (.inr h))) ?_)
  rintro _ W ⟨rfl, hp, hf⟩
  replace H := H.mut (f := RdYP 5 96 r A0 n0 c0 Y (Pk.rInt (Pk.rInt (Pk.rInt s).2).2).2) (f' := RdYP 5 96 r A0 n0 c0 Y (Pk.rInt (Pk.rInt (Pk.rInt (Pk.rInt s).2).2).2).2) hf hp (fun _ h => h)
  clear hp hf
  refine s_run (w_none rfl) rfl (mv_p rfl rfl) ?_
  refine s_eff (e_call (w_none rfl) rfl rfl Tryd.func20 rfl rfl rfl (prgInt _ (H.get (f := RdYP 5 96 r A0 n0 c0 Y (Pk.rInt (Pk.rInt (Pk.rInt (Pk.rInt s).2).2).2).2)) (Pk.ok_rInt (Pk.ok_rInt (Pk.ok_rInt (Pk.ok_rInt hok)))) (H.gatT hG h0) (fun h => h0 (.inr h))) ?_)
  rintro _ W ⟨rfl, hp, hf⟩
  replace H := H.mut (f := RdYP 5 96 r A0 n0 c0 Y (Pk.rInt (Pk.rInt (Pk.rInt (Pk.rInt s).2).2).2).2) (f' := RdYP 5 96 r A0 n0 c0 Y (Pk.rInt (Pk.rInt (Pk.rInt (Pk.rInt (Pk.rInt s).2).2).2).2).2) hf hp (fun _ h => h)
  clear hp hf
  refine s_run (w_none rfl) rfl (mv_p rfl rfl) ?_
  refine s_eff (e_call (w_none rfl) rfl rfl Tryd.func20 rfl rfl rfl (prgInt _ (H.get (f := RdYP 5 96 r A0 n0 c0 Y (Pk.rInt (Pk.rInt (Pk.rInt (Pk.rInt (Pk.rInt s).2).2).2).2).2)) (Pk.ok_rInt (Pk.ok_rInt (Pk.ok_rInt (Pk.ok_rInt (Pk.ok_rInt hok))))) (H.gatT hG h0) (fun h => h0 (.inr h))) ?_)
  rintro _ W ⟨rfl, hp, hf⟩
  replace H := H.mut (f := RdYP 5 96 r A0 n0 c0 Y (Pk.rInt (Pk.rInt (Pk.rInt (Pk.rInt (Pk.rInt s).2).2).2).2).2) (f' := RdYP 5 96 r A0 n0 c0 Y (Pk.rInt (Pk.rInt (Pk.rInt (Pk.rInt (Pk.rInt (Pk.rInt s).2).2).2).2).2).2) hf hp (fun _ h => h)
  clear hp hf
  refine s_run (w_none rfl) rfl (d_nil rfl rfl) ?_
  refine s_run (w_none rfl) rfl (d_fa rfl rfl tf76_0) ?_
  refine s_eff (e_stoK (v := (.int .i64 ((Pk.rInt (Pk.rInt (Pk.rInt (Pk.rInt s).2).2).2).1 : Int))) (vs := [(.int .i64 ((Pk.rInt (Pk.rInt (Pk.rInt (Pk.rInt s).2).2).2).1 : Int))]) (msgC ⟨m.kind, m.id, m.code, ⟨((Pk.rInt s).1 : Int), ((Pk.rInt (Pk.rInt s).2).1 : Int), ((Pk.rInt (Pk.rInt (Pk.rInt s).2).2).1 : Int)⟩, ⟨((Pk.rInt (Pk.rInt (Pk.rInt (Pk.rInt s).2).2).2).1 : Int), m.gets.amount, m.gets.untilA⟩, m.hash⟩) (w_none rfl) rfl rfl rfl rfl rfl ts3 rfl rfl H (by rw [len_msg (m := ⟨m.kind, m.id, m.code, ⟨((Pk.rInt s).1 : Int), ((Pk.rInt (Pk.rInt s).2).1 : Int), ((Pk.rInt (Pk.rInt (Pk.rInt s).2).2).1 : Int)⟩, m.gets, m.hash⟩) hm]; decide) rfl ?_)
  clear H; intro W H
  refine s_run (w_none rfl) rfl (d_nil rfl rfl) ?_
  refine s_run (w_none rfl) rfl (d_fa rfl rfl tf76_1) ?_
  refine s_eff (e_stoK (v := (.int .i64 ((Pk.rInt (Pk.rInt (Pk.rInt (Pk.rInt (Pk.rInt s).2).2).2).2).1 : Int))) (vs := [(.int .i64 ((Pk.rInt (Pk.rInt (Pk.rInt (Pk.rInt (Pk.rInt s).2).2).2).2).1 : Int))]) (msgC ⟨m.kind, m.id, m.code, ⟨((Pk.rInt s).1 : Int), ((Pk.rInt (Pk.rInt s).2).1 : Int), ((Pk.rInt (Pk.rInt (Pk.rInt s).2).2).1 : Int)⟩, ⟨((Pk.rInt (Pk.rInt (Pk.rInt (Pk.rInt s).2).2).2).1 : Int), ((Pk.rInt (Pk.rInt (Pk.rInt (Pk.rInt (Pk.rInt s).2).2).2).2).1 : Int), m.gets.untilA⟩, m.hash⟩) (w_none rfl) rfl rfl rfl rfl rfl ts3 rfl rfl H (by rw [len_msg (m := ⟨m.kind, m.id, m.code, ⟨((Pk.rInt s).1 : Int), ((Pk.rInt (Pk.rInt s).2).1 : Int), ((Pk.rInt (Pk.rInt (Pk.rInt s).2).2).1 : Int)⟩, ⟨((Pk.rInt (Pk.rInt (Pk.rInt (Pk.rInt s).2).2).2).1 : Int), m.gets.amount, m.gets.untilA⟩, m.hash⟩) hm]; decide) rfl ?_)
  clear H; intro W H
  refine s_run (w_none rfl) rfl (d_nil rfl rfl) ?_
  refine s_run (w_none rfl) rfl (d_fa rfl rfl tf76_2) ?_
  refine s_eff (e_stoK (v := (.int .i64 ((Pk.rInt (Pk.rInt (Pk.rInt (Pk.rInt (Pk.rInt (Pk.rInt s).2).2).2).2).2).1 : Int))) (vs := [(.int .i64 ((Pk.rInt (Pk.rInt (Pk.rInt (Pk.rInt (Pk.rInt (Pk.rInt s).2).2).2).2).2).1 : Int))]) (msgC ⟨m.kind, m.id, m.code, ⟨((Pk.rInt s).1 : Int), ((Pk.rInt (Pk.rInt s).2).1 : Int), ((Pk.rInt (Pk.rInt (Pk.rInt s).2).2).1 : Int)⟩, ⟨((Pk.rInt (Pk.rInt (Pk.rInt (Pk.rInt s).2).2).2).1 : Int), ((Pk.rInt (Pk.rInt (Pk.rInt (Pk.rInt (Pk.rInt s).2).2).2).2).1 : Int), ((Pk.rInt (Pk.rInt (Pk.rInt (Pk.rInt (Pk.rInt (Pk.rInt s).2).2).2).2).2).1 : Int)⟩, m.hash⟩) (w_none rfl) rfl rfl rfl rfl rfl ts3 rfl rfl H (by rw [len_msg (m := ⟨m.kind, m.id, m.code, ⟨((Pk.rInt s).1 : Int), ((Pk.rInt (Pk.rInt s).2).1 : Int), ((Pk.rInt (Pk.rInt (Pk.rInt s).2).2).1 : Int)⟩, ⟨((Pk.rInt (Pk.rInt (Pk.rInt (Pk.rInt s).2).2).2).1 : Int), ((Pk.rInt (Pk.rInt (Pk.rInt (Pk.rInt (Pk.rInt s).2).2).2).2).1 : Int), m.gets.untilA⟩, m.hash⟩) hm]; decide) spl_8 ?_)
  clear H; intro W H
  refine l_nil ?_
  refine k_nil ?_
  refine b_end ?_
  refine k_region ?_
  refine s_run (w_none rfl) rfl (d_add rfl rfl rfl (by omega)) ?_
  refine s_run (w_none rfl) rfl (mv_i rfl rfl) ?_
  refine l_nil ?_
  refine k_nil ?_
  refine k_next (hd_of (k_one ?_))
  refine k_seq ?_
  refine k_region ?_
  refine s_run (w_none rfl) rfl (d_lt rfl rfl rfl) ?_
  refine l_nil ?_
  refine k_seq ?_
  refine k_condF rfl rfl ?_
  refine k_exit ?_
  refine x_then (x_then ?_)
  refine x_hit ?_
  refine k_region ?_
  refine s_run (w_none rfl) rfl (mv_p rfl rfl) ?_
  refine s_run (w_none rfl) rfl (mv_p rfl rfl) ?_
  refine s_eff (e_call (w_none rfl) rfl rfl Tryd.func45 rfl rfl rfl (prgHash _ (H.get (f := RdYP 5 96 r A0 n0 c0 Y (Pk.rInt (Pk.rInt (Pk.rInt (Pk.rInt (Pk.rInt (Pk.rInt s).2).2).2).2).2).2)) (Pk.ok_rInt (Pk.ok_rInt (Pk.ok_rInt (Pk.ok_rInt (Pk.ok_rInt (Pk.ok_rInt hok))))))) ?_)
  rintro _ W ⟨rfl, hp, hf⟩
  replace H := H.mut (f := RdYP 5 96 r A0 n0 c0 Y (Pk.rInt (Pk.rInt (Pk.rInt (Pk.rInt (Pk.rInt (Pk.rInt s).2).2).2).2).2).2) (f' := RdYP 5 96 r A0 n0 c0 Y (Pk.rBytes 32 (Pk.rInt (Pk.rInt (Pk.rInt (Pk.rInt (Pk.rInt (Pk.rInt s).2).2).2).2).2).2).2) hf hp (fun _ h => h)
  clear hp hf
  refine s_run (w_none rfl) rfl (d_nil rfl rfl) ?_
  refine s_run (w_none rfl) rfl (d_fa rfl rfl tf78_5) ?_
  refine s_eff (e_stoK (msgC ⟨m.kind, m.id, m.code, ⟨((Pk.rInt s).1 : Int), ((Pk.rInt (Pk.rInt s).2).1 : Int), ((Pk.rInt (Pk.rInt (Pk.rInt s).2).2).1 : Int)⟩, ⟨((Pk.rInt (Pk.rInt (Pk.rInt (Pk.rInt s).2).2).2).1 : Int), ((Pk.rInt (Pk.rInt (Pk.rInt (Pk.rInt (Pk.rInt s).2).2).2).2).1 : Int), ((Pk.rInt (Pk.rInt (Pk.rInt (Pk.rInt (Pk.rInt (Pk.rInt s).2).2).2).2).2).1 : Int)⟩, (Pk.rBytes 32 (Pk.rInt (Pk.rInt (Pk.rInt (Pk.rInt (Pk.rInt (Pk.rInt s).2).2).2).2).2).2).1⟩) (w_none rfl) rfl rfl rfl rfl rfl ts36 (by rw [List.length_map]; exact Pk.len_full Pk.next_len) (all_u8L _) H (by rw [len_msg (m := ⟨m.kind, m.id, m.code, ⟨((Pk.rInt s).1 : Int), ((Pk.rInt (Pk.rInt s).2).1 : Int), ((Pk.rInt (Pk.rInt (Pk.rInt s).2).2).1 : Int)⟩, ⟨((Pk.rInt (Pk.rInt (Pk.rInt (Pk.rInt s).2).2).2).1 : Int), ((Pk.rInt (Pk.rInt (Pk.rInt (Pk.rInt (Pk.rInt s).2).2).2).2).1 : Int), ((Pk.rInt (Pk.rInt (Pk.rInt (Pk.rInt (Pk.rInt (Pk.rInt s).2).2).2).2).2).1 : Int)⟩, m.hash⟩) hm]; decide) (spl_hash (m := ⟨m.kind, m.id, m.code, ⟨((Pk.rInt s).1 : Int), ((Pk.rInt (Pk.rInt s).2).1 : Int), ((Pk.rInt (Pk.rInt (Pk.rInt s).2).2).1 : Int)⟩, ⟨((Pk.rInt (Pk.rInt (Pk.rInt (Pk.rInt s).2).2).2).1 : Int), ((Pk.rInt (Pk.rInt (Pk.rInt (Pk.rInt (Pk.rInt s).2).2).2).2).1 : Int), ((Pk.rInt (Pk.rInt (Pk.rInt (Pk.rInt (Pk.rInt (Pk.rInt s).2).2).2).2).2).1 : Int)⟩, m.hash⟩) hm (Pk.len_full Pk.next_len)) ?_)
  clear H; intro W H
  refine l_nil ?_
  refine k_nil ?_
  exact q_end0 rfl ⟨_, rfl, rfl, ⟨H.get (f := Fact.blk gm (msgC ⟨m.kind, m.id, m.code, ⟨((Pk.rInt s).1 : Int), ((Pk.rInt (Pk.rInt s).2).1 : Int), ((Pk.rInt (Pk.rInt (Pk.rInt s).2).2).1 : Int)⟩, ⟨((Pk.rInt (Pk.rInt (Pk.rInt (Pk.rInt s).2).2).2).1 : Int), ((Pk.rInt (Pk.rInt (Pk.rInt (Pk.rInt (Pk.rInt s).2).2).2).2).1 : Int), ((Pk.rInt (Pk.rInt (Pk.rInt (Pk.rInt (Pk.rInt (Pk.rInt s).2).2).2).2).2).1 : Int)⟩, (Pk.rBytes 32 (Pk.rInt (Pk.rInt (Pk.rInt (Pk.rInt (Pk.rInt (Pk.rInt s).2).2).2).2).2).2).1⟩) 78), H.get (f := RdYP 5 96 r A0 n0 c0 Y (Pk.rBytes 32 (Pk.rInt (Pk.rInt (Pk.rInt (Pk.rInt (Pk.rInt (Pk.rInt s).2).2).2).2).2).2).2)⟩, H.fr⟩

set_option maxHeartbeats 4000000 in
theorem getP {S : Nat → Prop} {v : Value} {b : List UInt8} (w : World) (hG : Gat w 0 formsC) (hb : Bs w S v b) (hl : b.length ≤ 1000000000000) : Calls Tryd.prog 65 [v].toArray w (Ret (Is w (.tuple #[.agg (msgC (Mg.get b).1).toArray, .int .i64 (Mg.get b).2]))) := by
  have hb0 := hb
  obtain ⟨A, c, rfl, _, _, _⟩ := hb.op
  have hok0 : Pk.Ok (b, (0 : Int)) := ⟨fun h => absurd rfl h, by simp, by simp⟩
  refine k_enter (l := [_]) Tryd.func65 rfl rfl ?_
  have H := St.start nT w
  refine k_seq ?_
  refine k_region ?_
  refine s_eff (e_alloc (w_none rfl) rfl rfl (msgC Mg.zero) (by kernel_rfl) H ?_)
  clear H; intro gv W H
  refine s_run (w_none rfl) rfl (as_i rfl rfl) ?_
  refine l_nil ?_
  refine k_seq ?_
  refine k_region ?_
  refine s_run (w_none rfl) rfl (mv_s rfl rfl) ?_
  refine s_eff (e_call (w_none rfl) rfl rfl Tryd.func19 rfl rfl rfl (prgRead (l := b) _ (H.bs hb0) hl) ?_)
  rintro _ W ⟨r, A0, c0, rfl, hS⟩
  replace H := H.add hS
  clear hS
  simp only [List.cons_append, List.nil_append] at H
  have h00 : ¬ RdT r A0 b.length c0 0 := fun ht => absurd ((H.own _ (.head _) 0 ht).1.resolve_left (fun h => h)) (by have := hG.1; omega)
  refine s_run (w_none rfl) rfl (as_p rfl rfl) ?_
  refine l_nil ?_
  refine k_seq ?_
  refine k_region ?_
  refine s_run (w_none rfl) rfl (mv_p rfl rfl) ?_
  refine s_eff (e_call (w_none rfl) rfl rfl Tryd.func20 rfl rfl rfl (prgInt _ (H.get (f := RdP 5 96 r A0 b.length c0 (b, 0))) hok0 (H.gat hG) h00) ?_)
  rintro _ W ⟨rfl, hp, hf⟩
  replace H := H.mut (f := RdP 5 96 r A0 b.length c0 (b, 0)) (f' := RdP 5 96 r A0 b.length c0 (Pk.rInt (b, 0)).2) hf hp (fun _ h => h)
  clear hp hf
  refine s_run (w_none rfl) rfl (mv_p rfl rfl) ?_
  refine s_eff (e_call (w_none rfl) rfl rfl Tryd.func20 rfl rfl rfl (prgInt _ (H.get (f := RdP 5 96 r A0 b.length c0 (Pk.rInt (b, 0)).2)) (Pk.ok_rInt hok0) (H.gat hG) h00) ?_)
  rintro _ W ⟨rfl, hp, hf⟩
  replace H := H.mut (f := RdP 5 96 r A0 b.length c0 (Pk.rInt (b, 0)).2) (f' := RdP 5 96 r A0 b.length c0 (Pk.rInt (Pk.rInt (b, 0)).2).2) hf hp (fun _ h => h)
  clear hp hf
  refine s_run (w_none rfl) rfl (d_build (vs := msgC (Mg.two ((Pk.rInt (b, 0)).1 : Int) ((Pk.rInt (Pk.rInt (b, 0)).2).1 : Int))) rfl (by kernel_rfl)) ?_
  refine s_eff (e_alloc (w_none rfl) rfl rfl (msgC Mg.zero) (by kernel_rfl) H ?_)
  clear H; intro gm W H
  refine s_eff (e_stoK (msgC (Mg.two ((Pk.rInt (b, 0)).1 : Int) ((Pk.rInt (Pk.rInt (b, 0)).2).1 : Int))) (w_none rfl) rfl rfl rfl rfl rfl ts78 (len_msg List.length_replicate) msg_one H (by rw [len_msg (m := Mg.zero) List.length_replicate]; decide) (spl_all ((len_msg List.length_replicate).trans (len_msg (m := Mg.zero) List.length_replicate).symm)) ?_)
  clear H; intro W H
  refine l_nil ?_
  refine k_seq ?_
  rcases (show (((Pk.rInt (b, 0)).1 : Int) < 1 ∨ 3 < ((Pk.rInt (b, 0)).1 : Int)) ∨ (((Pk.rInt (b, 0)).1 : Int) = 1 ∨ ((Pk.rInt (b, 0)).1 : Int) = 2) ∨ ((Pk.rInt (b, 0)).1 : Int) = 3 by omega) with hk | hk | hk
  · skip
    refine k_region ?_
    refine s_run (w_none rfl) rfl (d_fa rfl rfl tf78_0) ?_
    refine s_run (w_none rfl) rfl (d_ldX (g := gm) (off := 0) (v := .int .i64 ((Pk.rInt (b, 0)).1 : Int)) rfl H rfl rfl rfl ta3) ?_
    refine s_eff (e_call (w_none rfl) rfl rfl Tryd.func93 rfl rfl rfl (kindC _ hk) ?_)
    rintro _ W ⟨rfl, hb⟩
    replace H := H.below hb
    clear hb
    refine s_run (w_none rfl) rfl (as_p rfl rfl) ?_
    refine l_nil ?_
    refine k_seq ?_
    refine k_block ?_
    refine k_seq ?_
    refine k_region ?_
    refine s_run (w_none rfl) rfl (mv_p rfl rfl) ?_
    refine s_eff (e_call (w_none rfl) rfl rfl Tryd.func39 rfl rfl rfl (prgBad _ (H.get (f := RdP 5 96 r A0 b.length c0 (Pk.rInt (Pk.rInt (b, 0)).2).2))) ?_)
    rintro _ W ⟨rfl, hb⟩
    replace H := H.below hb
    clear hb
    refine s_run (w_none rfl) rfl (as_b rfl rfl) ?_
    refine l_nil ?_
    refine k_cond rfl (fun hc18 => ?_) (fun hc18 => ?_)
    · have hbad : (Pk.rInt (Pk.rInt (b, 0)).2).2.2 ≠ 0 := by simpa using hc18
      refine k_seq ?_
      refine k_region ?_
      refine s_run (w_none rfl) rfl (d_build (vs := msgC Mg.zero) rfl (by kernel_rfl)) ?_
      refine s_run (w_none rfl) rfl (mv_p rfl rfl) ?_
      refine s_eff (e_call (w_none rfl) rfl rfl Tryd.func21 rfl rfl rfl (prgEnd _ (H.get (f := RdP 5 96 r A0 b.length c0 (Pk.rInt (Pk.rInt (b, 0)).2).2))) ?_)
      rintro _ W ⟨rfl, hb⟩
      replace H := H.below hb
      clear hb
      refine s_eff (e_stoK (msgC Mg.zero) (w_none rfl) rfl rfl rfl rfl rfl ts78 (len_msg List.length_replicate) msg_one H (by rw [len_msg (m := Mg.zero) List.length_replicate]; decide) (spl_all ((len_msg List.length_replicate).trans (len_msg (m := Mg.zero) List.length_replicate).symm)) ?_)
      clear H; intro W H
      refine s_run (w_none rfl) rfl (as_i rfl rfl) ?_
      refine l_nil ?_
      refine k_ret ?_
      repeat (first | refine r_then ?_ | refine r_blk ?_)
      have hget : Mg.get b = (Mg.zero, Pk.rEnd (Pk.rInt (Pk.rInt (b, 0)).2).2) := by unfold Mg.get; rw [if_pos hbad, Mg.end_bad (Pk.ok_rInt (Pk.ok_rInt hok0)) hbad]
      rw [hget]
      exact q_retct (g := gv) (t' := 78) rfl H rfl ta78 (by rw [len_msg (m := Mg.zero) List.length_replicate]; exact ts78) rfl ⟨_, rfl, rfl, H.under⟩
    · have hbad : (Pk.rInt (Pk.rInt (b, 0)).2).2.2 = 0 := by simpa using hc18
      refine k_seq ?_
      refine k_region ?_
      refine s_run (w_none rfl) rfl (mv_p rfl rfl) ?_
      refine s_run (w_none rfl) rfl (d_eqpn rfl rfl rfl (by kernel_rfl)) ?_
      refine s_run (w_none rfl) rfl (as_b rfl rfl) ?_
      refine l_nil ?_
      refine k_condT rfl (by first | rfl | (simp; omega)) ?_
      refine k_seq ?_
      refine k_region ?_
      refine s_run (w_none rfl) rfl (d_build (vs := msgC Mg.zero) rfl (by kernel_rfl)) ?_
      refine s_eff (e_stoK (msgC Mg.zero) (w_none rfl) rfl rfl rfl rfl rfl ts78 (len_msg List.length_replicate) msg_one H (by rw [len_msg (m := Mg.zero) List.length_replicate]; decide) (spl_all ((len_msg List.length_replicate).trans (len_msg (m := Mg.zero) List.length_replicate).symm)) ?_)
      clear H; intro W H
      refine s_run (w_none rfl) rfl (as_i rfl rfl) ?_
      refine l_nil ?_
      refine k_ret ?_
      repeat (first | refine r_then ?_ | refine r_blk ?_)
      have hget : Mg.get b = (Mg.zero, 2) := by unfold Mg.get; rw [if_neg (by simpa using hbad), if_pos (by omega)]
      rw [hget]
      exact q_retct (g := gv) (t' := 78) rfl H rfl ta78 (by rw [len_msg (m := Mg.zero) List.length_replicate]; exact ts78) rfl ⟨_, rfl, rfl, H.under⟩
  · skip
    refine k_region ?_
    refine s_run (w_none rfl) rfl (d_fa rfl rfl tf78_0) ?_
    refine s_run (w_none rfl) rfl (d_ldX (g := gm) (off := 0) (v := .int .i64 ((Pk.rInt (b, 0)).1 : Int)) rfl H rfl rfl rfl ta3) ?_
    refine s_eff (e_call (w_none rfl) rfl rfl Tryd.func93 rfl rfl rfl (kindA _ hk) ?_)
    rintro _ W ⟨gk, rfl, hnk⟩
    replace H := H.new hnk
    clear hnk
    refine s_run (w_none rfl) rfl (as_p rfl rfl) ?_
    refine l_nil ?_
    refine k_seq ?_
    refine k_block ?_
    refine k_seq ?_
    refine k_region ?_
    refine s_run (w_none rfl) rfl (mv_p rfl rfl) ?_
    refine s_eff (e_call (w_none rfl) rfl rfl Tryd.func39 rfl rfl rfl (prgBad _ (H.get (f := RdP 5 96 r A0 b.length c0 (Pk.rInt (Pk.rInt (b, 0)).2).2))) ?_)
    rintro _ W ⟨rfl, hb⟩
    replace H := H.below hb
    clear hb
    refine s_run (w_none rfl) rfl (as_b rfl rfl) ?_
    refine l_nil ?_
    refine k_cond rfl (fun hc18 => ?_) (fun hc18 => ?_)
    · have hbad : (Pk.rInt (Pk.rInt (b, 0)).2).2.2 ≠ 0 := by simpa using hc18
      refine k_seq ?_
      refine k_region ?_
      refine s_run (w_none rfl) rfl (d_build (vs := msgC Mg.zero) rfl (by kernel_rfl)) ?_
      refine s_run (w_none rfl) rfl (mv_p rfl rfl) ?_
      refine s_eff (e_call (w_none rfl) rfl rfl Tryd.func21 rfl rfl rfl (prgEnd _ (H.get (f := RdP 5 96 r A0 b.length c0 (Pk.rInt (Pk.rInt (b, 0)).2).2))) ?_)
      rintro _ W ⟨rfl, hb⟩
      replace H := H.below hb
      clear hb
      refine s_eff (e_stoK (msgC Mg.zero) (w_none rfl) rfl rfl rfl rfl rfl ts78 (len_msg List.length_replicate) msg_one H (by rw [len_msg (m := Mg.zero) List.length_replicate]; decide) (spl_all ((len_msg List.length_replicate).trans (len_msg (m := Mg.zero) List.length_replicate).symm)) ?_)
      clear H; intro W H
      refine s_run (w_none rfl) rfl (as_i rfl rfl) ?_
      refine l_nil ?_
      refine k_ret ?_
      repeat (first | refine r_then ?_ | refine r_blk ?_)
      have hget : Mg.get b = (Mg.zero, Pk.rEnd (Pk.rInt (Pk.rInt (b, 0)).2).2) := by unfold Mg.get; rw [if_pos hbad, Mg.end_bad (Pk.ok_rInt (Pk.ok_rInt hok0)) hbad]
      rw [hget]
      exact q_retct (g := gv) (t' := 78) rfl H rfl ta78 (by rw [len_msg (m := Mg.zero) List.length_replicate]; exact ts78) rfl ⟨_, rfl, rfl, H.under⟩
    · have hbad : (Pk.rInt (Pk.rInt (b, 0)).2).2.2 = 0 := by simpa using hc18
      refine k_seq ?_
      refine k_region ?_
      refine s_run (w_none rfl) rfl (mv_p rfl rfl) ?_
      refine s_run (w_none rfl) rfl (d_eqpn rfl rfl rfl (by kernel_rfl)) ?_
      refine s_run (w_none rfl) rfl (as_b rfl rfl) ?_
      refine l_nil ?_
      refine k_condF rfl (by first | rfl | (simp; omega)) ?_
      refine k_skip ?_
      refine k_nil ?_
      refine b_end ?_
      refine k_seq ?_
      replace H := H.perm (.trans (.swap _ _ _) (.cons _ (.swap _ _ _)))
      have hne : ¬ RdT r A0 b.length c0 gm := (List.pairwise_cons.1 H.apart).1 _ (.head _) gm rfl
      have h01 : ¬ (0 = gm ∨ RdT r A0 b.length c0 0) := fun h => h.elim (fun h => absurd ((H.own _ (.head _) gm rfl).1.resolve_left (fun h => h)) (by have := hG.1; omega)) h00
      replace H := H.two
      refine k_region ?_
      refine s_run (w_none rfl) rfl (mv_p rfl rfl) ?_
      refine s_run (w_none rfl) rfl (d_nil rfl rfl) ?_
      refine s_run (w_none rfl) rfl (d_fa (c := 2) rfl rfl tf117_2) ?_
      refine s_run (w_none rfl) rfl (d_ld (g := gk) rfl H rfl ta115 rfl) ?_
      refine s_run (w_none rfl) rfl (mv_p rfl rfl) ?_
      refine s_eff (e_callv (w_none rfl) rfl rfl rfl Tryd.func113 rfl rfl rfl (getLegsP _ (H.get (f := Fact.two (Fact.blk gm (msgC (Mg.two ((Pk.rInt (b, 0)).1 : Int) ((Pk.rInt (Pk.rInt (b, 0)).2).1 : Int))) 78) (RdP 5 96 r A0 b.length c0 (Pk.rInt (Pk.rInt (b, 0)).2).2))).2 (H.get (f := Fact.two (Fact.blk gm (msgC (Mg.two ((Pk.rInt (b, 0)).1 : Int) ((Pk.rInt (Pk.rInt (b, 0)).2).1 : Int))) 78) (RdP 5 96 r A0 b.length c0 (Pk.rInt (Pk.rInt (b, 0)).2).2))).1 hne (Pk.ok_rInt (Pk.ok_rInt hok0)) (H.gat hG) h01 List.length_replicate) ?_)
      rintro _ W ⟨rfl, hp, hf⟩
      have hbody : Mg.body ((Pk.rInt (b, 0)).1 : Int) ((Pk.rInt (Pk.rInt (b, 0)).2).1 : Int) (Pk.rInt (Pk.rInt (b, 0)).2).2 = _ := if_neg (by omega)
      replace hp : (Fact.two (Fact.blk gm (msgC (Mg.body ((Pk.rInt (b, 0)).1 : Int) ((Pk.rInt (Pk.rInt (b, 0)).2).1 : Int) (Pk.rInt (Pk.rInt (b, 0)).2).2).1) 78) (RdP 5 96 r A0 b.length c0 (Mg.body ((Pk.rInt (b, 0)).1 : Int) ((Pk.rInt (Pk.rInt (b, 0)).2).1 : Int) (Pk.rInt (Pk.rInt (b, 0)).2).2).2)).p W := by rw [hbody]; exact hp
      replace H := H.mut (f := Fact.two (Fact.blk gm (msgC (Mg.two ((Pk.rInt (b, 0)).1 : Int) ((Pk.rInt (Pk.rInt (b, 0)).2).1 : Int))) 78) (RdP 5 96 r A0 b.length c0 (Pk.rInt (Pk.rInt (b, 0)).2).2)) (f' := Fact.two (Fact.blk gm (msgC (Mg.body ((Pk.rInt (b, 0)).1 : Int) ((Pk.rInt (Pk.rInt (b, 0)).2).1 : Int) (Pk.rInt (Pk.rInt (b, 0)).2).2).1) 78) (RdP 5 96 r A0 b.length c0 (Mg.body ((Pk.rInt (b, 0)).1 : Int) ((Pk.rInt (Pk.rInt (b, 0)).2).1 : Int) (Pk.rInt (Pk.rInt (b, 0)).2).2).2)) hf hp (fun _ h => h)
      clear hp hf
      replace H := H.untwo (fun g hg ht => hne (by cases hg; exact ht))
      refine l_nil ?_
      refine k_seq ?_
      refine k_region ?_
      refine s_run (w_none rfl) rfl (mv_p rfl rfl) ?_
      refine s_eff (e_call (w_none rfl) rfl rfl Tryd.func21 rfl rfl rfl (prgEnd _ (H.get (f := RdP 5 96 r A0 b.length c0 (Mg.body ((Pk.rInt (b, 0)).1 : Int) ((Pk.rInt (Pk.rInt (b, 0)).2).1 : Int) (Pk.rInt (Pk.rInt (b, 0)).2).2).2))) ?_)
      rintro _ W ⟨rfl, hb⟩
      replace H := H.below hb
      clear hb
      refine s_run (w_none rfl) rfl (as_i rfl rfl) ?_
      refine l_nil ?_
      refine k_seq ?_
      refine k_seq ?_
      refine k_region ?_
      refine s_run (w_none rfl) rfl (mv_i rfl rfl) ?_
      refine s_run (w_none rfl) rfl (d_eq rfl rfl rfl) ?_
      refine l_nil ?_
      refine k_cond rfl (fun hc37 => ?_) (fun hc37 => ?_)
      · have he : Pk.rEnd (Mg.body ((Pk.rInt (b, 0)).1 : Int) ((Pk.rInt (Pk.rInt (b, 0)).2).1 : Int) (Pk.rInt (Pk.rInt (b, 0)).2).2).2 = 0 := by simpa using hc37
        refine k_region ?_
        refine s_run (w_none rfl) rfl (d_ldXM (g := gm) (off := 0) rfl H (sub_all (len_msg (Mg.ok_body (s := (Pk.rInt (Pk.rInt (b, 0)).2).2) Mg.rInt_ok Mg.rInt_ok).2.2.2.2.2)) (len_msg (Mg.ok_body (s := (Pk.rInt (Pk.rInt (b, 0)).2).2) Mg.rInt_ok Mg.rInt_ok).2.2.2.2.2) rfl rfl rfl ta78 ts78) ?_
        refine s_eff (e_call (w_none rfl) rfl rfl Tryd.func61 rfl rfl rfl (checkP _ (Mg.ok_body (s := (Pk.rInt (Pk.rInt (b, 0)).2).2) Mg.rInt_ok Mg.rInt_ok)) ?_)
        rintro _ W ⟨rfl, hb⟩
        replace H := H.below hb
        clear hb
        refine s_run (w_none rfl) rfl (as_i rfl rfl) ?_
        refine l_nil ?_
        refine k_seq ?_
        refine k_seq ?_
        refine k_region ?_
        refine s_run (w_none rfl) rfl (mv_i rfl rfl) ?_
        refine s_run (w_none rfl) rfl (d_ne rfl rfl rfl) ?_
        refine l_nil ?_
        refine k_cond rfl (fun hc41 => ?_) (fun hc41 => ?_)
        · have hck : ¬ Mg.chk (Mg.body ((Pk.rInt (b, 0)).1 : Int) ((Pk.rInt (Pk.rInt (b, 0)).2).1 : Int) (Pk.rInt (Pk.rInt (b, 0)).2).2).1 = 0 := by simpa using hc41
          refine k_seq ?_
          refine k_region ?_
          refine s_run (w_none rfl) rfl (d_build (vs := msgC Mg.zero) rfl (by kernel_rfl)) ?_
          refine s_run (w_none rfl) rfl (mv_i rfl rfl) ?_
          refine s_eff (e_stoK (msgC Mg.zero) (w_none rfl) rfl rfl rfl rfl rfl ts78 (len_msg List.length_replicate) msg_one H (by rw [len_msg (m := Mg.zero) List.length_replicate]; decide) (spl_all ((len_msg List.length_replicate).trans (len_msg (m := Mg.zero) List.length_replicate).symm)) ?_)
          clear H; intro W H
          refine s_run (w_none rfl) rfl (as_i rfl rfl) ?_
          refine l_nil ?_
          refine k_ret ?_
          repeat (first | refine r_then ?_ | refine r_blk ?_)
          have hget : Mg.get b = (Mg.zero, Mg.chk (Mg.body ((Pk.rInt (b, 0)).1 : Int) ((Pk.rInt (Pk.rInt (b, 0)).2).1 : Int) (Pk.rInt (Pk.rInt (b, 0)).2).2).1) := by unfold Mg.get Mg.fin; rw [if_neg (by simpa using hbad), if_neg (by omega), if_pos he, if_neg hck]
          rw [hget]
          exact q_retct (g := gv) (t' := 78) rfl H rfl ta78 (by rw [len_msg (m := Mg.zero) List.length_replicate]; exact ts78) rfl ⟨_, rfl, rfl, H.under⟩
        · have hck : Mg.chk (Mg.body ((Pk.rInt (b, 0)).1 : Int) ((Pk.rInt (Pk.rInt (b, 0)).2).1 : Int) (Pk.rInt (Pk.rInt (b, 0)).2).2).1 = 0 := by simpa using hc41
          refine k_skip ?_
          refine k_seq ?_
          refine k_region ?_
          refine s_run (w_none rfl) rfl (d_ldXM (g := gm) (off := 0) rfl H (sub_all (len_msg (Mg.ok_body (s := (Pk.rInt (Pk.rInt (b, 0)).2).2) Mg.rInt_ok Mg.rInt_ok).2.2.2.2.2)) (len_msg (Mg.ok_body (s := (Pk.rInt (Pk.rInt (b, 0)).2).2) Mg.rInt_ok Mg.rInt_ok).2.2.2.2.2) rfl rfl rfl ta78 ts78) ?_
          refine s_eff (e_stoK (msgC (Mg.body ((Pk.rInt (b, 0)).1 : Int) ((Pk.rInt (Pk.rInt (b, 0)).2).1 : Int) (Pk.rInt (Pk.rInt (b, 0)).2).2).1) (w_none rfl) rfl rfl rfl rfl rfl ts78 (len_msg (Mg.ok_body (s := (Pk.rInt (Pk.rInt (b, 0)).2).2) Mg.rInt_ok Mg.rInt_ok).2.2.2.2.2) msg_one H (by rw [len_msg (m := Mg.zero) List.length_replicate]; decide) (spl_all ((len_msg (Mg.ok_body (s := (Pk.rInt (Pk.rInt (b, 0)).2).2) Mg.rInt_ok Mg.rInt_ok).2.2.2.2.2).trans (len_msg (m := Mg.zero) List.length_replicate).symm)) ?_)
          clear H; intro W H
          refine s_run (w_none rfl) rfl (as_i rfl rfl) ?_
          refine l_nil ?_
          refine k_ret ?_
          repeat (first | refine r_then ?_ | refine r_blk ?_)
          have hget : Mg.get b = ((Mg.body ((Pk.rInt (b, 0)).1 : Int) ((Pk.rInt (Pk.rInt (b, 0)).2).1 : Int) (Pk.rInt (Pk.rInt (b, 0)).2).2).1, 0) := by unfold Mg.get Mg.fin; rw [if_neg (by simpa using hbad), if_neg (by omega), if_pos he, if_pos hck]
          rw [hget]
          exact q_retct (g := gv) (t' := 78) rfl H rfl ta78 (by rw [len_msg (m := (Mg.body ((Pk.rInt (b, 0)).1 : Int) ((Pk.rInt (Pk.rInt (b, 0)).2).1 : Int) (Pk.rInt (Pk.rInt (b, 0)).2).2).1) (Mg.ok_body (s := (Pk.rInt (Pk.rInt (b, 0)).2).2) Mg.rInt_ok Mg.rInt_ok).2.2.2.2.2]; exact ts78) rfl ⟨_, rfl, rfl, H.under⟩
      · have he : ¬ Pk.rEnd (Mg.body ((Pk.rInt (b, 0)).1 : Int) ((Pk.rInt (Pk.rInt (b, 0)).2).1 : Int) (Pk.rInt (Pk.rInt (b, 0)).2).2).2 = 0 := by simpa using hc37
        refine k_skip ?_
        refine k_seq ?_
        refine k_seq ?_
        refine k_region ?_
        refine s_run (w_none rfl) rfl (mv_i rfl rfl) ?_
        refine s_run (w_none rfl) rfl (d_ne rfl rfl rfl) ?_
        refine l_nil ?_
        refine k_condT rfl (by simpa using he) ?_
        refine k_seq ?_
        refine k_region ?_
        refine s_run (w_none rfl) rfl (d_build (vs := msgC Mg.zero) rfl (by kernel_rfl)) ?_
        refine s_run (w_none rfl) rfl (mv_i rfl rfl) ?_
        refine s_eff (e_stoK (msgC Mg.zero) (w_none rfl) rfl rfl rfl rfl rfl ts78 (len_msg List.length_replicate) msg_one H (by rw [len_msg (m := Mg.zero) List.length_replicate]; decide) (spl_all ((len_msg List.length_replicate).trans (len_msg (m := Mg.zero) List.length_replicate).symm)) ?_)
        clear H; intro W H
        refine s_run (w_none rfl) rfl (as_i rfl rfl) ?_
        refine l_nil ?_
        refine k_ret ?_
        repeat (first | refine r_then ?_ | refine r_blk ?_)
        have hget : Mg.get b = (Mg.zero, Pk.rEnd (Mg.body ((Pk.rInt (b, 0)).1 : Int) ((Pk.rInt (Pk.rInt (b, 0)).2).1 : Int) (Pk.rInt (Pk.rInt (b, 0)).2).2).2) := by unfold Mg.get Mg.fin; rw [if_neg (by simpa using hbad), if_neg (by omega), if_neg he]
        rw [hget]
        exact q_retct (g := gv) (t' := 78) rfl H rfl ta78 (by rw [len_msg (m := Mg.zero) List.length_replicate]; exact ts78) rfl ⟨_, rfl, rfl, H.under⟩
  · skip
    refine k_region ?_
    refine s_run (w_none rfl) rfl (d_fa rfl rfl tf78_0) ?_
    refine s_run (w_none rfl) rfl (d_ldX (g := gm) (off := 0) (v := .int .i64 ((Pk.rInt (b, 0)).1 : Int)) rfl H rfl rfl rfl ta3) ?_
    refine s_eff (e_call (w_none rfl) rfl rfl Tryd.func93 rfl rfl rfl (kindB _ hk) ?_)
    rintro _ W ⟨gk, rfl, hnk⟩
    replace H := H.new hnk
    clear hnk
    refine s_run (w_none rfl) rfl (as_p rfl rfl) ?_
    refine l_nil ?_
    refine k_seq ?_
    refine k_block ?_
    refine k_seq ?_
    refine k_region ?_
    refine s_run (w_none rfl) rfl (mv_p rfl rfl) ?_
    refine s_eff (e_call (w_none rfl) rfl rfl Tryd.func39 rfl rfl rfl (prgBad _ (H.get (f := RdP 5 96 r A0 b.length c0 (Pk.rInt (Pk.rInt (b, 0)).2).2))) ?_)
    rintro _ W ⟨rfl, hb⟩
    replace H := H.below hb
    clear hb
    refine s_run (w_none rfl) rfl (as_b rfl rfl) ?_
    refine l_nil ?_
    refine k_cond rfl (fun hc18 => ?_) (fun hc18 => ?_)
    · have hbad : (Pk.rInt (Pk.rInt (b, 0)).2).2.2 ≠ 0 := by simpa using hc18
      refine k_seq ?_
      refine k_region ?_
      refine s_run (w_none rfl) rfl (d_build (vs := msgC Mg.zero) rfl (by kernel_rfl)) ?_
      refine s_run (w_none rfl) rfl (mv_p rfl rfl) ?_
      refine s_eff (e_call (w_none rfl) rfl rfl Tryd.func21 rfl rfl rfl (prgEnd _ (H.get (f := RdP 5 96 r A0 b.length c0 (Pk.rInt (Pk.rInt (b, 0)).2).2))) ?_)
      rintro _ W ⟨rfl, hb⟩
      replace H := H.below hb
      clear hb
      refine s_eff (e_stoK (msgC Mg.zero) (w_none rfl) rfl rfl rfl rfl rfl ts78 (len_msg List.length_replicate) msg_one H (by rw [len_msg (m := Mg.zero) List.length_replicate]; decide) (spl_all ((len_msg List.length_replicate).trans (len_msg (m := Mg.zero) List.length_replicate).symm)) ?_)
      clear H; intro W H
      refine s_run (w_none rfl) rfl (as_i rfl rfl) ?_
      refine l_nil ?_
      refine k_ret ?_
      repeat (first | refine r_then ?_ | refine r_blk ?_)
      have hget : Mg.get b = (Mg.zero, Pk.rEnd (Pk.rInt (Pk.rInt (b, 0)).2).2) := by unfold Mg.get; rw [if_pos hbad, Mg.end_bad (Pk.ok_rInt (Pk.ok_rInt hok0)) hbad]
      rw [hget]
      exact q_retct (g := gv) (t' := 78) rfl H rfl ta78 (by rw [len_msg (m := Mg.zero) List.length_replicate]; exact ts78) rfl ⟨_, rfl, rfl, H.under⟩
    · have hbad : (Pk.rInt (Pk.rInt (b, 0)).2).2.2 = 0 := by simpa using hc18
      refine k_seq ?_
      refine k_region ?_
      refine s_run (w_none rfl) rfl (mv_p rfl rfl) ?_
      refine s_run (w_none rfl) rfl (d_eqpn rfl rfl rfl (by kernel_rfl)) ?_
      refine s_run (w_none rfl) rfl (as_b rfl rfl) ?_
      refine l_nil ?_
      refine k_condF rfl (by first | rfl | (simp; omega)) ?_
      refine k_skip ?_
      refine k_nil ?_
      refine b_end ?_
      refine k_seq ?_
      replace H := H.perm (.trans (.swap _ _ _) (.cons _ (.swap _ _ _)))
      have hne : ¬ RdT r A0 b.length c0 gm := (List.pairwise_cons.1 H.apart).1 _ (.head _) gm rfl
      have h01 : ¬ (0 = gm ∨ RdT r A0 b.length c0 0) := fun h => h.elim (fun h => absurd ((H.own _ (.head _) gm rfl).1.resolve_left (fun h => h)) (by have := hG.1; omega)) h00
      replace H := H.two
      refine k_region ?_
      refine s_run (w_none rfl) rfl (mv_p rfl rfl) ?_
      refine s_run (w_none rfl) rfl (d_nil rfl rfl) ?_
      refine s_run (w_none rfl) rfl (d_fa (c := 2) rfl rfl tf117_2) ?_
      refine s_run (w_none rfl) rfl (d_ld (g := gk) rfl H rfl ta115 rfl) ?_
      refine s_run (w_none rfl) rfl (mv_p rfl rfl) ?_
      refine s_eff (e_callv (w_none rfl) rfl rfl rfl Tryd.func116 rfl rfl rfl (getCodeP _ (H.get (f := Fact.two (Fact.blk gm (msgC (Mg.two ((Pk.rInt (b, 0)).1 : Int) ((Pk.rInt (Pk.rInt (b, 0)).2).1 : Int))) 78) (RdP 5 96 r A0 b.length c0 (Pk.rInt (Pk.rInt (b, 0)).2).2))).2 (H.get (f := Fact.two (Fact.blk gm (msgC (Mg.two ((Pk.rInt (b, 0)).1 : Int) ((Pk.rInt (Pk.rInt (b, 0)).2).1 : Int))) 78) (RdP 5 96 r A0 b.length c0 (Pk.rInt (Pk.rInt (b, 0)).2).2))).1 hne (Pk.ok_rInt (Pk.ok_rInt hok0)) (H.gat hG) h01 List.length_replicate) ?_)
      rintro _ W ⟨rfl, hp, hf⟩
      have hbody : Mg.body ((Pk.rInt (b, 0)).1 : Int) ((Pk.rInt (Pk.rInt (b, 0)).2).1 : Int) (Pk.rInt (Pk.rInt (b, 0)).2).2 = _ := if_pos hk
      replace hp : (Fact.two (Fact.blk gm (msgC (Mg.body ((Pk.rInt (b, 0)).1 : Int) ((Pk.rInt (Pk.rInt (b, 0)).2).1 : Int) (Pk.rInt (Pk.rInt (b, 0)).2).2).1) 78) (RdP 5 96 r A0 b.length c0 (Mg.body ((Pk.rInt (b, 0)).1 : Int) ((Pk.rInt (Pk.rInt (b, 0)).2).1 : Int) (Pk.rInt (Pk.rInt (b, 0)).2).2).2)).p W := by rw [hbody]; exact hp
      replace H := H.mut (f := Fact.two (Fact.blk gm (msgC (Mg.two ((Pk.rInt (b, 0)).1 : Int) ((Pk.rInt (Pk.rInt (b, 0)).2).1 : Int))) 78) (RdP 5 96 r A0 b.length c0 (Pk.rInt (Pk.rInt (b, 0)).2).2)) (f' := Fact.two (Fact.blk gm (msgC (Mg.body ((Pk.rInt (b, 0)).1 : Int) ((Pk.rInt (Pk.rInt (b, 0)).2).1 : Int) (Pk.rInt (Pk.rInt (b, 0)).2).2).1) 78) (RdP 5 96 r A0 b.length c0 (Mg.body ((Pk.rInt (b, 0)).1 : Int) ((Pk.rInt (Pk.rInt (b, 0)).2).1 : Int) (Pk.rInt (Pk.rInt (b, 0)).2).2).2)) hf hp (fun _ h => h)
      clear hp hf
      replace H := H.untwo (fun g hg ht => hne (by cases hg; exact ht))
      refine l_nil ?_
      refine k_seq ?_
      refine k_region ?_
      refine s_run (w_none rfl) rfl (mv_p rfl rfl) ?_
      refine s_eff (e_call (w_none rfl) rfl rfl Tryd.func21 rfl rfl rfl (prgEnd _ (H.get (f := RdP 5 96 r A0 b.length c0 (Mg.body ((Pk.rInt (b, 0)).1 : Int) ((Pk.rInt (Pk.rInt (b, 0)).2).1 : Int) (Pk.rInt (Pk.rInt (b, 0)).2).2).2))) ?_)
      rintro _ W ⟨rfl, hb⟩
      replace H := H.below hb
      clear hb
      refine s_run (w_none rfl) rfl (as_i rfl rfl) ?_
      refine l_nil ?_
      refine k_seq ?_
      refine k_seq ?_
      refine k_region ?_
      refine s_run (w_none rfl) rfl (mv_i rfl rfl) ?_
      refine s_run (w_none rfl) rfl (d_eq rfl rfl rfl) ?_
      refine l_nil ?_
      refine k_cond rfl (fun hc37 => ?_) (fun hc37 => ?_)
      · have he : Pk.rEnd (Mg.body ((Pk.rInt (b, 0)).1 : Int) ((Pk.rInt (Pk.rInt (b, 0)).2).1 : Int) (Pk.rInt (Pk.rInt (b, 0)).2).2).2 = 0 := by simpa using hc37
        refine k_region ?_
        refine s_run (w_none rfl) rfl (d_ldXM (g := gm) (off := 0) rfl H (sub_all (len_msg (Mg.ok_body (s := (Pk.rInt (Pk.rInt (b, 0)).2).2) Mg.rInt_ok Mg.rInt_ok).2.2.2.2.2)) (len_msg (Mg.ok_body (s := (Pk.rInt (Pk.rInt (b, 0)).2).2) Mg.rInt_ok Mg.rInt_ok).2.2.2.2.2) rfl rfl rfl ta78 ts78) ?_
        refine s_eff (e_call (w_none rfl) rfl rfl Tryd.func61 rfl rfl rfl (checkP _ (Mg.ok_body (s := (Pk.rInt (Pk.rInt (b, 0)).2).2) Mg.rInt_ok Mg.rInt_ok)) ?_)
        rintro _ W ⟨rfl, hb⟩
        replace H := H.below hb
        clear hb
        refine s_run (w_none rfl) rfl (as_i rfl rfl) ?_
        refine l_nil ?_
        refine k_seq ?_
        refine k_seq ?_
        refine k_region ?_
        refine s_run (w_none rfl) rfl (mv_i rfl rfl) ?_
        refine s_run (w_none rfl) rfl (d_ne rfl rfl rfl) ?_
        refine l_nil ?_
        refine k_cond rfl (fun hc41 => ?_) (fun hc41 => ?_)
        · have hck : ¬ Mg.chk (Mg.body ((Pk.rInt (b, 0)).1 : Int) ((Pk.rInt (Pk.rInt (b, 0)).2).1 : Int) (Pk.rInt (Pk.rInt (b, 0)).2).2).1 = 0 := by simpa using hc41
          refine k_seq ?_
          refine k_region ?_
          refine s_run (w_none rfl) rfl (d_build (vs := msgC Mg.zero) rfl (by kernel_rfl)) ?_
          refine s_run (w_none rfl) rfl (mv_i rfl rfl) ?_
          refine s_eff (e_stoK (msgC Mg.zero) (w_none rfl) rfl rfl rfl rfl rfl ts78 (len_msg List.length_replicate) msg_one H (by rw [len_msg (m := Mg.zero) List.length_replicate]; decide) (spl_all ((len_msg List.length_replicate).trans (len_msg (m := Mg.zero) List.length_replicate).symm)) ?_)
          clear H; intro W H
          refine s_run (w_none rfl) rfl (as_i rfl rfl) ?_
          refine l_nil ?_
          refine k_ret ?_
          repeat (first | refine r_then ?_ | refine r_blk ?_)
          have hget : Mg.get b = (Mg.zero, Mg.chk (Mg.body ((Pk.rInt (b, 0)).1 : Int) ((Pk.rInt (Pk.rInt (b, 0)).2).1 : Int) (Pk.rInt (Pk.rInt (b, 0)).2).2).1) := by unfold Mg.get Mg.fin; rw [if_neg (by simpa using hbad), if_neg (by omega), if_pos he, if_neg hck]
          rw [hget]
          exact q_retct (g := gv) (t' := 78) rfl H rfl ta78 (by rw [len_msg (m := Mg.zero) List.length_replicate]; exact ts78) rfl ⟨_, rfl, rfl, H.under⟩
        · have hck : Mg.chk (Mg.body ((Pk.rInt (b, 0)).1 : Int) ((Pk.rInt (Pk.rInt (b, 0)).2).1 : Int) (Pk.rInt (Pk.rInt (b, 0)).2).2).1 = 0 := by simpa using hc41
          refine k_skip ?_
          refine k_seq ?_
          refine k_region ?_
          refine s_run (w_none rfl) rfl (d_ldXM (g := gm) (off := 0) rfl H (sub_all (len_msg (Mg.ok_body (s := (Pk.rInt (Pk.rInt (b, 0)).2).2) Mg.rInt_ok Mg.rInt_ok).2.2.2.2.2)) (len_msg (Mg.ok_body (s := (Pk.rInt (Pk.rInt (b, 0)).2).2) Mg.rInt_ok Mg.rInt_ok).2.2.2.2.2) rfl rfl rfl ta78 ts78) ?_
          refine s_eff (e_stoK (msgC (Mg.body ((Pk.rInt (b, 0)).1 : Int) ((Pk.rInt (Pk.rInt (b, 0)).2).1 : Int) (Pk.rInt (Pk.rInt (b, 0)).2).2).1) (w_none rfl) rfl rfl rfl rfl rfl ts78 (len_msg (Mg.ok_body (s := (Pk.rInt (Pk.rInt (b, 0)).2).2) Mg.rInt_ok Mg.rInt_ok).2.2.2.2.2) msg_one H (by rw [len_msg (m := Mg.zero) List.length_replicate]; decide) (spl_all ((len_msg (Mg.ok_body (s := (Pk.rInt (Pk.rInt (b, 0)).2).2) Mg.rInt_ok Mg.rInt_ok).2.2.2.2.2).trans (len_msg (m := Mg.zero) List.length_replicate).symm)) ?_)
          clear H; intro W H
          refine s_run (w_none rfl) rfl (as_i rfl rfl) ?_
          refine l_nil ?_
          refine k_ret ?_
          repeat (first | refine r_then ?_ | refine r_blk ?_)
          have hget : Mg.get b = ((Mg.body ((Pk.rInt (b, 0)).1 : Int) ((Pk.rInt (Pk.rInt (b, 0)).2).1 : Int) (Pk.rInt (Pk.rInt (b, 0)).2).2).1, 0) := by unfold Mg.get Mg.fin; rw [if_neg (by simpa using hbad), if_neg (by omega), if_pos he, if_pos hck]
          rw [hget]
          exact q_retct (g := gv) (t' := 78) rfl H rfl ta78 (by rw [len_msg (m := (Mg.body ((Pk.rInt (b, 0)).1 : Int) ((Pk.rInt (Pk.rInt (b, 0)).2).1 : Int) (Pk.rInt (Pk.rInt (b, 0)).2).2).1) (Mg.ok_body (s := (Pk.rInt (Pk.rInt (b, 0)).2).2) Mg.rInt_ok Mg.rInt_ok).2.2.2.2.2]; exact ts78) rfl ⟨_, rfl, rfl, H.under⟩
      · have he : ¬ Pk.rEnd (Mg.body ((Pk.rInt (b, 0)).1 : Int) ((Pk.rInt (Pk.rInt (b, 0)).2).1 : Int) (Pk.rInt (Pk.rInt (b, 0)).2).2).2 = 0 := by simpa using hc37
        refine k_skip ?_
        refine k_seq ?_
        refine k_seq ?_
        refine k_region ?_
        refine s_run (w_none rfl) rfl (mv_i rfl rfl) ?_
        refine s_run (w_none rfl) rfl (d_ne rfl rfl rfl) ?_
        refine l_nil ?_
        refine k_condT rfl (by simpa using he) ?_
        refine k_seq ?_
        refine k_region ?_
        refine s_run (w_none rfl) rfl (d_build (vs := msgC Mg.zero) rfl (by kernel_rfl)) ?_
        refine s_run (w_none rfl) rfl (mv_i rfl rfl) ?_
        refine s_eff (e_stoK (msgC Mg.zero) (w_none rfl) rfl rfl rfl rfl rfl ts78 (len_msg List.length_replicate) msg_one H (by rw [len_msg (m := Mg.zero) List.length_replicate]; decide) (spl_all ((len_msg List.length_replicate).trans (len_msg (m := Mg.zero) List.length_replicate).symm)) ?_)
        clear H; intro W H
        refine s_run (w_none rfl) rfl (as_i rfl rfl) ?_
        refine l_nil ?_
        refine k_ret ?_
        repeat (first | refine r_then ?_ | refine r_blk ?_)
        have hget : Mg.get b = (Mg.zero, Pk.rEnd (Mg.body ((Pk.rInt (b, 0)).1 : Int) ((Pk.rInt (Pk.rInt (b, 0)).2).1 : Int) (Pk.rInt (Pk.rInt (b, 0)).2).2).2) := by unfold Mg.get Mg.fin; rw [if_neg (by simpa using hbad), if_neg (by omega), if_neg he]
        rw [hget]
        exact q_retct (g := gv) (t' := 78) rfl H rfl ta78 (by rw [len_msg (m := Mg.zero) List.length_replicate]; exact ts78) rfl ⟨_, rfl, rfl, H.under⟩

set_option maxHeartbeats 4000000 in
theorem readR {S : Nat → Prop} {r c : Nat} {A : Option Addr} {cur : List UInt8} {s : RS} (w : World) (hR : (RefR 101 r A c cur s).p w) (hok : Pk.Ok s) (hB : Bs w S (.slice A cur.length c) cur) (hS : ∀ g, S g → ¬ g = r) (hl : cur.length ≤ 1000000000000) : Calls Tryd.prog 96 [.pointer (some ⟨r, 0, none⟩)].toArray w (Ret (ValP 101 r A c cur w (.agg (legC (Mg.rLeg s).1).toArray) (Mg.rLeg s).2)) := by
  refine k_enter (l := [_]) Tryd.func96 rfl rfl ?_
  have H := St.begin (f := RefR 101 r A c cur s) hR (fun g hg => by cases hg; exact refR_lt hR)
  refine k_seq ?_
  refine k_region ?_
  refine s_eff (e_alloc (w_none rfl) rfl rfl [.int .i64 0, .int .i64 0, .int .i64 0] tz76 H ?_)
  clear H; intro gv W H
  refine l_nil ?_
  refine k_seq ?_
  refine k_region ?_
  refine s_eff (e_alloc (w_none rfl) rfl rfl [.int .i64 0, .int .i64 0, .int .i64 0] tz76 H ?_)
  clear H; intro gl W H
  refine l_nil ?_
  refine k_seq ?_
  refine k_region ?_
  refine s_run (w_none rfl) rfl (mv_p rfl rfl) ?_
  refine s_eff (e_call (w_none rfl) rfl rfl Tryd.func75 rfl rfl rfl (refRdInt _ (H.get (f := RefR 101 r A c cur s)) hok (H.bsT hB hS) hS hl) ?_)
  rintro _ W ⟨rfl, hp, hf⟩
  replace H := H.mut (f := RefR 101 r A c cur s) (f' := RefR 101 r A c cur (Pk.rInt s).2) hf hp (fun _ h => h)
  clear hp hf
  refine s_run (w_none rfl) rfl (d_fa rfl rfl tf76_0) ?_
  refine s_eff (e_stoK ([.int .i64 ((Pk.rInt s).1 : Int), .int .i64 0, .int .i64 0]) (w_none rfl) rfl rfl rfl rfl rfl ts3 rfl rfl H (Nat.le_of_ble_eq_true rfl) rfl ?_)
  clear H; intro W H
  refine l_nil ?_
  refine k_seq ?_
  refine k_region ?_
  refine s_run (w_none rfl) rfl (mv_p rfl rfl) ?_
  refine s_eff (e_call (w_none rfl) rfl rfl Tryd.func75 rfl rfl rfl (refRdInt _ (H.get (f := RefR 101 r A c cur (Pk.rInt s).2)) (Pk.ok_rInt hok) (H.bsT hB hS) hS hl) ?_)
  rintro _ W ⟨rfl, hp, hf⟩
  replace H := H.mut (f := RefR 101 r A c cur (Pk.rInt s).2) (f' := RefR 101 r A c cur (Pk.rInt (Pk.rInt s).2).2) hf hp (fun _ h => h)
  clear hp hf
  refine s_run (w_none rfl) rfl (d_fa rfl rfl tf76_1) ?_
  refine s_eff (e_stoK ([.int .i64 ((Pk.rInt s).1 : Int), .int .i64 ((Pk.rInt (Pk.rInt s).2).1 : Int), .int .i64 0]) (w_none rfl) rfl rfl rfl rfl rfl ts3 rfl rfl H (Nat.le_of_ble_eq_true rfl) rfl ?_)
  clear H; intro W H
  refine l_nil ?_
  refine k_seq ?_
  refine k_region ?_
  refine s_run (w_none rfl) rfl (mv_p rfl rfl) ?_
  refine s_eff (e_call (w_none rfl) rfl rfl Tryd.func75 rfl rfl rfl (refRdInt _ (H.get (f := RefR 101 r A c cur (Pk.rInt (Pk.rInt s).2).2)) (Pk.ok_rInt (Pk.ok_rInt hok)) (H.bsT hB hS) hS hl) ?_)
  rintro _ W ⟨rfl, hp, hf⟩
  replace H := H.mut (f := RefR 101 r A c cur (Pk.rInt (Pk.rInt s).2).2) (f' := RefR 101 r A c cur (Pk.rInt (Pk.rInt (Pk.rInt s).2).2).2) hf hp (fun _ h => h)
  clear hp hf
  refine s_run (w_none rfl) rfl (d_fa rfl rfl tf76_2) ?_
  refine s_eff (e_stoK ([.int .i64 ((Pk.rInt s).1 : Int), .int .i64 ((Pk.rInt (Pk.rInt s).2).1 : Int), .int .i64 ((Pk.rInt (Pk.rInt (Pk.rInt s).2).2).1 : Int)]) (w_none rfl) rfl rfl rfl rfl rfl ts3 rfl rfl H (Nat.le_of_ble_eq_true rfl) rfl ?_)
  clear H; intro W H
  refine l_nil ?_
  refine k_seq ?_
  refine k_region ?_
  refine s_run (w_none rfl) rfl (d_ldm0 (g := gl) rfl H rfl ta76 ts76 rfl) ?_
  refine s_eff (e_stoK ([.int .i64 ((Pk.rInt s).1 : Int), .int .i64 ((Pk.rInt (Pk.rInt s).2).1 : Int), .int .i64 ((Pk.rInt (Pk.rInt (Pk.rInt s).2).2).1 : Int)]) (w_none rfl) rfl rfl rfl rfl rfl ts76 rfl rfl H (Nat.le_of_ble_eq_true rfl) rfl ?_)
  clear H; intro W H
  refine l_nil ?_
  refine k_ret ?_
  repeat (first | refine r_then ?_ | refine r_blk ?_)
  exact q_retc (g := gv) (t' := 76) (c := legC (Mg.rLeg s).1) rfl H rfl ta76 ts76 ⟨_, rfl, H.valP' (s' := (Pk.rInt (Pk.rInt (Pk.rInt s).2).2).2)⟩

set_option maxHeartbeats 4000000 in
theorem getR {S : Nat → Prop} {v : Value} {b : List UInt8} (w : World) (hb : Bs w S v b) (hl : b.length ≤ 1000000000000) : Calls Tryd.prog 66 [v].toArray w (Ret (Is w (.tuple #[.agg (msgC (Mg.get b).1).toArray, .int .i64 (Mg.get b).2]))) := by
  have hb0 := hb
  obtain ⟨A, c, rfl, _, _, _⟩ := hb.op
  have hok0 : Pk.Ok (b, (0 : Int)) := ⟨fun h => absurd rfl h, by simp, by simp⟩
  refine k_enter (l := [_]) Tryd.func66 rfl rfl ?_
  have H := St.start nT w
  refine k_seq ?_
  refine k_region ?_
  refine s_eff (e_alloc (w_none rfl) rfl rfl (msgC Mg.zero) (by kernel_rfl) H ?_)
  clear H; intro gv W H
  refine s_run (w_none rfl) rfl (as_i rfl rfl) ?_
  refine l_nil ?_
  refine k_seq ?_
  refine k_region ?_
  refine s_run (w_none rfl) rfl (mv_s rfl rfl) ?_
  refine s_eff (e_call (w_none rfl) rfl rfl Tryd.func34 rfl rfl rfl (refRead (l := b) _ (H.bs hb0) hl) ?_)
  rintro _ W ⟨rr, AR, cR, rfl, hcR1, hcR2, hS⟩
  replace H := H.add hS
  clear hS
  simp only [List.cons_append, List.nil_append] at H
  have hSS : ∀ g, (Value.slice AR b.length cR).ownBlock = some g → ¬ g = rr := fun g hg ht => (List.pairwise_cons.1 H.apart).1 _ (.head _) g ht hg
  refine s_run (w_none rfl) rfl (as_p rfl rfl) ?_
  refine l_nil ?_
  refine k_seq ?_
  refine k_region ?_
  refine s_eff (e_alloc (w_none rfl) rfl rfl (msgC Mg.zero) (by kernel_rfl) H ?_)
  clear H; intro gm W H
  refine l_nil ?_
  refine k_seq ?_
  refine k_region ?_
  refine s_run (w_none rfl) rfl (mv_p rfl rfl) ?_
  refine s_eff (e_call (w_none rfl) rfl rfl Tryd.func75 rfl rfl rfl (refRdInt _ (H.get (f := RefR 101 rr AR cR b (b, 0))) hok0 (bs_own (H.get (f := Fact.row 5 1 (.slice AR b.length cR) b.length (b.map u8v))) rfl) hSS hl) ?_)
  rintro _ W ⟨rfl, hp, hf⟩
  replace H := H.mut (f := RefR 101 rr AR cR b (b, 0)) (f' := RefR 101 rr AR cR b (Pk.rInt (b, 0)).2) hf hp (fun _ h => h)
  clear hp hf
  refine s_run (w_none rfl) rfl (d_fa rfl rfl tf78_0) ?_
  refine s_eff (e_stoK (msgC (Mg.two ((Pk.rInt (b, 0)).1 : Int) 0)) (w_none rfl) rfl rfl rfl rfl rfl ts3 rfl rfl H (by rw [len_msg (m := Mg.zero) List.length_replicate]; decide) rfl ?_)
  clear H; intro W H
  refine l_nil ?_
  refine k_seq ?_
  refine k_region ?_
  refine s_run (w_none rfl) rfl (mv_p rfl rfl) ?_
  refine s_eff (e_call (w_none rfl) rfl rfl Tryd.func75 rfl rfl rfl (refRdInt _ (H.get (f := RefR 101 rr AR cR b (Pk.rInt (b, 0)).2)) (Pk.ok_rInt hok0) (bs_own (H.get (f := Fact.row 5 1 (.slice AR b.length cR) b.length (b.map u8v))) rfl) hSS hl) ?_)
  rintro _ W ⟨rfl, hp, hf⟩
  replace H := H.mut (f := RefR 101 rr AR cR b (Pk.rInt (b, 0)).2) (f' := RefR 101 rr AR cR b (Pk.rInt (Pk.rInt (b, 0)).2).2) hf hp (fun _ h => h)
  clear hp hf
  refine s_run (w_none rfl) rfl (d_fa rfl rfl tf78_1) ?_
  refine s_eff (e_stoK (msgC (Mg.two ((Pk.rInt (b, 0)).1 : Int) ((Pk.rInt (Pk.rInt (b, 0)).2).1 : Int))) (w_none rfl) rfl rfl rfl rfl rfl ts3 rfl rfl H (by rw [len_msg (m := (Mg.two ((Pk.rInt (b, 0)).1 : Int) 0)) List.length_replicate]; decide) rfl ?_)
  clear H; intro W H
  refine l_nil ?_
  refine k_seq ?_
  refine k_seq ?_
  rcases (show (Pk.rInt (Pk.rInt (b, 0)).2).2.2 ≠ 0 ∨ ((Pk.rInt (Pk.rInt (b, 0)).2).2.2 = 0 ∧ ((Pk.rInt (b, 0)).1 : Int) < 1) ∨ ((Pk.rInt (Pk.rInt (b, 0)).2).2.2 = 0 ∧ 1 ≤ ((Pk.rInt (b, 0)).1 : Int) ∧ ((Pk.rInt (b, 0)).1 : Int) ≤ 3) ∨ ((Pk.rInt (Pk.rInt (b, 0)).2).2.2 = 0 ∧ 3 < ((Pk.rInt (b, 0)).1 : Int)) by omega) with hbad | ⟨hbad, hk⟩ | ⟨hbad, hk⟩ | ⟨hbad, hk⟩
  · skip
    refine k_region ?_
    refine s_run (w_none rfl) rfl (mv_p rfl rfl) ?_
    refine s_eff (e_call (w_none rfl) rfl rfl Tryd.func40 rfl rfl rfl (refBad _ (H.get (f := RefR 101 rr AR cR b (Pk.rInt (Pk.rInt (b, 0)).2).2))) ?_)
    rintro _ W ⟨rfl, hb⟩
    replace H := H.below hb
    clear hb
    refine s_run (w_none rfl) rfl (d_not rfl rfl) ?_
    refine s_run (w_none rfl) rfl (mv_bx (c := false) rfl rfl (by simp [hbad])) ?_
    refine s_skip (w_gno rfl rfl rfl rfl rfl) rfl ?_
    refine s_skip (w_gno rfl rfl rfl rfl rfl) rfl ?_
    refine s_skip (w_gno rfl rfl rfl rfl rfl) rfl ?_
    refine s_skip (w_gno rfl rfl rfl rfl rfl) rfl ?_
    refine s_skip (w_gu rfl rfl rfl rfl rfl) rfl ?_
    refine s_skip (w_gu rfl rfl rfl rfl rfl) rfl ?_
    refine s_skip (w_gu rfl rfl rfl rfl rfl) rfl ?_
    refine s_skip (w_gno rfl rfl rfl rfl rfl) rfl ?_
    refine s_run (w_none rfl) rfl (d_pickF rfl rfl rfl) ?_
    refine l_nil ?_
    refine k_condF rfl (by first | rfl | (simp; omega)) ?_
    refine k_skip ?_
    refine k_seq ?_
    refine k_seq ?_
    refine k_region ?_
    refine s_run (w_none rfl) rfl (d_fa rfl rfl tf78_0) ?_
    refine s_run (w_none rfl) rfl (d_ldX (g := gm) (off := 0) (v := .int .i64 ((Pk.rInt (b, 0)).1 : Int)) rfl H rfl rfl rfl ta3) ?_
    refine s_run (w_none rfl) rfl (d_eq rfl rfl rfl) ?_
    refine l_nil ?_
    refine k_cond rfl (fun hc31 => ?_) (fun hc31 => ?_)
    · have hk3 : ((Pk.rInt (b, 0)).1 : Int) = 3 := by simpa using hc31
      refine k_region ?_
      refine s_run (w_none rfl) rfl (mv_p rfl rfl) ?_
      refine s_eff (e_call (w_none rfl) rfl rfl Tryd.func75 rfl rfl rfl (refRdInt _ (H.get (f := RefR 101 rr AR cR b (Pk.rInt (Pk.rInt (b, 0)).2).2)) (Pk.ok_rInt (Pk.ok_rInt hok0)) (bs_own (H.get (f := Fact.row 5 1 (.slice AR b.length cR) b.length (b.map u8v))) rfl) hSS hl) ?_)
      rintro _ W ⟨rfl, hp, hf⟩
      replace H := H.mut (f := RefR 101 rr AR cR b (Pk.rInt (Pk.rInt (b, 0)).2).2) (f' := RefR 101 rr AR cR b (Pk.rInt (Pk.rInt (Pk.rInt (b, 0)).2).2).2) hf hp (fun _ h => h)
      clear hp hf
      refine s_run (w_none rfl) rfl (d_fa rfl rfl tf78_2) ?_
      refine s_eff (e_stoK (msgC ⟨((Pk.rInt (b, 0)).1 : Int), ((Pk.rInt (Pk.rInt (b, 0)).2).1 : Int), ((Pk.rInt (Pk.rInt (Pk.rInt (b, 0)).2).2).1 : Int), ⟨0, 0, 0⟩, ⟨0, 0, 0⟩, Mg.z32⟩) (w_none rfl) rfl rfl rfl rfl rfl ts3 rfl rfl H (by rw [len_msg (m := (Mg.two ((Pk.rInt (b, 0)).1 : Int) ((Pk.rInt (Pk.rInt (b, 0)).2).1 : Int))) List.length_replicate]; decide) rfl ?_)
      clear H; intro W H
      refine l_nil ?_
      have hbody : Mg.body ((Pk.rInt (b, 0)).1 : Int) ((Pk.rInt (Pk.rInt (b, 0)).2).1 : Int) (Pk.rInt (Pk.rInt (b, 0)).2).2 = _ := if_pos hk3
      replace H : St nT w W [Fact.blk gm (msgC (Mg.body ((Pk.rInt (b, 0)).1 : Int) ((Pk.rInt (Pk.rInt (b, 0)).2).1 : Int) (Pk.rInt (Pk.rInt (b, 0)).2).2).1) 78, RefR 101 rr AR cR b (Mg.body ((Pk.rInt (b, 0)).1 : Int) ((Pk.rInt (Pk.rInt (b, 0)).2).1 : Int) (Pk.rInt (Pk.rInt (b, 0)).2).2).2, Fact.row 5 1 (.slice AR b.length cR) b.length (b.map u8v), Fact.blk gv (msgC Mg.zero) 78] := by rw [hbody]; exact H
      refine k_seq ?_
      refine k_region ?_
      refine s_run (w_none rfl) rfl (mv_p rfl rfl) ?_
      refine s_eff (e_call (w_none rfl) rfl rfl Tryd.func37 rfl rfl rfl (refEnd _ (H.get (f := RefR 101 rr AR cR b (Mg.body ((Pk.rInt (b, 0)).1 : Int) ((Pk.rInt (Pk.rInt (b, 0)).2).1 : Int) (Pk.rInt (Pk.rInt (b, 0)).2).2).2)) (Mg.ok_sBody (Pk.ok_rInt (Pk.ok_rInt hok0))) hl) ?_)
      rintro _ W ⟨rfl, hb⟩
      replace H := H.below hb
      clear hb
      refine s_run (w_none rfl) rfl (as_i rfl rfl) ?_
      refine l_nil ?_
      refine k_seq ?_
      refine k_seq ?_
      refine k_region ?_
      refine s_run (w_none rfl) rfl (mv_i rfl rfl) ?_
      refine s_run (w_none rfl) rfl (d_eq rfl rfl rfl) ?_
      refine l_nil ?_
      refine k_condF rfl (by rw [Mg.body_bad hbad, Mg.end_bad (Pk.ok_rInt (Pk.ok_rInt hok0)) hbad]; simpa using hbad) ?_
      refine k_skip ?_
      refine k_seq ?_
      refine k_seq ?_
      refine k_region ?_
      refine s_run (w_none rfl) rfl (mv_i rfl rfl) ?_
      refine s_run (w_none rfl) rfl (d_ne rfl rfl rfl) ?_
      refine l_nil ?_
      refine k_condT rfl (by rw [Mg.body_bad hbad, Mg.end_bad (Pk.ok_rInt (Pk.ok_rInt hok0)) hbad]; simpa using hbad) ?_
      refine k_seq ?_
      refine k_region ?_
      refine s_run (w_none rfl) rfl (d_build (vs := msgC Mg.zero) rfl (by kernel_rfl)) ?_
      refine s_run (w_none rfl) rfl (mv_i rfl rfl) ?_
      refine s_eff (e_stoK (msgC Mg.zero) (w_none rfl) rfl rfl rfl rfl rfl ts78 (len_msg List.length_replicate) msg_one H (by rw [len_msg (m := Mg.zero) List.length_replicate]; decide) (spl_all ((len_msg List.length_replicate).trans (len_msg (m := Mg.zero) List.length_replicate).symm)) ?_)
      clear H; intro W H
      refine s_run (w_none rfl) rfl (as_i rfl rfl) ?_
      refine l_nil ?_
      refine k_ret ?_
      repeat (first | refine r_then ?_ | refine r_blk ?_)
      have hget : Mg.get b = (Mg.zero, Pk.rEnd (Mg.body ((Pk.rInt (b, 0)).1 : Int) ((Pk.rInt (Pk.rInt (b, 0)).2).1 : Int) (Pk.rInt (Pk.rInt (b, 0)).2).2).2) := by unfold Mg.get; rw [if_pos hbad, Mg.body_bad hbad, Mg.end_bad (Pk.ok_rInt (Pk.ok_rInt hok0)) hbad]
      rw [hget]
      exact q_retct (g := gv) (t' := 78) rfl H rfl ta78 (by rw [len_msg (m := Mg.zero) List.length_replicate]; exact ts78) rfl ⟨_, rfl, rfl, H.under⟩
    · have hk3 : ¬ ((Pk.rInt (b, 0)).1 : Int) = 3 := by simpa using hc31
      refine k_seq ?_
      refine k_region ?_
      refine s_run (w_none rfl) rfl (mv_p rfl rfl) ?_
      refine s_eff (e_call (w_none rfl) rfl rfl Tryd.func96 rfl rfl rfl (readR _ (H.get (f := RefR 101 rr AR cR b (Pk.rInt (Pk.rInt (b, 0)).2).2)) (Pk.ok_rInt (Pk.ok_rInt hok0)) (bs_own (H.get (f := Fact.row 5 1 (.slice AR b.length cR) b.length (b.map u8v))) rfl) hSS hl) ?_)
      rintro _ W ⟨rfl, hp, hf⟩
      replace H := H.mut (f := RefR 101 rr AR cR b (Pk.rInt (Pk.rInt (b, 0)).2).2) (f' := RefR 101 rr AR cR b (Mg.rLeg (Pk.rInt (Pk.rInt (b, 0)).2).2).2) hf hp (fun _ h => h)
      clear hp hf
      refine s_run (w_none rfl) rfl (d_fa rfl rfl tf78_3) ?_
      refine s_eff (e_stoK (msgC ⟨((Pk.rInt (b, 0)).1 : Int), ((Pk.rInt (Pk.rInt (b, 0)).2).1 : Int), 0, (Mg.rLeg (Pk.rInt (Pk.rInt (b, 0)).2).2).1, ⟨0, 0, 0⟩, Mg.z32⟩) (w_none rfl) rfl rfl rfl rfl rfl ts76 rfl rfl H (by rw [len_msg (m := (Mg.two ((Pk.rInt (b, 0)).1 : Int) ((Pk.rInt (Pk.rInt (b, 0)).2).1 : Int))) List.length_replicate]; decide) rfl ?_)
      clear H; intro W H
      refine l_nil ?_
      refine k_seq ?_
      refine k_region ?_
      refine s_run (w_none rfl) rfl (mv_p rfl rfl) ?_
      refine s_eff (e_call (w_none rfl) rfl rfl Tryd.func96 rfl rfl rfl (readR _ (H.get (f := RefR 101 rr AR cR b (Mg.rLeg (Pk.rInt (Pk.rInt (b, 0)).2).2).2)) (Mg.ok_sLeg (Pk.ok_rInt (Pk.ok_rInt hok0))) (bs_own (H.get (f := Fact.row 5 1 (.slice AR b.length cR) b.length (b.map u8v))) rfl) hSS hl) ?_)
      rintro _ W ⟨rfl, hp, hf⟩
      replace H := H.mut (f := RefR 101 rr AR cR b (Mg.rLeg (Pk.rInt (Pk.rInt (b, 0)).2).2).2) (f' := RefR 101 rr AR cR b (Mg.rLeg (Mg.rLeg (Pk.rInt (Pk.rInt (b, 0)).2).2).2).2) hf hp (fun _ h => h)
      clear hp hf
      refine s_run (w_none rfl) rfl (d_fa rfl rfl tf78_4) ?_
      refine s_eff (e_stoK (msgC ⟨((Pk.rInt (b, 0)).1 : Int), ((Pk.rInt (Pk.rInt (b, 0)).2).1 : Int), 0, (Mg.rLeg (Pk.rInt (Pk.rInt (b, 0)).2).2).1, (Mg.rLeg (Mg.rLeg (Pk.rInt (Pk.rInt (b, 0)).2).2).2).1, Mg.z32⟩) (w_none rfl) rfl rfl rfl rfl rfl ts76 rfl rfl H (by rw [len_msg (m := ⟨((Pk.rInt (b, 0)).1 : Int), ((Pk.rInt (Pk.rInt (b, 0)).2).1 : Int), 0, (Mg.rLeg (Pk.rInt (Pk.rInt (b, 0)).2).2).1, ⟨0, 0, 0⟩, Mg.z32⟩) List.length_replicate]; decide) rfl ?_)
      clear H; intro W H
      refine l_nil ?_
      refine k_region ?_
      refine s_run (w_none rfl) rfl (mv_p rfl rfl) ?_
      refine s_eff (e_call (w_none rfl) rfl rfl Tryd.func78 rfl rfl rfl (refRdHash _ (H.get (f := RefR 101 rr AR cR b (Mg.rLeg (Mg.rLeg (Pk.rInt (Pk.rInt (b, 0)).2).2).2).2)) (Mg.ok_sLeg (Mg.ok_sLeg (Pk.ok_rInt (Pk.ok_rInt hok0)))) (bs_own (H.get (f := Fact.row 5 1 (.slice AR b.length cR) b.length (b.map u8v))) rfl) hSS hl) ?_)
      rintro _ W ⟨rfl, hp, hf⟩
      replace H := H.mut (f := RefR 101 rr AR cR b (Mg.rLeg (Mg.rLeg (Pk.rInt (Pk.rInt (b, 0)).2).2).2).2) (f' := RefR 101 rr AR cR b (Pk.rBytes 32 (Mg.rLeg (Mg.rLeg (Pk.rInt (Pk.rInt (b, 0)).2).2).2).2).2) hf hp (fun _ h => h)
      clear hp hf
      refine s_run (w_none rfl) rfl (d_fa rfl rfl tf78_5) ?_
      refine s_eff (e_stoK (msgC ⟨((Pk.rInt (b, 0)).1 : Int), ((Pk.rInt (Pk.rInt (b, 0)).2).1 : Int), 0, (Mg.rLeg (Pk.rInt (Pk.rInt (b, 0)).2).2).1, (Mg.rLeg (Mg.rLeg (Pk.rInt (Pk.rInt (b, 0)).2).2).2).1, (Pk.rBytes 32 (Mg.rLeg (Mg.rLeg (Pk.rInt (Pk.rInt (b, 0)).2).2).2).2).1⟩) (w_none rfl) rfl rfl rfl rfl rfl ts36 (by rw [List.length_map]; exact Pk.len_full Pk.next_len) (all_u8L _) H (by rw [len_msg (m := ⟨((Pk.rInt (b, 0)).1 : Int), ((Pk.rInt (Pk.rInt (b, 0)).2).1 : Int), 0, (Mg.rLeg (Pk.rInt (Pk.rInt (b, 0)).2).2).1, (Mg.rLeg (Mg.rLeg (Pk.rInt (Pk.rInt (b, 0)).2).2).2).1, Mg.z32⟩) List.length_replicate]; decide) (spl_hash (m := ⟨((Pk.rInt (b, 0)).1 : Int), ((Pk.rInt (Pk.rInt (b, 0)).2).1 : Int), 0, (Mg.rLeg (Pk.rInt (Pk.rInt (b, 0)).2).2).1, (Mg.rLeg (Mg.rLeg (Pk.rInt (Pk.rInt (b, 0)).2).2).2).1, Mg.z32⟩) List.length_replicate (Pk.len_full Pk.next_len)) ?_)
      clear H; intro W H
      refine l_nil ?_
      have hbody : Mg.body ((Pk.rInt (b, 0)).1 : Int) ((Pk.rInt (Pk.rInt (b, 0)).2).1 : Int) (Pk.rInt (Pk.rInt (b, 0)).2).2 = _ := if_neg hk3
      replace H : St nT w W [Fact.blk gm (msgC (Mg.body ((Pk.rInt (b, 0)).1 : Int) ((Pk.rInt (Pk.rInt (b, 0)).2).1 : Int) (Pk.rInt (Pk.rInt (b, 0)).2).2).1) 78, RefR 101 rr AR cR b (Mg.body ((Pk.rInt (b, 0)).1 : Int) ((Pk.rInt (Pk.rInt (b, 0)).2).1 : Int) (Pk.rInt (Pk.rInt (b, 0)).2).2).2, Fact.row 5 1 (.slice AR b.length cR) b.length (b.map u8v), Fact.blk gv (msgC Mg.zero) 78] := by rw [hbody]; exact H
      refine k_seq ?_
      refine k_region ?_
      refine s_run (w_none rfl) rfl (mv_p rfl rfl) ?_
      refine s_eff (e_call (w_none rfl) rfl rfl Tryd.func37 rfl rfl rfl (refEnd _ (H.get (f := RefR 101 rr AR cR b (Mg.body ((Pk.rInt (b, 0)).1 : Int) ((Pk.rInt (Pk.rInt (b, 0)).2).1 : Int) (Pk.rInt (Pk.rInt (b, 0)).2).2).2)) (Mg.ok_sBody (Pk.ok_rInt (Pk.ok_rInt hok0))) hl) ?_)
      rintro _ W ⟨rfl, hb⟩
      replace H := H.below hb
      clear hb
      refine s_run (w_none rfl) rfl (as_i rfl rfl) ?_
      refine l_nil ?_
      refine k_seq ?_
      refine k_seq ?_
      refine k_region ?_
      refine s_run (w_none rfl) rfl (mv_i rfl rfl) ?_
      refine s_run (w_none rfl) rfl (d_eq rfl rfl rfl) ?_
      refine l_nil ?_
      refine k_condF rfl (by rw [Mg.body_bad hbad, Mg.end_bad (Pk.ok_rInt (Pk.ok_rInt hok0)) hbad]; simpa using hbad) ?_
      refine k_skip ?_
      refine k_seq ?_
      refine k_seq ?_
      refine k_region ?_
      refine s_run (w_none rfl) rfl (mv_i rfl rfl) ?_
      refine s_run (w_none rfl) rfl (d_ne rfl rfl rfl) ?_
      refine l_nil ?_
      refine k_condT rfl (by rw [Mg.body_bad hbad, Mg.end_bad (Pk.ok_rInt (Pk.ok_rInt hok0)) hbad]; simpa using hbad) ?_
      refine k_seq ?_
      refine k_region ?_
      refine s_run (w_none rfl) rfl (d_build (vs := msgC Mg.zero) rfl (by kernel_rfl)) ?_
      refine s_run (w_none rfl) rfl (mv_i rfl rfl) ?_
      refine s_eff (e_stoK (msgC Mg.zero) (w_none rfl) rfl rfl rfl rfl rfl ts78 (len_msg List.length_replicate) msg_one H (by rw [len_msg (m := Mg.zero) List.length_replicate]; decide) (spl_all ((len_msg List.length_replicate).trans (len_msg (m := Mg.zero) List.length_replicate).symm)) ?_)
      clear H; intro W H
      refine s_run (w_none rfl) rfl (as_i rfl rfl) ?_
      refine l_nil ?_
      refine k_ret ?_
      repeat (first | refine r_then ?_ | refine r_blk ?_)
      have hget : Mg.get b = (Mg.zero, Pk.rEnd (Mg.body ((Pk.rInt (b, 0)).1 : Int) ((Pk.rInt (Pk.rInt (b, 0)).2).1 : Int) (Pk.rInt (Pk.rInt (b, 0)).2).2).2) := by unfold Mg.get; rw [if_pos hbad, Mg.body_bad hbad, Mg.end_bad (Pk.ok_rInt (Pk.ok_rInt hok0)) hbad]
      rw [hget]
      exact q_retct (g := gv) (t' := 78) rfl H rfl ta78 (by rw [len_msg (m := Mg.zero) List.length_replicate]; exact ts78) rfl ⟨_, rfl, rfl, H.under⟩
  · skip
    refine k_region ?_
    refine s_run (w_none rfl) rfl (mv_p rfl rfl) ?_
    refine s_eff (e_call (w_none rfl) rfl rfl Tryd.func40 rfl rfl rfl (refBad _ (H.get (f := RefR 101 rr AR cR b (Pk.rInt (Pk.rInt (b, 0)).2).2))) ?_)
    rintro _ W ⟨rfl, hb⟩
    replace H := H.below hb
    clear hb
    refine s_run (w_none rfl) rfl (d_not rfl rfl) ?_
    refine s_run (w_none rfl) rfl (mv_bx (c := true) rfl rfl (by simp [hbad])) ?_
    refine s_run (w_g rfl rfl rfl rfl) rfl (d_fa rfl rfl tf78_0) ?_
    refine s_run (w_g rfl rfl rfl rfl) rfl (d_ldX (g := gm) (off := 0) (v := .int .i64 ((Pk.rInt (b, 0)).1 : Int)) rfl H rfl rfl rfl ta3) ?_
    refine s_run (w_g rfl rfl rfl rfl) rfl (d_lt rfl rfl rfl) ?_
    refine s_run (w_g rfl rfl rfl rfl) rfl (mv_bx (c := true) rfl rfl (by first | rfl | (simp; omega))) ?_
    refine s_skip (w_gno rfl rfl rfl rfl rfl) rfl ?_
    refine s_skip (w_gno rfl rfl rfl rfl rfl) rfl ?_
    refine s_skip (w_gno rfl rfl rfl rfl rfl) rfl ?_
    refine s_run (w_g rfl rfl rfl rfl) rfl (d_pickT rfl rfl rfl) ?_
    refine s_run (w_none rfl) rfl (d_pickT rfl rfl rfl) ?_
    refine l_nil ?_
    refine k_condT rfl (by first | rfl | (simp; omega)) ?_
    refine k_seq ?_
    refine k_region ?_
    refine s_run (w_none rfl) rfl (d_build (vs := msgC Mg.zero) rfl (by kernel_rfl)) ?_
    refine s_eff (e_stoK (msgC Mg.zero) (w_none rfl) rfl rfl rfl rfl rfl ts78 (len_msg List.length_replicate) msg_one H (by rw [len_msg (m := Mg.zero) List.length_replicate]; decide) (spl_all ((len_msg List.length_replicate).trans (len_msg (m := Mg.zero) List.length_replicate).symm)) ?_)
    clear H; intro W H
    refine s_run (w_none rfl) rfl (as_i rfl rfl) ?_
    refine l_nil ?_
    refine k_ret ?_
    repeat (first | refine r_then ?_ | refine r_blk ?_)
    have hget : Mg.get b = (Mg.zero, 2) := by unfold Mg.get; rw [if_neg (by simpa using hbad), if_pos (by omega)]
    rw [hget]
    exact q_retct (g := gv) (t' := 78) rfl H rfl ta78 (by rw [len_msg (m := Mg.zero) List.length_replicate]; exact ts78) rfl ⟨_, rfl, rfl, H.under⟩
  · skip
    refine k_region ?_
    refine s_run (w_none rfl) rfl (mv_p rfl rfl) ?_
    refine s_eff (e_call (w_none rfl) rfl rfl Tryd.func40 rfl rfl rfl (refBad _ (H.get (f := RefR 101 rr AR cR b (Pk.rInt (Pk.rInt (b, 0)).2).2))) ?_)
    rintro _ W ⟨rfl, hb⟩
    replace H := H.below hb
    clear hb
    refine s_run (w_none rfl) rfl (d_not rfl rfl) ?_
    refine s_run (w_none rfl) rfl (mv_bx (c := true) rfl rfl (by simp [hbad])) ?_
    refine s_run (w_g rfl rfl rfl rfl) rfl (d_fa rfl rfl tf78_0) ?_
    refine s_run (w_g rfl rfl rfl rfl) rfl (d_ldX (g := gm) (off := 0) (v := .int .i64 ((Pk.rInt (b, 0)).1 : Int)) rfl H rfl rfl rfl ta3) ?_
    refine s_run (w_g rfl rfl rfl rfl) rfl (d_lt rfl rfl rfl) ?_
    refine s_run (w_g rfl rfl rfl rfl) rfl (mv_bx (c := false) rfl rfl (by first | rfl | (simp; omega))) ?_
    refine s_run (w_g rfl rfl rfl rfl) rfl (d_fa rfl rfl tf78_0) ?_
    refine s_run (w_g rfl rfl rfl rfl) rfl (d_ldX (g := gm) (off := 0) (v := .int .i64 ((Pk.rInt (b, 0)).1 : Int)) rfl H rfl rfl rfl ta3) ?_
    refine s_run (w_g rfl rfl rfl rfl) rfl (d_gt rfl rfl rfl) ?_
    refine s_run (w_g rfl rfl rfl rfl) rfl (d_pickF rfl rfl rfl) ?_
    refine s_run (w_none rfl) rfl (d_pickT rfl rfl rfl) ?_
    refine l_nil ?_
    refine k_condF rfl (by first | rfl | (simp; omega)) ?_
    refine k_skip ?_
    refine k_seq ?_
    refine k_seq ?_
    refine k_region ?_
    refine s_run (w_none rfl) rfl (d_fa rfl rfl tf78_0) ?_
    refine s_run (w_none rfl) rfl (d_ldX (g := gm) (off := 0) (v := .int .i64 ((Pk.rInt (b, 0)).1 : Int)) rfl H rfl rfl rfl ta3) ?_
    refine s_run (w_none rfl) rfl (d_eq rfl rfl rfl) ?_
    refine l_nil ?_
    refine k_cond rfl (fun hc31 => ?_) (fun hc31 => ?_)
    · have hk3 : ((Pk.rInt (b, 0)).1 : Int) = 3 := by simpa using hc31
      refine k_region ?_
      refine s_run (w_none rfl) rfl (mv_p rfl rfl) ?_
      refine s_eff (e_call (w_none rfl) rfl rfl Tryd.func75 rfl rfl rfl (refRdInt _ (H.get (f := RefR 101 rr AR cR b (Pk.rInt (Pk.rInt (b, 0)).2).2)) (Pk.ok_rInt (Pk.ok_rInt hok0)) (bs_own (H.get (f := Fact.row 5 1 (.slice AR b.length cR) b.length (b.map u8v))) rfl) hSS hl) ?_)
      rintro _ W ⟨rfl, hp, hf⟩
      replace H := H.mut (f := RefR 101 rr AR cR b (Pk.rInt (Pk.rInt (b, 0)).2).2) (f' := RefR 101 rr AR cR b (Pk.rInt (Pk.rInt (Pk.rInt (b, 0)).2).2).2) hf hp (fun _ h => h)
      clear hp hf
      refine s_run (w_none rfl) rfl (d_fa rfl rfl tf78_2) ?_
      refine s_eff (e_stoK (msgC ⟨((Pk.rInt (b, 0)).1 : Int), ((Pk.rInt (Pk.rInt (b, 0)).2).1 : Int), ((Pk.rInt (Pk.rInt (Pk.rInt (b, 0)).2).2).1 : Int), ⟨0, 0, 0⟩, ⟨0, 0, 0⟩, Mg.z32⟩) (w_none rfl) rfl rfl rfl rfl rfl ts3 rfl rfl H (by rw [len_msg (m := (Mg.two ((Pk.rInt (b, 0)).1 : Int) ((Pk.rInt (Pk.rInt (b, 0)).2).1 : Int))) List.length_replicate]; decide) rfl ?_)
      clear H; intro W H
      refine l_nil ?_
      have hbody : Mg.body ((Pk.rInt (b, 0)).1 : Int) ((Pk.rInt (Pk.rInt (b, 0)).2).1 : Int) (Pk.rInt (Pk.rInt (b, 0)).2).2 = _ := if_pos hk3
      replace H : St nT w W [Fact.blk gm (msgC (Mg.body ((Pk.rInt (b, 0)).1 : Int) ((Pk.rInt (Pk.rInt (b, 0)).2).1 : Int) (Pk.rInt (Pk.rInt (b, 0)).2).2).1) 78, RefR 101 rr AR cR b (Mg.body ((Pk.rInt (b, 0)).1 : Int) ((Pk.rInt (Pk.rInt (b, 0)).2).1 : Int) (Pk.rInt (Pk.rInt (b, 0)).2).2).2, Fact.row 5 1 (.slice AR b.length cR) b.length (b.map u8v), Fact.blk gv (msgC Mg.zero) 78] := by rw [hbody]; exact H
      refine k_seq ?_
      refine k_region ?_
      refine s_run (w_none rfl) rfl (mv_p rfl rfl) ?_
      refine s_eff (e_call (w_none rfl) rfl rfl Tryd.func37 rfl rfl rfl (refEnd _ (H.get (f := RefR 101 rr AR cR b (Mg.body ((Pk.rInt (b, 0)).1 : Int) ((Pk.rInt (Pk.rInt (b, 0)).2).1 : Int) (Pk.rInt (Pk.rInt (b, 0)).2).2).2)) (Mg.ok_sBody (Pk.ok_rInt (Pk.ok_rInt hok0))) hl) ?_)
      rintro _ W ⟨rfl, hb⟩
      replace H := H.below hb
      clear hb
      refine s_run (w_none rfl) rfl (as_i rfl rfl) ?_
      refine l_nil ?_
      refine k_seq ?_
      refine k_seq ?_
      refine k_region ?_
      refine s_run (w_none rfl) rfl (mv_i rfl rfl) ?_
      refine s_run (w_none rfl) rfl (d_eq rfl rfl rfl) ?_
      refine l_nil ?_
      refine k_cond rfl (fun hc47 => ?_) (fun hc47 => ?_)
      · have he : Pk.rEnd (Mg.body ((Pk.rInt (b, 0)).1 : Int) ((Pk.rInt (Pk.rInt (b, 0)).2).1 : Int) (Pk.rInt (Pk.rInt (b, 0)).2).2).2 = 0 := by simpa using hc47
        refine k_region ?_
        refine s_run (w_none rfl) rfl (d_ldXM (g := gm) (off := 0) rfl H (sub_all (len_msg (Mg.ok_body (s := (Pk.rInt (Pk.rInt (b, 0)).2).2) Mg.rInt_ok Mg.rInt_ok).2.2.2.2.2)) (len_msg (Mg.ok_body (s := (Pk.rInt (Pk.rInt (b, 0)).2).2) Mg.rInt_ok Mg.rInt_ok).2.2.2.2.2) rfl rfl rfl ta78 ts78) ?_
        refine s_eff (e_call (w_none rfl) rfl rfl Tryd.func94 rfl rfl rfl (checkR _ (Mg.ok_body (s := (Pk.rInt (Pk.rInt (b, 0)).2).2) Mg.rInt_ok Mg.rInt_ok)) ?_)
        rintro _ W ⟨rfl, hb⟩
        replace H := H.below hb
        clear hb
        refine s_run (w_none rfl) rfl (as_i rfl rfl) ?_
        refine l_nil ?_
        refine k_seq ?_
        refine k_seq ?_
        refine k_region ?_
        refine s_run (w_none rfl) rfl (mv_i rfl rfl) ?_
        refine s_run (w_none rfl) rfl (d_ne rfl rfl rfl) ?_
        refine l_nil ?_
        refine k_cond rfl (fun hc51 => ?_) (fun hc51 => ?_)
        · have hck : ¬ Mg.chk (Mg.body ((Pk.rInt (b, 0)).1 : Int) ((Pk.rInt (Pk.rInt (b, 0)).2).1 : Int) (Pk.rInt (Pk.rInt (b, 0)).2).2).1 = 0 := by simpa using hc51
          refine k_seq ?_
          refine k_region ?_
          refine s_run (w_none rfl) rfl (d_build (vs := msgC Mg.zero) rfl (by kernel_rfl)) ?_
          refine s_run (w_none rfl) rfl (mv_i rfl rfl) ?_
          refine s_eff (e_stoK (msgC Mg.zero) (w_none rfl) rfl rfl rfl rfl rfl ts78 (len_msg List.length_replicate) msg_one H (by rw [len_msg (m := Mg.zero) List.length_replicate]; decide) (spl_all ((len_msg List.length_replicate).trans (len_msg (m := Mg.zero) List.length_replicate).symm)) ?_)
          clear H; intro W H
          refine s_run (w_none rfl) rfl (as_i rfl rfl) ?_
          refine l_nil ?_
          refine k_ret ?_
          repeat (first | refine r_then ?_ | refine r_blk ?_)
          have hget : Mg.get b = (Mg.zero, Mg.chk (Mg.body ((Pk.rInt (b, 0)).1 : Int) ((Pk.rInt (Pk.rInt (b, 0)).2).1 : Int) (Pk.rInt (Pk.rInt (b, 0)).2).2).1) := by unfold Mg.get Mg.fin; rw [if_neg (by simpa using hbad), if_neg (by omega), if_pos he, if_neg hck]
          rw [hget]
          exact q_retct (g := gv) (t' := 78) rfl H rfl ta78 (by rw [len_msg (m := Mg.zero) List.length_replicate]; exact ts78) rfl ⟨_, rfl, rfl, H.under⟩
        · have hck : Mg.chk (Mg.body ((Pk.rInt (b, 0)).1 : Int) ((Pk.rInt (Pk.rInt (b, 0)).2).1 : Int) (Pk.rInt (Pk.rInt (b, 0)).2).2).1 = 0 := by simpa using hc51
          refine k_skip ?_
          refine k_seq ?_
          refine k_region ?_
          refine s_run (w_none rfl) rfl (d_ldXM (g := gm) (off := 0) rfl H (sub_all (len_msg (Mg.ok_body (s := (Pk.rInt (Pk.rInt (b, 0)).2).2) Mg.rInt_ok Mg.rInt_ok).2.2.2.2.2)) (len_msg (Mg.ok_body (s := (Pk.rInt (Pk.rInt (b, 0)).2).2) Mg.rInt_ok Mg.rInt_ok).2.2.2.2.2) rfl rfl rfl ta78 ts78) ?_
          refine s_eff (e_stoK (msgC (Mg.body ((Pk.rInt (b, 0)).1 : Int) ((Pk.rInt (Pk.rInt (b, 0)).2).1 : Int) (Pk.rInt (Pk.rInt (b, 0)).2).2).1) (w_none rfl) rfl rfl rfl rfl rfl ts78 (len_msg (Mg.ok_body (s := (Pk.rInt (Pk.rInt (b, 0)).2).2) Mg.rInt_ok Mg.rInt_ok).2.2.2.2.2) msg_one H (by rw [len_msg (m := Mg.zero) List.length_replicate]; decide) (spl_all ((len_msg (Mg.ok_body (s := (Pk.rInt (Pk.rInt (b, 0)).2).2) Mg.rInt_ok Mg.rInt_ok).2.2.2.2.2).trans (len_msg (m := Mg.zero) List.length_replicate).symm)) ?_)
          clear H; intro W H
          refine s_run (w_none rfl) rfl (as_i rfl rfl) ?_
          refine l_nil ?_
          refine k_ret ?_
          repeat (first | refine r_then ?_ | refine r_blk ?_)
          have hget : Mg.get b = ((Mg.body ((Pk.rInt (b, 0)).1 : Int) ((Pk.rInt (Pk.rInt (b, 0)).2).1 : Int) (Pk.rInt (Pk.rInt (b, 0)).2).2).1, 0) := by unfold Mg.get Mg.fin; rw [if_neg (by simpa using hbad), if_neg (by omega), if_pos he, if_pos hck]
          rw [hget]
          exact q_retct (g := gv) (t' := 78) rfl H rfl ta78 (by rw [len_msg (m := (Mg.body ((Pk.rInt (b, 0)).1 : Int) ((Pk.rInt (Pk.rInt (b, 0)).2).1 : Int) (Pk.rInt (Pk.rInt (b, 0)).2).2).1) (Mg.ok_body (s := (Pk.rInt (Pk.rInt (b, 0)).2).2) Mg.rInt_ok Mg.rInt_ok).2.2.2.2.2]; exact ts78) rfl ⟨_, rfl, rfl, H.under⟩
      · have he : ¬ Pk.rEnd (Mg.body ((Pk.rInt (b, 0)).1 : Int) ((Pk.rInt (Pk.rInt (b, 0)).2).1 : Int) (Pk.rInt (Pk.rInt (b, 0)).2).2).2 = 0 := by simpa using hc47
        refine k_skip ?_
        refine k_seq ?_
        refine k_seq ?_
        refine k_region ?_
        refine s_run (w_none rfl) rfl (mv_i rfl rfl) ?_
        refine s_run (w_none rfl) rfl (d_ne rfl rfl rfl) ?_
        refine l_nil ?_
        refine k_condT rfl (by simpa using he) ?_
        refine k_seq ?_
        refine k_region ?_
        refine s_run (w_none rfl) rfl (d_build (vs := msgC Mg.zero) rfl (by kernel_rfl)) ?_
        refine s_run (w_none rfl) rfl (mv_i rfl rfl) ?_
        refine s_eff (e_stoK (msgC Mg.zero) (w_none rfl) rfl rfl rfl rfl rfl ts78 (len_msg List.length_replicate) msg_one H (by rw [len_msg (m := Mg.zero) List.length_replicate]; decide) (spl_all ((len_msg List.length_replicate).trans (len_msg (m := Mg.zero) List.length_replicate).symm)) ?_)
        clear H; intro W H
        refine s_run (w_none rfl) rfl (as_i rfl rfl) ?_
        refine l_nil ?_
        refine k_ret ?_
        repeat (first | refine r_then ?_ | refine r_blk ?_)
        have hget : Mg.get b = (Mg.zero, Pk.rEnd (Mg.body ((Pk.rInt (b, 0)).1 : Int) ((Pk.rInt (Pk.rInt (b, 0)).2).1 : Int) (Pk.rInt (Pk.rInt (b, 0)).2).2).2) := by unfold Mg.get Mg.fin; rw [if_neg (by simpa using hbad), if_neg (by omega), if_neg he]
        rw [hget]
        exact q_retct (g := gv) (t' := 78) rfl H rfl ta78 (by rw [len_msg (m := Mg.zero) List.length_replicate]; exact ts78) rfl ⟨_, rfl, rfl, H.under⟩
    · have hk3 : ¬ ((Pk.rInt (b, 0)).1 : Int) = 3 := by simpa using hc31
      refine k_seq ?_
      refine k_region ?_
      refine s_run (w_none rfl) rfl (mv_p rfl rfl) ?_
      refine s_eff (e_call (w_none rfl) rfl rfl Tryd.func96 rfl rfl rfl (readR _ (H.get (f := RefR 101 rr AR cR b (Pk.rInt (Pk.rInt (b, 0)).2).2)) (Pk.ok_rInt (Pk.ok_rInt hok0)) (bs_own (H.get (f := Fact.row 5 1 (.slice AR b.length cR) b.length (b.map u8v))) rfl) hSS hl) ?_)
      rintro _ W ⟨rfl, hp, hf⟩
      replace H := H.mut (f := RefR 101 rr AR cR b (Pk.rInt (Pk.rInt (b, 0)).2).2) (f' := RefR 101 rr AR cR b (Mg.rLeg (Pk.rInt (Pk.rInt (b, 0)).2).2).2) hf hp (fun _ h => h)
      clear hp hf
      refine s_run (w_none rfl) rfl (d_fa rfl rfl tf78_3) ?_
      refine s_eff (e_stoK (msgC ⟨((Pk.rInt (b, 0)).1 : Int), ((Pk.rInt (Pk.rInt (b, 0)).2).1 : Int), 0, (Mg.rLeg (Pk.rInt (Pk.rInt (b, 0)).2).2).1, ⟨0, 0, 0⟩, Mg.z32⟩) (w_none rfl) rfl rfl rfl rfl rfl ts76 rfl rfl H (by rw [len_msg (m := (Mg.two ((Pk.rInt (b, 0)).1 : Int) ((Pk.rInt (Pk.rInt (b, 0)).2).1 : Int))) List.length_replicate]; decide) rfl ?_)
      clear H; intro W H
      refine l_nil ?_
      refine k_seq ?_
      refine k_region ?_
      refine s_run (w_none rfl) rfl (mv_p rfl rfl) ?_
      refine s_eff (e_call (w_none rfl) rfl rfl Tryd.func96 rfl rfl rfl (readR _ (H.get (f := RefR 101 rr AR cR b (Mg.rLeg (Pk.rInt (Pk.rInt (b, 0)).2).2).2)) (Mg.ok_sLeg (Pk.ok_rInt (Pk.ok_rInt hok0))) (bs_own (H.get (f := Fact.row 5 1 (.slice AR b.length cR) b.length (b.map u8v))) rfl) hSS hl) ?_)
      rintro _ W ⟨rfl, hp, hf⟩
      replace H := H.mut (f := RefR 101 rr AR cR b (Mg.rLeg (Pk.rInt (Pk.rInt (b, 0)).2).2).2) (f' := RefR 101 rr AR cR b (Mg.rLeg (Mg.rLeg (Pk.rInt (Pk.rInt (b, 0)).2).2).2).2) hf hp (fun _ h => h)
      clear hp hf
      refine s_run (w_none rfl) rfl (d_fa rfl rfl tf78_4) ?_
      refine s_eff (e_stoK (msgC ⟨((Pk.rInt (b, 0)).1 : Int), ((Pk.rInt (Pk.rInt (b, 0)).2).1 : Int), 0, (Mg.rLeg (Pk.rInt (Pk.rInt (b, 0)).2).2).1, (Mg.rLeg (Mg.rLeg (Pk.rInt (Pk.rInt (b, 0)).2).2).2).1, Mg.z32⟩) (w_none rfl) rfl rfl rfl rfl rfl ts76 rfl rfl H (by rw [len_msg (m := ⟨((Pk.rInt (b, 0)).1 : Int), ((Pk.rInt (Pk.rInt (b, 0)).2).1 : Int), 0, (Mg.rLeg (Pk.rInt (Pk.rInt (b, 0)).2).2).1, ⟨0, 0, 0⟩, Mg.z32⟩) List.length_replicate]; decide) rfl ?_)
      clear H; intro W H
      refine l_nil ?_
      refine k_region ?_
      refine s_run (w_none rfl) rfl (mv_p rfl rfl) ?_
      refine s_eff (e_call (w_none rfl) rfl rfl Tryd.func78 rfl rfl rfl (refRdHash _ (H.get (f := RefR 101 rr AR cR b (Mg.rLeg (Mg.rLeg (Pk.rInt (Pk.rInt (b, 0)).2).2).2).2)) (Mg.ok_sLeg (Mg.ok_sLeg (Pk.ok_rInt (Pk.ok_rInt hok0)))) (bs_own (H.get (f := Fact.row 5 1 (.slice AR b.length cR) b.length (b.map u8v))) rfl) hSS hl) ?_)
      rintro _ W ⟨rfl, hp, hf⟩
      replace H := H.mut (f := RefR 101 rr AR cR b (Mg.rLeg (Mg.rLeg (Pk.rInt (Pk.rInt (b, 0)).2).2).2).2) (f' := RefR 101 rr AR cR b (Pk.rBytes 32 (Mg.rLeg (Mg.rLeg (Pk.rInt (Pk.rInt (b, 0)).2).2).2).2).2) hf hp (fun _ h => h)
      clear hp hf
      refine s_run (w_none rfl) rfl (d_fa rfl rfl tf78_5) ?_
      refine s_eff (e_stoK (msgC ⟨((Pk.rInt (b, 0)).1 : Int), ((Pk.rInt (Pk.rInt (b, 0)).2).1 : Int), 0, (Mg.rLeg (Pk.rInt (Pk.rInt (b, 0)).2).2).1, (Mg.rLeg (Mg.rLeg (Pk.rInt (Pk.rInt (b, 0)).2).2).2).1, (Pk.rBytes 32 (Mg.rLeg (Mg.rLeg (Pk.rInt (Pk.rInt (b, 0)).2).2).2).2).1⟩) (w_none rfl) rfl rfl rfl rfl rfl ts36 (by rw [List.length_map]; exact Pk.len_full Pk.next_len) (all_u8L _) H (by rw [len_msg (m := ⟨((Pk.rInt (b, 0)).1 : Int), ((Pk.rInt (Pk.rInt (b, 0)).2).1 : Int), 0, (Mg.rLeg (Pk.rInt (Pk.rInt (b, 0)).2).2).1, (Mg.rLeg (Mg.rLeg (Pk.rInt (Pk.rInt (b, 0)).2).2).2).1, Mg.z32⟩) List.length_replicate]; decide) (spl_hash (m := ⟨((Pk.rInt (b, 0)).1 : Int), ((Pk.rInt (Pk.rInt (b, 0)).2).1 : Int), 0, (Mg.rLeg (Pk.rInt (Pk.rInt (b, 0)).2).2).1, (Mg.rLeg (Mg.rLeg (Pk.rInt (Pk.rInt (b, 0)).2).2).2).1, Mg.z32⟩) List.length_replicate (Pk.len_full Pk.next_len)) ?_)
      clear H; intro W H
      refine l_nil ?_
      have hbody : Mg.body ((Pk.rInt (b, 0)).1 : Int) ((Pk.rInt (Pk.rInt (b, 0)).2).1 : Int) (Pk.rInt (Pk.rInt (b, 0)).2).2 = _ := if_neg hk3
      replace H : St nT w W [Fact.blk gm (msgC (Mg.body ((Pk.rInt (b, 0)).1 : Int) ((Pk.rInt (Pk.rInt (b, 0)).2).1 : Int) (Pk.rInt (Pk.rInt (b, 0)).2).2).1) 78, RefR 101 rr AR cR b (Mg.body ((Pk.rInt (b, 0)).1 : Int) ((Pk.rInt (Pk.rInt (b, 0)).2).1 : Int) (Pk.rInt (Pk.rInt (b, 0)).2).2).2, Fact.row 5 1 (.slice AR b.length cR) b.length (b.map u8v), Fact.blk gv (msgC Mg.zero) 78] := by rw [hbody]; exact H
      refine k_seq ?_
      refine k_region ?_
      refine s_run (w_none rfl) rfl (mv_p rfl rfl) ?_
      refine s_eff (e_call (w_none rfl) rfl rfl Tryd.func37 rfl rfl rfl (refEnd _ (H.get (f := RefR 101 rr AR cR b (Mg.body ((Pk.rInt (b, 0)).1 : Int) ((Pk.rInt (Pk.rInt (b, 0)).2).1 : Int) (Pk.rInt (Pk.rInt (b, 0)).2).2).2)) (Mg.ok_sBody (Pk.ok_rInt (Pk.ok_rInt hok0))) hl) ?_)
      rintro _ W ⟨rfl, hb⟩
      replace H := H.below hb
      clear hb
      refine s_run (w_none rfl) rfl (as_i rfl rfl) ?_
      refine l_nil ?_
      refine k_seq ?_
      refine k_seq ?_
      refine k_region ?_
      refine s_run (w_none rfl) rfl (mv_i rfl rfl) ?_
      refine s_run (w_none rfl) rfl (d_eq rfl rfl rfl) ?_
      refine l_nil ?_
      refine k_cond rfl (fun hc47 => ?_) (fun hc47 => ?_)
      · have he : Pk.rEnd (Mg.body ((Pk.rInt (b, 0)).1 : Int) ((Pk.rInt (Pk.rInt (b, 0)).2).1 : Int) (Pk.rInt (Pk.rInt (b, 0)).2).2).2 = 0 := by simpa using hc47
        refine k_region ?_
        refine s_run (w_none rfl) rfl (d_ldXM (g := gm) (off := 0) rfl H (sub_all (len_msg (Mg.ok_body (s := (Pk.rInt (Pk.rInt (b, 0)).2).2) Mg.rInt_ok Mg.rInt_ok).2.2.2.2.2)) (len_msg (Mg.ok_body (s := (Pk.rInt (Pk.rInt (b, 0)).2).2) Mg.rInt_ok Mg.rInt_ok).2.2.2.2.2) rfl rfl rfl ta78 ts78) ?_
        refine s_eff (e_call (w_none rfl) rfl rfl Tryd.func94 rfl rfl rfl (checkR _ (Mg.ok_body (s := (Pk.rInt (Pk.rInt (b, 0)).2).2) Mg.rInt_ok Mg.rInt_ok)) ?_)
        rintro _ W ⟨rfl, hb⟩
        replace H := H.below hb
        clear hb
        refine s_run (w_none rfl) rfl (as_i rfl rfl) ?_
        refine l_nil ?_
        refine k_seq ?_
        refine k_seq ?_
        refine k_region ?_
        refine s_run (w_none rfl) rfl (mv_i rfl rfl) ?_
        refine s_run (w_none rfl) rfl (d_ne rfl rfl rfl) ?_
        refine l_nil ?_
        refine k_cond rfl (fun hc51 => ?_) (fun hc51 => ?_)
        · have hck : ¬ Mg.chk (Mg.body ((Pk.rInt (b, 0)).1 : Int) ((Pk.rInt (Pk.rInt (b, 0)).2).1 : Int) (Pk.rInt (Pk.rInt (b, 0)).2).2).1 = 0 := by simpa using hc51
          refine k_seq ?_
          refine k_region ?_
          refine s_run (w_none rfl) rfl (d_build (vs := msgC Mg.zero) rfl (by kernel_rfl)) ?_
          refine s_run (w_none rfl) rfl (mv_i rfl rfl) ?_
          refine s_eff (e_stoK (msgC Mg.zero) (w_none rfl) rfl rfl rfl rfl rfl ts78 (len_msg List.length_replicate) msg_one H (by rw [len_msg (m := Mg.zero) List.length_replicate]; decide) (spl_all ((len_msg List.length_replicate).trans (len_msg (m := Mg.zero) List.length_replicate).symm)) ?_)
          clear H; intro W H
          refine s_run (w_none rfl) rfl (as_i rfl rfl) ?_
          refine l_nil ?_
          refine k_ret ?_
          repeat (first | refine r_then ?_ | refine r_blk ?_)
          have hget : Mg.get b = (Mg.zero, Mg.chk (Mg.body ((Pk.rInt (b, 0)).1 : Int) ((Pk.rInt (Pk.rInt (b, 0)).2).1 : Int) (Pk.rInt (Pk.rInt (b, 0)).2).2).1) := by unfold Mg.get Mg.fin; rw [if_neg (by simpa using hbad), if_neg (by omega), if_pos he, if_neg hck]
          rw [hget]
          exact q_retct (g := gv) (t' := 78) rfl H rfl ta78 (by rw [len_msg (m := Mg.zero) List.length_replicate]; exact ts78) rfl ⟨_, rfl, rfl, H.under⟩
        · have hck : Mg.chk (Mg.body ((Pk.rInt (b, 0)).1 : Int) ((Pk.rInt (Pk.rInt (b, 0)).2).1 : Int) (Pk.rInt (Pk.rInt (b, 0)).2).2).1 = 0 := by simpa using hc51
          refine k_skip ?_
          refine k_seq ?_
          refine k_region ?_
          refine s_run (w_none rfl) rfl (d_ldXM (g := gm) (off := 0) rfl H (sub_all (len_msg (Mg.ok_body (s := (Pk.rInt (Pk.rInt (b, 0)).2).2) Mg.rInt_ok Mg.rInt_ok).2.2.2.2.2)) (len_msg (Mg.ok_body (s := (Pk.rInt (Pk.rInt (b, 0)).2).2) Mg.rInt_ok Mg.rInt_ok).2.2.2.2.2) rfl rfl rfl ta78 ts78) ?_
          refine s_eff (e_stoK (msgC (Mg.body ((Pk.rInt (b, 0)).1 : Int) ((Pk.rInt (Pk.rInt (b, 0)).2).1 : Int) (Pk.rInt (Pk.rInt (b, 0)).2).2).1) (w_none rfl) rfl rfl rfl rfl rfl ts78 (len_msg (Mg.ok_body (s := (Pk.rInt (Pk.rInt (b, 0)).2).2) Mg.rInt_ok Mg.rInt_ok).2.2.2.2.2) msg_one H (by rw [len_msg (m := Mg.zero) List.length_replicate]; decide) (spl_all ((len_msg (Mg.ok_body (s := (Pk.rInt (Pk.rInt (b, 0)).2).2) Mg.rInt_ok Mg.rInt_ok).2.2.2.2.2).trans (len_msg (m := Mg.zero) List.length_replicate).symm)) ?_)
          clear H; intro W H
          refine s_run (w_none rfl) rfl (as_i rfl rfl) ?_
          refine l_nil ?_
          refine k_ret ?_
          repeat (first | refine r_then ?_ | refine r_blk ?_)
          have hget : Mg.get b = ((Mg.body ((Pk.rInt (b, 0)).1 : Int) ((Pk.rInt (Pk.rInt (b, 0)).2).1 : Int) (Pk.rInt (Pk.rInt (b, 0)).2).2).1, 0) := by unfold Mg.get Mg.fin; rw [if_neg (by simpa using hbad), if_neg (by omega), if_pos he, if_pos hck]
          rw [hget]
          exact q_retct (g := gv) (t' := 78) rfl H rfl ta78 (by rw [len_msg (m := (Mg.body ((Pk.rInt (b, 0)).1 : Int) ((Pk.rInt (Pk.rInt (b, 0)).2).1 : Int) (Pk.rInt (Pk.rInt (b, 0)).2).2).1) (Mg.ok_body (s := (Pk.rInt (Pk.rInt (b, 0)).2).2) Mg.rInt_ok Mg.rInt_ok).2.2.2.2.2]; exact ts78) rfl ⟨_, rfl, rfl, H.under⟩
      · have he : ¬ Pk.rEnd (Mg.body ((Pk.rInt (b, 0)).1 : Int) ((Pk.rInt (Pk.rInt (b, 0)).2).1 : Int) (Pk.rInt (Pk.rInt (b, 0)).2).2).2 = 0 := by simpa using hc47
        refine k_skip ?_
        refine k_seq ?_
        refine k_seq ?_
        refine k_region ?_
        refine s_run (w_none rfl) rfl (mv_i rfl rfl) ?_
        refine s_run (w_none rfl) rfl (d_ne rfl rfl rfl) ?_
        refine l_nil ?_
        refine k_condT rfl (by simpa using he) ?_
        refine k_seq ?_
        refine k_region ?_
        refine s_run (w_none rfl) rfl (d_build (vs := msgC Mg.zero) rfl (by kernel_rfl)) ?_
        refine s_run (w_none rfl) rfl (mv_i rfl rfl) ?_
        refine s_eff (e_stoK (msgC Mg.zero) (w_none rfl) rfl rfl rfl rfl rfl ts78 (len_msg List.length_replicate) msg_one H (by rw [len_msg (m := Mg.zero) List.length_replicate]; decide) (spl_all ((len_msg List.length_replicate).trans (len_msg (m := Mg.zero) List.length_replicate).symm)) ?_)
        clear H; intro W H
        refine s_run (w_none rfl) rfl (as_i rfl rfl) ?_
        refine l_nil ?_
        refine k_ret ?_
        repeat (first | refine r_then ?_ | refine r_blk ?_)
        have hget : Mg.get b = (Mg.zero, Pk.rEnd (Mg.body ((Pk.rInt (b, 0)).1 : Int) ((Pk.rInt (Pk.rInt (b, 0)).2).1 : Int) (Pk.rInt (Pk.rInt (b, 0)).2).2).2) := by unfold Mg.get Mg.fin; rw [if_neg (by simpa using hbad), if_neg (by omega), if_neg he]
        rw [hget]
        exact q_retct (g := gv) (t' := 78) rfl H rfl ta78 (by rw [len_msg (m := Mg.zero) List.length_replicate]; exact ts78) rfl ⟨_, rfl, rfl, H.under⟩
  · skip
    refine k_region ?_
    refine s_run (w_none rfl) rfl (mv_p rfl rfl) ?_
    refine s_eff (e_call (w_none rfl) rfl rfl Tryd.func40 rfl rfl rfl (refBad _ (H.get (f := RefR 101 rr AR cR b (Pk.rInt (Pk.rInt (b, 0)).2).2))) ?_)
    rintro _ W ⟨rfl, hb⟩
    replace H := H.below hb
    clear hb
    refine s_run (w_none rfl) rfl (d_not rfl rfl) ?_
    refine s_run (w_none rfl) rfl (mv_bx (c := true) rfl rfl (by simp [hbad])) ?_
    refine s_run (w_g rfl rfl rfl rfl) rfl (d_fa rfl rfl tf78_0) ?_
    refine s_run (w_g rfl rfl rfl rfl) rfl (d_ldX (g := gm) (off := 0) (v := .int .i64 ((Pk.rInt (b, 0)).1 : Int)) rfl H rfl rfl rfl ta3) ?_
    refine s_run (w_g rfl rfl rfl rfl) rfl (d_lt rfl rfl rfl) ?_
    refine s_run (w_g rfl rfl rfl rfl) rfl (mv_bx (c := false) rfl rfl (by first | rfl | (simp; omega))) ?_
    refine s_run (w_g rfl rfl rfl rfl) rfl (d_fa rfl rfl tf78_0) ?_
    refine s_run (w_g rfl rfl rfl rfl) rfl (d_ldX (g := gm) (off := 0) (v := .int .i64 ((Pk.rInt (b, 0)).1 : Int)) rfl H rfl rfl rfl ta3) ?_
    refine s_run (w_g rfl rfl rfl rfl) rfl (d_gt rfl rfl rfl) ?_
    refine s_run (w_g rfl rfl rfl rfl) rfl (d_pickF rfl rfl rfl) ?_
    refine s_run (w_none rfl) rfl (d_pickT rfl rfl rfl) ?_
    refine l_nil ?_
    refine k_condT rfl (by first | rfl | (simp; omega)) ?_
    refine k_seq ?_
    refine k_region ?_
    refine s_run (w_none rfl) rfl (d_build (vs := msgC Mg.zero) rfl (by kernel_rfl)) ?_
    refine s_eff (e_stoK (msgC Mg.zero) (w_none rfl) rfl rfl rfl rfl rfl ts78 (len_msg List.length_replicate) msg_one H (by rw [len_msg (m := Mg.zero) List.length_replicate]; decide) (spl_all ((len_msg List.length_replicate).trans (len_msg (m := Mg.zero) List.length_replicate).symm)) ?_)
    clear H; intro W H
    refine s_run (w_none rfl) rfl (as_i rfl rfl) ?_
    refine l_nil ?_
    refine k_ret ?_
    repeat (first | refine r_then ?_ | refine r_blk ?_)
    have hget : Mg.get b = (Mg.zero, 2) := by unfold Mg.get; rw [if_neg (by simpa using hbad), if_pos (by omega)]
    rw [hget]
    exact q_retct (g := gv) (t' := 78) rfl H rfl ta78 (by rw [len_msg (m := Mg.zero) List.length_replicate]; exact ts78) rfl ⟨_, rfl, rfl, H.under⟩
end Go.Proofs.YtejaohlijaodjaaDoor

namespace Go.Proofs.YtejaohlijaodjaaDoor
open Go Go.RowKit

namespace Mg
theorem toU_lo {x : Int} (h0 : 0 ≤ x) (h1 : x ≤ 9223372036854775807) : Pk.toU x = x.toNat := Pk.toU_pos x h0 (by omega)
theorem toU_cast {u : Nat} (h : u < 9223372036854775808) : Pk.toU (u : Int) = u := by rw [Pk.toU_pos _ (by omega) (by omega)]; omega
theorem leg_of {l : DLeg} (h : leg l = 0) : 0 ≤ l.whereA ∧ l.whereA ≤ 2 ∧ 1 ≤ l.amount ∧ l.amount ≤ 1125899906842624 ∧ 0 ≤ l.untilA ∧ l.untilA ≤ 1073741824 := by
  unfold leg at h
  split at h
  · cases h
  · split at h
    · cases h
    · omega
theorem chk_of {m : DMessage} (h : chk m = 0) : (1 ≤ m.kind ∧ m.kind ≤ 3) ∧ (1 ≤ m.id ∧ m.id ≤ 1073741824) ∧ (m.kind = 3 → (1 ≤ m.code ∧ m.code ≤ 24) ∧ m = bare m) ∧ (¬ m.kind = 3 → leg m.pays = 0 ∧ leg m.gets = 0 ∧ m.code = 0) := by
  unfold chk at h
  split at h
  · cases h
  · split at h
    · cases h
    · refine ⟨by omega, by omega, fun hk => ?_, fun hk => ?_⟩
      · rw [if_pos hk] at h
        split at h
        · cases h
        · refine ⟨by omega, ?_⟩
          cases hb : beqMessage m (bare m) with
          | true => exact beqMessage_iff.1 hb
          | false => rw [if_pos hb] at h; cases h
      · rw [if_neg hk] at h
        by_cases h1 : leg m.pays = 0
        · by_cases h2 : leg m.gets = 0
          · rw [if_neg (by simpa using h1), if_neg (by simpa using h2)] at h
            split at h
            · cases h
            · split at h
              · cases h
              · exact ⟨h1, h2, by omega⟩
          · rw [if_neg (by simpa using h1), if_pos h2] at h; exact absurd h h2
        · rw [if_pos h1] at h; exact absurd h h1
/-- What a reading step takes. -/
def Cuts (f : RS → RS) (e : List UInt8) : Prop := (∀ r, f (e ++ r, 0) = (r, 0)) ∧ (∀ k, k < e.length → f (e.take k, 0) = ([], 4)) ∧ f ([], 4) = ([], 4)
theorem Cuts.seq {f g : RS → RS} {e e' : List UInt8} (hf : Cuts f e) (hg : Cuts g e') : Cuts (fun s => g (f s)) (e ++ e') := by
  refine ⟨fun r => ?_, fun k hk => ?_, ?_⟩
  · show g (f _) = _
    rw [List.append_assoc, hf.1, hg.1]
  · show g (f _) = _
    rcases Nat.lt_or_ge k e.length with h | h
    · rw [List.take_append_of_le_length (by omega), hf.2.1 k h, hg.2.2]
    · rw [List.take_append, List.take_of_length_le h, hf.1]
      exact hg.2.1 _ (by rw [List.length_append] at hk; omega)
  · show g (f _) = _
    rw [hf.2.2, hg.2.2]
theorem cuts_int {u : Nat} (hu : u < 9223372036854775808) : Cuts (fun s => (Pk.rInt s).2) (Pk.int u) :=
  ⟨fun r => by show (Pk.rInt _).2 = _; rw [Pk.rInt_int hu], fun k hk => by show (Pk.rInt _).2 = _; rw [Pk.rInt_cut hu hk], by decide⟩
theorem cuts_bytes {h : List UInt8} (hh : h.length = 32) : Cuts (fun s => (Pk.rBytes 32 s).2) h :=
  ⟨fun r => by show (Pk.rBytes 32 _).2 = _; rw [Pk.rBytes_app hh], fun k hk => Pk.rBytes_cut hh hk, by decide⟩
theorem cuts_leg {l : DLeg} (h : leg l = 0) : Cuts (fun s => (rLeg s).2) (legB l) := by
  have h1 := leg_of h
  unfold legB
  rw [toU_lo (x := l.whereA) (by omega) (by omega), toU_lo (x := l.amount) (by omega) (by omega), toU_lo (x := l.untilA) (by omega) (by omega)]
  exact (cuts_int (by omega)).seq ((cuts_int (by omega)).seq (cuts_int (by omega)))
theorem leg_val {l : DLeg} (h : leg l = 0) (r : List UInt8) : (rLeg (legB l ++ r, 0)).1 = l := by
  have h1 := leg_of h
  unfold legB
  rw [toU_lo (x := l.whereA) (by omega) (by omega), toU_lo (x := l.amount) (by omega) (by omega), toU_lo (x := l.untilA) (by omega) (by omega)]
  unfold rLeg
  rw [List.append_assoc, List.append_assoc, Pk.rInt_int (by omega)]
  dsimp only
  rw [Pk.rInt_int (by omega)]
  dsimp only
  rw [Pk.rInt_int (by omega)]
  obtain ⟨a, b, c⟩ := l
  dsimp only at h1 ⊢
  rw [Int.toNat_of_nonneg (by omega), Int.toNat_of_nonneg (by omega), Int.toNat_of_nonneg (by omega)]
def tail (m : DMessage) : List UInt8 := if m.kind = 3 then Pk.int (Pk.toU m.code) else legB m.pays ++ (legB m.gets ++ m.hash)
theorem cuts_tail {m : DMessage} (hc : chk m = 0) (hm : Ok m) : Cuts (fun s => (body m.kind m.id s).2) (tail m) := by
  obtain ⟨_, _, h3, h4⟩ := chk_of hc
  unfold tail body
  by_cases hk : m.kind = 3
  · simp only [hk, if_true]
    have := (h3 hk).1
    rw [toU_lo (by omega) (by omega)]
    exact cuts_int (by omega)
  · simp only [hk, if_false]
    obtain ⟨h5, h6, _⟩ := h4 hk
    exact (cuts_leg h5).seq ((cuts_leg h6).seq (cuts_bytes hm.2.2.2.2.2))
theorem val_tail {m : DMessage} (hc : chk m = 0) (hm : Ok m) (r : List UInt8) : (body m.kind m.id (tail m ++ r, 0)).1 = m := by
  obtain ⟨_, _, h3, h4⟩ := chk_of hc
  unfold tail body
  by_cases hk : m.kind = 3
  · obtain ⟨h5, h6⟩ := h3 hk
    simp only [hk, if_true]
    rw [toU_lo (by omega) (by omega), Pk.rInt_int (by omega)]
    dsimp only
    rw [Int.toNat_of_nonneg (by omega)]
    unfold bare at h6
    rw [hk] at h6
    exact h6.symm
  · obtain ⟨h5, h6, h7⟩ := h4 hk
    simp only [hk, if_false]
    have e1 : ∀ r, (rLeg (legB m.pays ++ r, 0)).2 = (r, 0) := (cuts_leg h5).1
    have e2 : ∀ r, (rLeg (legB m.gets ++ r, 0)).2 = (r, 0) := (cuts_leg h6).1
    rw [List.append_assoc, leg_val h5, e1, List.append_assoc, leg_val h6, e2, Pk.rBytes_app hm.2.2.2.2.2]
    dsimp only
    obtain ⟨k, i, c, p, q, h⟩ := m
    dsimp only at h7 ⊢
    rw [h7]
theorem put_ok {m : DMessage} (hc : chk m = 0) : put m = Pk.int m.kind.toNat ++ (Pk.int m.id.toNat ++ tail m) := by
  obtain ⟨h1, h2, _⟩ := chk_of hc
  unfold put putB tail
  rw [if_pos hc, toU_lo (by omega) (by omega), toU_lo (x := m.id) (by omega) (by omega)]
theorem put_bad {m : DMessage} (hc : chk m ≠ 0) : put m = [] := by unfold put; rw [if_neg hc]
theorem get_more {m : DMessage} (hc : chk m = 0) (hm : Ok m) (r : List UInt8) : get (put m ++ r) = if r = [] then (m, 0) else (zero, 5) := by
  obtain ⟨h1, h2, _⟩ := chk_of hc
  rw [put_ok hc]
  unfold get
  rw [List.append_assoc, Pk.rInt_int (by omega), List.append_assoc]
  dsimp only
  rw [Pk.rInt_int (by omega)]
  dsimp only
  rw [if_neg (by simp), if_neg (by omega), Int.toNat_of_nonneg (by omega), Int.toNat_of_nonneg (by omega)]
  have e1 := val_tail hc hm r
  have e2 : (body m.kind m.id (tail m ++ r, 0)).2 = (r, 0) := (cuts_tail hc hm).1 r
  unfold fin
  rw [e1, e2]
  cases r with
  | nil => rw [if_pos (by simp [Pk.rEnd]), if_pos hc]; rfl
  | cons c r => rw [if_neg (by simp [Pk.rEnd])]; simp [Pk.rEnd]
theorem get_put {m : DMessage} (hc : chk m = 0) (hm : Ok m) : get (put m) = (m, 0) := by
  have := get_more hc hm []
  rw [List.append_nil] at this
  rw [this, if_pos rfl]
theorem get_cut {m : DMessage} {k : Nat} (hc : chk m = 0) (hm : Ok m) (hk : k < (put m).length) : (get ((put m).take k)).2 = 4 := by
  obtain ⟨h1, h2, _⟩ := chk_of hc
  rw [put_ok hc] at hk ⊢
  unfold get
  rcases Nat.lt_or_ge k (Pk.int m.kind.toNat).length with ha | ha
  · rw [List.take_append_of_le_length (by omega), Pk.rInt_cut (by omega) ha]
    decide
  · rw [List.take_append, List.take_of_length_le ha, Pk.rInt_int (by omega)]
    rw [List.length_append] at hk
    dsimp only
    rcases Nat.lt_or_ge (k - (Pk.int m.kind.toNat).length) (Pk.int m.id.toNat).length with hb | hb
    · rw [List.take_append_of_le_length (by omega), Pk.rInt_cut (by omega) hb, if_pos (by decide)]
    · rw [List.length_append] at hk
      rw [List.take_append, List.take_of_length_le hb, Pk.rInt_int (by omega)]
      dsimp only
      rw [if_neg (by simp), if_neg (by omega), Int.toNat_of_nonneg (by omega), Int.toNat_of_nonneg (by omega)]
      have e2 : (body m.kind m.id ((tail m).take (k - (Pk.int m.kind.toNat).length - (Pk.int m.id.toNat).length), 0)).2 = ([], 4) := (cuts_tail hc hm).2.1 _ (by omega)
      unfold fin
      rw [e2, if_neg (by decide)]
      rfl
theorem rInt_good {s : RS} (h : (Pk.rInt s).2.2 = 0) : s.2 = 0 := by
  by_cases h0 : s.2 = 0
  · exact h0
  · rw [rInt_bad h0] at h; exact h
theorem leg_back {s : RS} (h : (rLeg s).2.2 = 0) : s.2 = 0 ∧ s.1 = legB (rLeg s).1 ++ (rLeg s).2.1 := by
  have h2 : (Pk.rInt (Pk.rInt s).2).2.2 = 0 := rInt_good h
  have h1 : (Pk.rInt s).2.2 = 0 := rInt_good h2
  have h0 : s.2 = 0 := rInt_good h1
  refine ⟨h0, ?_⟩
  have e1 := Pk.rInt_back h0 h1
  have e2 := Pk.rInt_back h1 h2
  have e3 := Pk.rInt_back h2 h
  unfold legB rLeg
  dsimp only
  rw [toU_cast Pk.rInt_lt, toU_cast Pk.rInt_lt, toU_cast Pk.rInt_lt, List.append_assoc, List.append_assoc, ← e3, ← e2, ← e1]
theorem body_back {k i : Int} {s : RS} (h : (body k i s).2.2 = 0) : s.2 = 0 ∧ s.1 = tail (body k i s).1 ++ (body k i s).2.1 := by
  unfold body at h ⊢
  by_cases hk : k = 3
  · rw [if_pos hk] at h ⊢
    have h0 := rInt_good h
    refine ⟨h0, ?_⟩
    unfold tail
    dsimp only
    rw [if_pos hk, toU_cast Pk.rInt_lt]
    exact Pk.rInt_back h0 h
  · rw [if_neg hk] at h ⊢
    have h2 : (rLeg (rLeg s).2).2.2 = 0 := by
      by_cases h0 : (rLeg (rLeg s).2).2.2 = 0
      · exact h0
      · dsimp only at h
        unfold Pk.rBytes at h
        rw [Pk.next_bad h0] at h
        exact h
    obtain ⟨h1, e2⟩ := leg_back h2
    obtain ⟨h0, e1⟩ := leg_back h1
    have e3 := Pk.rBytes_back h2 h
    refine ⟨h0, ?_⟩
    unfold tail
    dsimp only
    rw [if_neg hk, List.append_assoc, List.append_assoc, ← e3, ← e2, ← e1]
theorem body_kind {k i : Int} {s : RS} : (body k i s).1.kind = k ∧ (body k i s).1.id = i := by
  unfold body
  split <;> exact ⟨rfl, rfl⟩
theorem end_good {s : RS} (h : Pk.rEnd s = 0) : s.2 = 0 ∧ s.1 = [] := by
  unfold Pk.rEnd at h
  split at h
  · cases h
  · rename_i h1
    exact ⟨h, List.eq_nil_of_length_eq_zero (by omega)⟩
theorem get_back {b : List UInt8} (h : (get b).2 = 0) : chk (get b).1 = 0 ∧ put (get b).1 = b := by
  unfold get at h ⊢
  split at h
  · rename_i hb; exact absurd h hb
  · rename_i hb
    rw [if_neg hb]
    split at h
    · cases h
    · rename_i hk
      rw [if_neg hk]
      unfold fin at h ⊢
      split at h
      · rename_i he
        split at h
        · rename_i hc
          rw [if_pos he, if_pos hc]
          dsimp only
          refine ⟨hc, ?_⟩
          obtain ⟨g1, g2⟩ := end_good he
          obtain ⟨s2, e2⟩ := body_back g1
          have s1 := rInt_good s2
          have e0 := Pk.rInt_back (s := (b, 0)) rfl s1
          have e1 := Pk.rInt_back s1 s2
          rw [g2, List.append_nil] at e2
          rw [put_ok hc, body_kind.1, body_kind.2, Int.toNat_natCast, Int.toNat_natCast, ← e2, ← e1, ← e0]
        · rename_i hc; exact absurd h hc
      · rename_i he; exact absurd h he
theorem get_zero {b : List UInt8} (h : (get b).2 ≠ 0) : (get b).1 = zero := by
  unfold get fin at h ⊢
  by_cases h1 : (Pk.rInt (Pk.rInt (b, 0)).2).2.2 ≠ 0
  · rw [if_pos h1]
  · rw [if_neg h1] at h ⊢
    by_cases h2 : (Pk.rInt (b, 0)).1 < 1 ∨ 3 < (Pk.rInt (b, 0)).1
    · rw [if_pos h2]
    · rw [if_neg h2] at h ⊢
      by_cases h3 : Pk.rEnd (body ((Pk.rInt (b, 0)).1 : Int) ((Pk.rInt (Pk.rInt (b, 0)).2).1 : Int) (Pk.rInt (Pk.rInt (b, 0)).2).2).2 = 0
      · rw [if_pos h3] at h ⊢
        by_cases h4 : chk (body ((Pk.rInt (b, 0)).1 : Int) ((Pk.rInt (Pk.rInt (b, 0)).2).1 : Int) (Pk.rInt (Pk.rInt (b, 0)).2).2).1 = 0
        · rw [if_pos h4] at h; exact absurd rfl h
        · rw [if_neg h4]
      · rw [if_neg h3]
theorem ok_get {b : List UInt8} : Ok (get b).1 := by
  unfold get fin
  split
  · exact ok_zero
  · split
    · exact ok_zero
    · split
      · split
        · exact ok_body rInt_ok rInt_ok
        · exact ok_zero
      · exact ok_zero
theorem len_put {m : DMessage} (hm : Ok m) : (put m).length ≤ 200 := by
  unfold put
  split
  · exact len_putB hm
  · simp
theorem beq_self {m : DMessage} : beqMessage m m = true := beqMessage_iff.2 rfl
end Mg
end Go.Proofs.YtejaohlijaodjaaDoor

namespace Go.Proofs.YtejaohlijaodjaaDoor
open Go Go.RowKit
attribute [local irreducible] wpList

namespace Mg
def m3 : DMessage := ⟨3, 7, 22, ⟨0, 0, 0⟩, ⟨0, 0, 0⟩, z32⟩
def prop : DMessage := ⟨1, 1, 0, ⟨0, 5, 100⟩, ⟨2, 4, 50⟩, z32⟩
def m4 : DMessage := ⟨4, 0, 0, ⟨0, 0, 0⟩, ⟨0, 0, 0⟩, z32⟩
theorem okl_lit {a b c : Int} (h : (-9223372036854775808 ≤ a ∧ a ≤ 9223372036854775807) ∧ (-9223372036854775808 ≤ b ∧ b ≤ 9223372036854775807) ∧ (-9223372036854775808 ≤ c ∧ c ≤ 9223372036854775807)) : OkL ⟨a, b, c⟩ := h
theorem ok_m3 : Ok m3 := ⟨by decide, by decide, by decide, okl_0, okl_0, List.length_replicate⟩
theorem ok_m4 : Ok m4 := ⟨by decide, by decide, by decide, okl_0, okl_0, List.length_replicate⟩
theorem ok_prop : Ok prop := ⟨by decide, by decide, by decide, okl_lit (by decide), okl_lit (by decide), List.length_replicate⟩
theorem chk_m3 : chk m3 = 0 := by decide +kernel
theorem chk_m4 : chk m4 = 2 := by decide +kernel
theorem chk_prop : chk prop = 0 := by decide +kernel
theorem int_pos {u : Nat} : 0 < (Pk.int u).length := by
  unfold Pk.int
  split
  · simp
  · split
    · simp
    · split <;> simp
theorem put_m3 : put m3 = [3, 7, 22] := by decide +kernel
theorem put_prop : put prop = [1, 1, 0, 5, 100, 2, 4, 50] ++ z32 := by decide +kernel
end Mg

set_option maxHeartbeats 4000000 in
theorem propK (w : World) : Calls Tryd.prog 68 [].toArray w (Ret (Is w (.agg (msgC Mg.prop).toArray))) := by
  refine k_enter (l := []) Tryd.func68 rfl rfl ?_
  have H := St.start nT w
  refine k_seq ?_
  refine k_region ?_
  refine s_eff (e_alloc (w_none rfl) rfl rfl (msgC Mg.zero) (by kernel_rfl) H ?_)
  clear H; intro gv W H
  refine l_nil ?_
  refine k_seq ?_
  refine k_region ?_
  refine s_run (w_none rfl) rfl (d_build (vs := legC ⟨0, 5, 100⟩) rfl (by kernel_rfl)) ?_
  refine s_run (w_none rfl) rfl (d_build (vs := legC ⟨2, 4, 50⟩) rfl (by kernel_rfl)) ?_
  refine s_run (w_none rfl) rfl (d_build (vs := msgC Mg.prop) rfl (by kernel_rfl)) ?_
  refine s_eff (e_stoK (msgC Mg.prop) (w_none rfl) rfl rfl rfl rfl rfl ts78 (len_msg List.length_replicate) msg_one H (by rw [len_msg (m := Mg.zero) List.length_replicate]; decide) (spl_all ((len_msg List.length_replicate).trans (len_msg (m := Mg.zero) List.length_replicate).symm)) ?_)
  clear H; intro W H
  refine l_nil ?_
  refine k_ret ?_
  repeat (first | refine r_then ?_ | refine r_blk ?_)
  exact q_retc (g := gv) (t' := 78) rfl H rfl ta78 (by rw [len_msg (m := Mg.prop) List.length_replicate]; exact ts78) ⟨_, rfl, rfl, H.under⟩

set_option maxHeartbeats 4000000 in
theorem works21 (w : World)  (hG : Gat w 0 formsC) : Calls Tryd.prog 64 [].toArray w (Ret (Is w (.bool true))) := by
  refine k_enter (l := []) Tryd.func64 rfl rfl ?_
  have H := St.start nT w
  have h8 : (Mg.put Mg.prop).length = 40 := by rw [Mg.put_prop]; decide
  refine k_seq ?_
  refine k_region ?_
  refine s_run (w_none rfl) rfl (as_b rfl rfl) ?_
  refine l_nil ?_
  refine k_seq ?_
  refine k_region ?_
  refine s_run (w_none rfl) rfl (d_build (vs := msgC Mg.m3) rfl (by kernel_rfl)) ?_
  refine s_eff (e_call (w_none rfl) rfl rfl Tryd.func59 rfl rfl rfl (putP _ (H.gat hG) Mg.ok_m3) ?_)
  rw [Mg.chk_m3, Mg.put_m3]
  rintro _ W ⟨_, rfl, A1, c1, rfl, hc1, hd1, hn⟩
  replace H := H.new hn
  clear hn
  refine s_run (w_none rfl) rfl (mv_t rfl rfl) ?_
  refine s_run (w_none rfl) rfl (d_ext rfl rfl rfl) ?_
  refine s_run (w_none rfl) rfl (d_ext rfl rfl rfl) ?_
  refine s_run (w_none rfl) rfl (as_s rfl rfl) ?_
  refine s_run (w_none rfl) rfl (as_i rfl rfl) ?_
  refine l_nil ?_
  refine k_seq ?_
  refine k_region ?_
  refine s_eff (e_call (w_none rfl) rfl rfl Tryd.func68 rfl rfl rfl (propK _) ?_)
  rintro _ W ⟨rfl, hb⟩
  replace H := H.below hb
  clear hb
  refine s_eff (e_call (w_none rfl) rfl rfl Tryd.func59 rfl rfl rfl (putP _ (H.gat hG) Mg.ok_prop) ?_)
  rw [Mg.chk_prop]
  rintro _ W ⟨_, rfl, A3, c3, rfl, hc3, hd3, hn⟩
  replace H := H.new hn
  clear hn
  refine s_run (w_none rfl) rfl (mv_t rfl rfl) ?_
  refine s_run (w_none rfl) rfl (d_ext rfl rfl rfl) ?_
  refine s_run (w_none rfl) rfl (d_ext rfl rfl rfl) ?_
  refine s_run (w_none rfl) rfl (as_s rfl rfl) ?_
  refine s_run (w_none rfl) rfl (as_i rfl rfl) ?_
  refine l_nil ?_
  refine k_seq ?_
  refine k_region ?_
  refine s_run (w_none rfl) rfl (mv_s rfl rfl) ?_
  refine s_eff (e_call (w_none rfl) rfl rfl Tryd.func65 rfl rfl rfl (getP (b := Mg.put Mg.prop) _ (H.gat hG) (H.rowbs (A := A3) rfl) (by have := Mg.len_put Mg.ok_prop; omega)) ?_)
  rw [Mg.get_put Mg.chk_prop Mg.ok_prop]
  rintro _ W ⟨rfl, hb⟩
  replace H := H.below hb
  clear hb
  refine s_run (w_none rfl) rfl (mv_t rfl rfl) ?_
  refine s_run (w_none rfl) rfl (d_ext rfl rfl rfl) ?_
  refine s_run (w_none rfl) rfl (d_ext rfl rfl rfl) ?_
  refine s_eff (e_alloc (w_none rfl) rfl rfl (msgC Mg.zero) (by kernel_rfl) H ?_)
  clear H; intro gm W H
  refine s_eff (e_stoK (msgC Mg.prop) (w_none rfl) rfl rfl rfl rfl rfl ts78 (len_msg List.length_replicate) msg_one H (by rw [len_msg (m := Mg.zero) List.length_replicate]; decide) (spl_all ((len_msg List.length_replicate).trans (len_msg (m := Mg.zero) List.length_replicate).symm)) ?_)
  clear H; intro W H
  refine s_run (w_none rfl) rfl (as_i rfl rfl) ?_
  refine l_nil ?_
  refine k_seq ?_
  refine k_draw [(0, true), (1, true), (2, true), (3, true), (4, false), (5, false), (6, true), (7, true), (8, true), (9, true), (10, true), (11, true), (12, true), (13, true), (14, true), (15, true), (16, true), (17, false), (18, true), (19, true), (20, true), (21, true), (22, true), (23, false), (24, false), (25, true), (26, true), (27, true), (28, false), (29, true), (30, true), (31, true)] _ (by kernel_rfl) (by kernel_rfl) H (.refl _) ?_
  clear H; intro W H
  refine c_run rfl (w_none rfl) rfl (fun W H => mv_i rfl rfl) ?_
  refine c_run rfl (w_none rfl) rfl (fun W H => d_eq rfl rfl rfl) ?_
  refine c_run rfl (w_none rfl) rfl (fun W H => mv_bx (c := true) rfl rfl (by first | rfl | simp)) ?_
  refine c_run rfl (w_g rfl rfl rfl rfl) rfl (fun W H => mv_s rfl rfl) ?_
  refine c_eff rfl (e_bsl (xs := [.const (.int .u8 3), .const (.int .u8 7), .const (.int .u8 22)]) (vals := [.int .u8 _, .int .u8 _, .int .u8 _]) (vs := [.int .u8 _, .int .u8 _, .int .u8 _]) (w_g rfl rfl rfl rfl) rfl rfl rfl rfl rfl rfl tu23 ts5 ty5 rfl rfl rfl H ?_)
  clear H; intro g5 W H
  refine ⟨H.sub (by repeat (first | exact List.Sublist.refl _ | exact List.nil_sublist _ | refine List.Sublist.cons_cons _ ?_ | refine List.Sublist.cons _ ?_)), ?_⟩
  refine c_eff rfl (e_call (w_g rfl rfl rfl rfl) rfl rfl Tryd.func22 rfl rfl rfl (sameBytes _ _ [3, 7, 22] [3, 7, 22] _ (H.rowbs (A := A1) rfl) (Bs.mk (S := (· = g5)) (l := [3, 7, 22]) (rd_blk H.blk rfl) (by decide) (by decide))) ?_)
  rintro _ W ⟨rfl, hb⟩
  replace H := H.below hb
  clear hb
  refine ⟨H.sub (by repeat (first | exact List.Sublist.refl _ | exact List.nil_sublist _ | refine List.Sublist.cons_cons _ ?_ | refine List.Sublist.cons _ ?_)), ?_⟩
  refine c_run rfl (w_none rfl) rfl (fun W H => d_pickT rfl rfl rfl) ?_
  refine c_run rfl (w_none rfl) rfl (fun W H => mv_bx (c := true) rfl rfl (by first | rfl | simp)) ?_
  refine c_run rfl (w_g rfl rfl rfl rfl) rfl (fun W H => mv_i rfl rfl) ?_
  refine c_run rfl (w_g rfl rfl rfl rfl) rfl (fun W H => d_eq rfl rfl rfl) ?_
  refine c_run rfl (w_none rfl) rfl (fun W H => d_pickT rfl rfl rfl) ?_
  refine c_run rfl (w_none rfl) rfl (fun W H => mv_bx (c := true) rfl rfl (by first | rfl | simp)) ?_
  refine c_run rfl (w_g rfl rfl rfl rfl) rfl (fun W H => mv_i rfl rfl) ?_
  refine c_run rfl (w_g rfl rfl rfl rfl) rfl (fun W H => d_eq rfl rfl rfl) ?_
  refine c_run rfl (w_none rfl) rfl (fun W H => d_pickT rfl rfl rfl) ?_
  refine c_run rfl (w_none rfl) rfl (fun W H => mv_bx (c := true) rfl rfl (by first | rfl | simp)) ?_
  refine c_run rfl (w_g rfl rfl rfl rfl) rfl (fun W H => d_ldXM (g := gm) (off := 0) rfl H (sub_all (len_msg List.length_replicate)) (len_msg List.length_replicate) rfl rfl rfl ta78 ts78) ?_
  refine c_eff rfl (e_call (w_g rfl rfl rfl rfl) rfl rfl Tryd.func68 rfl rfl rfl (propK _) ?_)
  rintro _ W ⟨rfl, hb⟩
  replace H := H.below hb
  clear hb
  refine ⟨H.sub (by repeat (first | exact List.Sublist.refl _ | exact List.nil_sublist _ | refine List.Sublist.cons_cons _ ?_ | refine List.Sublist.cons _ ?_)), ?_⟩
  refine c_run rfl (w_g rfl rfl rfl rfl) rfl (fun W H => d_eqst (r := beqMessage Mg.prop Mg.prop) rfl rfl rfl (eq_Message (d := 9997) (msg_rep (W := w) (S := nT) Mg.ok_prop) (msg_rep (W := w) (S := nT) Mg.ok_prop)) (by kernel_rfl)) ?_
  refine c_run rfl (w_none rfl) rfl (fun W H => d_pickT rfl rfl rfl) ?_
  refine c_run rfl (w_none rfl) rfl (fun W H => mv_bx (c := true) rfl rfl (by first | rfl | simp)) ?_
  refine c_run rfl (w_g rfl rfl rfl rfl) rfl (fun W H => mv_s rfl rfl) ?_
  refine c_run rfl (w_g rfl rfl rfl rfl) rfl (fun W H => d_cutP rfl rfl (h := 8) rfl (by omega) rfl tu23 ts5) ?_
  refine c_eff rfl (e_bsl (xs := [.const (.int .u8 1), .const (.int .u8 1), .const (.int .u8 0), .const (.int .u8 5), .const (.int .u8 100), .const (.int .u8 2), .const (.int .u8 4), .const (.int .u8 50)]) (vals := [.int .u8 _, .int .u8 _, .int .u8 _, .int .u8 _, .int .u8 _, .int .u8 _, .int .u8 _, .int .u8 _]) (vs := [.int .u8 _, .int .u8 _, .int .u8 _, .int .u8 _, .int .u8 _, .int .u8 _, .int .u8 _, .int .u8 _]) (w_g rfl rfl rfl rfl) rfl rfl rfl rfl rfl rfl tu23 ts5 ty5 rfl rfl rfl H ?_)
  clear H; intro g6 W H
  refine ⟨H.sub (by repeat (first | exact List.Sublist.refl _ | exact List.nil_sublist _ | refine List.Sublist.cons_cons _ ?_ | refine List.Sublist.cons _ ?_)), ?_⟩
  refine c_eff rfl (e_call (w_g rfl rfl rfl rfl) rfl rfl Tryd.func22 rfl rfl rfl (sameBytes _ _ ((Mg.put Mg.prop).take 8) [1, 1, 0, 5, 100, 2, 4, 50] _ ((H.rowbs (A := A3) rfl).pre (h := 8) rfl (by rw [Mg.put_prop]; decide)) (Bs.mk (S := (· = g6)) (l := [1, 1, 0, 5, 100, 2, 4, 50]) (rd_blk H.blk rfl) (by decide) (by decide))) ?_)
  rintro _ W ⟨rfl, hb⟩
  replace H := H.below hb
  clear hb
  refine ⟨H.sub (by repeat (first | exact List.Sublist.refl _ | exact List.nil_sublist _ | refine List.Sublist.cons_cons _ ?_ | refine List.Sublist.cons _ ?_)), ?_⟩
  refine c_run rfl (w_none rfl) rfl (fun W H => d_pickT rfl rfl rfl) ?_
  refine c_run rfl (w_none rfl) rfl (fun W H => mv_bx (c := true) rfl rfl (by first | rfl | simp)) ?_
  refine c_run rfl (w_g rfl rfl rfl rfl) rfl (fun W H => d_build (vs := msgC Mg.m4) rfl (by kernel_rfl)) ?_
  refine c_eff rfl (e_call (w_g rfl rfl rfl rfl) rfl rfl Tryd.func61 rfl rfl rfl (checkP _ Mg.ok_m4) ?_)
  rw [Mg.chk_m4]
  rintro _ W ⟨rfl, hb⟩
  replace H := H.below hb
  clear hb
  refine ⟨H.sub (by repeat (first | exact List.Sublist.refl _ | exact List.nil_sublist _ | refine List.Sublist.cons_cons _ ?_ | refine List.Sublist.cons _ ?_)), ?_⟩
  refine c_run rfl (w_g rfl rfl rfl rfl) rfl (fun W H => d_eq rfl rfl rfl) ?_
  refine c_run rfl (w_none rfl) rfl (fun W H => d_pickT rfl rfl rfl) ?_
  refine c_run rfl (w_none rfl) rfl (fun W H => as_b rfl rfl) ?_
  refine c_nil ?_
  refine k_ret ?_
  repeat (first | refine r_then ?_ | refine r_blk ?_)
  exact q_ret (v := .bool _) rfl rfl ⟨_, rfl, rfl, H.under⟩

set_option maxHeartbeats 4000000 in
theorem messagePuts {m : DMessage} (w : World) (hG : Gat w 0 formsC) (hm : Mg.Ok m) : Calls Tryd.prog 13 [.agg (msgC m).toArray].toArray w (Ret (Is w (.bool true))) := by
  refine k_enter (l := [_]) Tryd.func13 rfl rfl ?_
  have H := St.start nT w
  have hlp := Mg.len_put hm
  refine k_seq ?_
  refine k_region ?_
  refine s_eff (e_box (vs := (msgC m)) (w_none rfl) rfl rfl rfl rfl H ?_)
  clear H; intro gm W H
  refine s_run (w_none rfl) rfl (as_b rfl rfl) ?_
  refine l_nil ?_
  refine k_seq ?_
  refine k_region ?_
  refine s_run (w_none rfl) rfl (d_ldXM (g := gm) (off := 0) rfl H (sub_all (len_msg hm.2.2.2.2.2)) (len_msg hm.2.2.2.2.2) rfl rfl rfl ta78 ts78) ?_
  refine s_eff (e_call (w_none rfl) rfl rfl Tryd.func59 rfl rfl rfl (putP _ (H.gat hG) hm) ?_)
  rintro _ W ⟨_, rfl, A1, c1, rfl, hc1, hd1, hn⟩
  replace H := H.new hn
  clear hn
  refine s_run (w_none rfl) rfl (mv_t rfl rfl) ?_
  refine s_run (w_none rfl) rfl (d_ext rfl rfl rfl) ?_
  refine s_run (w_none rfl) rfl (d_ext rfl rfl rfl) ?_
  refine s_run (w_none rfl) rfl (as_s rfl rfl) ?_
  refine s_run (w_none rfl) rfl (as_i rfl rfl) ?_
  refine l_nil ?_
  refine k_seq ?_
  refine k_region ?_
  refine s_run (w_none rfl) rfl (d_ldXM (g := gm) (off := 0) rfl H (sub_all (len_msg hm.2.2.2.2.2)) (len_msg hm.2.2.2.2.2) rfl rfl rfl ta78 ts78) ?_
  refine s_eff (e_call (w_none rfl) rfl rfl Tryd.func59 rfl rfl rfl (putP _ (H.gat hG) hm) ?_)
  rintro _ W ⟨_, rfl, A2, c2, rfl, hc2, hd2, hn⟩
  replace H := H.new hn
  clear hn
  refine s_run (w_none rfl) rfl (mv_t rfl rfl) ?_
  refine s_run (w_none rfl) rfl (d_ext rfl rfl rfl) ?_
  refine s_run (w_none rfl) rfl (d_ext rfl rfl rfl) ?_
  refine s_run (w_none rfl) rfl (as_s rfl rfl) ?_
  refine s_run (w_none rfl) rfl (as_i rfl rfl) ?_
  refine l_nil ?_
  refine k_seq ?_
  refine k_region ?_
  refine s_run (w_none rfl) rfl (d_ldXM (g := gm) (off := 0) rfl H (sub_all (len_msg hm.2.2.2.2.2)) (len_msg hm.2.2.2.2.2) rfl rfl rfl ta78 ts78) ?_
  refine s_eff (e_call (w_none rfl) rfl rfl Tryd.func60 rfl rfl rfl (putR _ hm) ?_)
  rintro _ W ⟨_, rfl, A3, c3, rfl, hc3, hd3, hn⟩
  replace H := H.new hn
  clear hn
  refine s_run (w_none rfl) rfl (mv_t rfl rfl) ?_
  refine s_run (w_none rfl) rfl (d_ext rfl rfl rfl) ?_
  refine s_run (w_none rfl) rfl (d_ext rfl rfl rfl) ?_
  refine s_run (w_none rfl) rfl (as_s rfl rfl) ?_
  refine s_run (w_none rfl) rfl (as_i rfl rfl) ?_
  refine l_nil ?_
  refine k_seq ?_
  refine k_seq ?_
  refine k_draw [(0, true), (2, true), (1, false), (3, true), (4, true), (5, true), (6, true), (7, true), (8, true), (9, true), (10, true), (11, true), (12, false), (13, true), (14, true), (15, true), (16, true), (17, true), (19, true), (20, true), (18, false), (21, false), (22, true), (23, true)] _ (by kernel_rfl) (by kernel_rfl) H (.refl _) ?_
  clear H; intro W H
  refine c_run rfl (w_none rfl) rfl (fun W H => d_ldXM (g := gm) (off := 0) rfl H (sub_all (len_msg hm.2.2.2.2.2)) (len_msg hm.2.2.2.2.2) rfl rfl rfl ta78 ts78) ?_
  refine c_run rfl (w_none rfl) rfl (fun W H => mv_i rfl rfl) ?_
  refine c_eff rfl (e_call (w_none rfl) rfl rfl Tryd.func61 rfl rfl rfl (checkP _ hm) ?_)
  rintro _ W ⟨rfl, hb⟩
  replace H := H.below hb
  clear hb
  refine ⟨H.sub (by repeat (first | exact List.Sublist.refl _ | exact List.nil_sublist _ | refine List.Sublist.cons_cons _ ?_ | refine List.Sublist.cons _ ?_)), ?_⟩
  refine c_run rfl (w_none rfl) rfl (fun W H => d_ne rfl rfl rfl) ?_
  refine c_run rfl (w_none rfl) rfl (fun W H => mv_bx (c := false) rfl rfl (by simp)) ?_
  refine c_run rfl (w_g rfl rfl rfl rfl) rfl (fun W H => mv_i rfl rfl) ?_
  refine c_run rfl (w_g rfl rfl rfl rfl) rfl (fun W H => mv_i rfl rfl) ?_
  refine c_run rfl (w_g rfl rfl rfl rfl) rfl (fun W H => d_ne rfl rfl rfl) ?_
  refine c_run rfl (w_none rfl) rfl (fun W H => d_pickF rfl rfl rfl) ?_
  refine c_run rfl (w_none rfl) rfl (fun W H => mv_bx (c := false) rfl rfl (by simp)) ?_
  refine c_run rfl (w_g rfl rfl rfl rfl) rfl (fun W H => mv_s rfl rfl) ?_
  refine c_run rfl (w_g rfl rfl rfl rfl) rfl (fun W H => mv_s rfl rfl) ?_
  refine c_eff rfl (e_call (w_g rfl rfl rfl rfl) rfl rfl Tryd.func22 rfl rfl rfl (sameBytes _ _ (Mg.put m) (Mg.put m) _ (H.rowbs (A := A1) rfl) (H.rowbs (A := A3) rfl)) ?_)
  rintro _ W ⟨rfl, hb⟩
  replace H := H.below hb
  clear hb
  refine ⟨H.sub (by repeat (first | exact List.Sublist.refl _ | exact List.nil_sublist _ | refine List.Sublist.cons_cons _ ?_ | refine List.Sublist.cons _ ?_)), ?_⟩
  refine c_run rfl (w_g rfl rfl rfl rfl) rfl (fun W H => d_not rfl rfl) ?_
  refine c_run rfl (w_none rfl) rfl (fun W H => d_pickF rfl rfl rfl) ?_
  refine c_run rfl (w_none rfl) rfl (fun W H => mv_bx (c := false) rfl rfl (by simp)) ?_
  refine c_run rfl (w_g rfl rfl rfl rfl) rfl (fun W H => d_fa rfl rfl tf78_3) ?_
  refine c_run rfl (w_g rfl rfl rfl rfl) rfl (fun W H => d_ldXM (g := gm) (cs := legC m.pays) (off := 3) rfl H rfl rfl rfl rfl rfl ta76 ts76) ?_
  refine c_run rfl (w_g rfl rfl rfl rfl) rfl (fun W H => d_fa rfl rfl tf78_3) ?_
  refine c_run rfl (w_g rfl rfl rfl rfl) rfl (fun W H => d_ldXM (g := gm) (cs := legC m.pays) (off := 3) rfl H rfl rfl rfl rfl rfl ta76 ts76) ?_
  refine c_eff rfl (e_call (w_g rfl rfl rfl rfl) rfl rfl Tryd.func62 rfl rfl rfl (legP (l := m.pays) _) ?_)
  rintro _ W ⟨rfl, hb⟩
  replace H := H.below hb
  clear hb
  refine ⟨H.sub (by repeat (first | exact List.Sublist.refl _ | exact List.nil_sublist _ | refine List.Sublist.cons_cons _ ?_ | refine List.Sublist.cons _ ?_)), ?_⟩
  refine c_eff rfl (e_call (w_g rfl rfl rfl rfl) rfl rfl Tryd.func63 rfl rfl rfl (legR (l := m.pays) _) ?_)
  rintro _ W ⟨rfl, hb⟩
  replace H := H.below hb
  clear hb
  refine ⟨H.sub (by repeat (first | exact List.Sublist.refl _ | exact List.nil_sublist _ | refine List.Sublist.cons_cons _ ?_ | refine List.Sublist.cons _ ?_)), ?_⟩
  refine c_run rfl (w_g rfl rfl rfl rfl) rfl (fun W H => d_ne rfl rfl rfl) ?_
  refine c_run rfl (w_none rfl) rfl (fun W H => d_pickF rfl rfl rfl) ?_
  refine c_nil ?_
  refine k_condF rfl (by simp) ?_
  refine k_skip ?_
  refine k_seq ?_
  refine k_region ?_
  refine s_run (w_none rfl) rfl (mv_s rfl rfl) ?_
  refine s_eff (e_call (w_none rfl) rfl rfl Tryd.func32 rfl rfl rfl (spoilAll _ (H.get (f := Fact.row 5 1 (.slice A1 (Mg.put m).length c1) (Mg.put m).length ((Mg.put m).map u8v))) (by omega)) ?_)
  rintro _ W ⟨rfl, ⟨ys, hys⟩, hf⟩
  replace H := H.mut (f := Fact.row 5 1 (.slice A1 (Mg.put m).length c1) (Mg.put m).length ((Mg.put m).map u8v)) (f' := Fact.row 5 1 (.slice A1 (Mg.put m).length c1) (Mg.put m).length (ys.map u8v)) hf hys (fun _ h => h)
  clear hys hf
  refine l_nil ?_
  refine k_seq ?_
  refine k_region ?_
  refine s_run (w_none rfl) rfl (mv_s rfl rfl) ?_
  refine s_run (w_none rfl) rfl (mv_s rfl rfl) ?_
  refine s_eff (e_call (w_none rfl) rfl rfl Tryd.func22 rfl rfl rfl (sameBytes _ _ (Mg.put m) (Mg.put m) _ (H.rowbs (A := A2) rfl) (H.rowbs (A := A3) rfl)) ?_)
  rintro _ W ⟨rfl, hb⟩
  replace H := H.below hb
  clear hb
  refine s_run (w_none rfl) rfl (mv_bx (c := true) rfl rfl (by simp)) ?_
  refine s_eff (e_call (w_g rfl rfl rfl rfl) rfl rfl Tryd.func64 rfl rfl rfl (works21 _ (H.gat hG)) ?_)
  rintro _ W ⟨rfl, hb⟩
  replace H := H.below hb
  clear hb
  refine s_run (w_none rfl) rfl (d_pickT rfl rfl rfl) ?_
  refine s_run (w_none rfl) rfl (as_b rfl rfl) ?_
  refine l_nil ?_
  refine k_ret ?_
  repeat (first | refine r_then ?_ | refine r_blk ?_)
  exact q_ret (v := .bool _) rfl rfl ⟨_, rfl, rfl, H.under⟩

theorem messageGetsA {S : Nat → Prop} {v : Value} {b : List UInt8} (w : World) (hG : Gat w 0 formsC) (hb : Bs w S v b) (hl : 4096 < b.length) : Calls Tryd.prog 14 [v].toArray w (Ret (Is w (.bool true))) := by
  have hb0 := hb
  obtain ⟨A, c, rfl, _, _, _⟩ := hb.op
  refine k_enter (l := [_]) Tryd.func14 rfl rfl ?_
  have H := St.start nT w
  refine k_seq ?_
  refine k_region ?_
  refine s_run (w_none rfl) rfl (as_b rfl rfl) ?_
  refine l_nil ?_
  refine k_seq ?_
  refine k_seq ?_
  refine k_region ?_
  refine s_run (w_none rfl) rfl (mv_s rfl rfl) ?_
  refine s_run (w_none rfl) rfl (d_len rfl rfl tu23) ?_
  refine s_run (w_none rfl) rfl (d_gt rfl rfl rfl) ?_
  refine l_nil ?_
  refine k_condT rfl (by simp; omega) ?_
  refine k_seq ?_
  refine k_region ?_
  refine s_eff (e_call (w_none rfl) rfl rfl Tryd.func64 rfl rfl rfl (works21 _ (H.gat hG)) ?_)
  rintro _ W ⟨rfl, hb⟩
  replace H := H.below hb
  clear hb
  refine s_run (w_none rfl) rfl (as_b rfl rfl) ?_
  refine l_nil ?_
  refine k_ret ?_
  repeat (first | refine r_then ?_ | refine r_blk ?_)
  exact q_ret (v := .bool _) rfl rfl ⟨_, rfl, rfl, H.under⟩

set_option maxHeartbeats 4000000 in
theorem messageGetsB {S : Nat → Prop} {v : Value} {b : List UInt8} (w : World) (hG : Gat w 0 formsC) (hb : Bs w S v b) (hl : b.length ≤ 4096) : Calls Tryd.prog 14 [v].toArray w (Ret (Is w (.bool true))) := by
  have hb0 := hb
  obtain ⟨A, c, rfl, _, _, _⟩ := hb.op
  refine k_enter (l := [_]) Tryd.func14 rfl rfl ?_
  have H := St.start nT w
  refine k_seq ?_
  refine k_region ?_
  refine s_run (w_none rfl) rfl (as_b rfl rfl) ?_
  refine l_nil ?_
  refine k_seq ?_
  refine k_seq ?_
  refine k_region ?_
  refine s_run (w_none rfl) rfl (mv_s rfl rfl) ?_
  refine s_run (w_none rfl) rfl (d_len rfl rfl tu23) ?_
  refine s_run (w_none rfl) rfl (d_gt rfl rfl rfl) ?_
  refine l_nil ?_
  refine k_condF rfl (by simp; omega) ?_
  refine k_skip ?_
  refine k_seq ?_
  refine k_region ?_
  refine s_run (w_none rfl) rfl (mv_s rfl rfl) ?_
  refine s_eff (e_call (w_none rfl) rfl rfl Tryd.func24 rfl rfl rfl (lentBytes _ _ _ (H.bs hb0) (by omega)) ?_)
  rintro _ W ⟨A1, c1, rfl, hc1, hd1, hn⟩
  replace H := H.new hn
  clear hn
  refine s_run (w_none rfl) rfl (as_s rfl rfl) ?_
  refine l_nil ?_
  refine k_seq ?_
  refine k_region ?_
  refine s_run (w_none rfl) rfl (mv_s rfl rfl) ?_
  refine s_run (w_none rfl) rfl (mv_s rfl rfl) ?_
  refine s_run (w_none rfl) rfl (d_len rfl rfl tu23) ?_
  refine s_run (w_none rfl) rfl (d_cutP rfl rfl (h := b.length) rfl (by have := hc1; rw [List.length_append] at this; omega) rfl tu23 ts5) ?_
  refine s_eff (e_call (w_none rfl) rfl rfl Tryd.func65 rfl rfl rfl (getP (b := b) _ (H.gat hG) (lent_pre (H.rowbs (A := A1) (l := b ++ marks 5) rfl) rfl) (by omega)) ?_)
  rintro _ W ⟨rfl, hb⟩
  replace H := H.below hb
  clear hb
  refine s_run (w_none rfl) rfl (mv_t rfl rfl) ?_
  refine s_run (w_none rfl) rfl (d_ext rfl rfl rfl) ?_
  refine s_run (w_none rfl) rfl (d_ext rfl rfl rfl) ?_
  refine s_eff (e_alloc (w_none rfl) rfl rfl (msgC Mg.zero) (by kernel_rfl) H ?_)
  clear H; intro g4 W H
  refine s_eff (e_stoK (msgC (Mg.get b).1) (w_none rfl) rfl rfl rfl rfl rfl ts78 (len_msg (Mg.ok_get (b := b)).2.2.2.2.2) msg_one H (by rw [len_msg (m := Mg.zero) List.length_replicate]; decide) (spl_all ((len_msg (Mg.ok_get (b := b)).2.2.2.2.2).trans (len_msg (m := Mg.zero) List.length_replicate).symm)) ?_)
  clear H; intro W H
  refine s_run (w_none rfl) rfl (as_i rfl rfl) ?_
  refine l_nil ?_
  refine k_seq ?_
  refine k_region ?_
  refine s_run (w_none rfl) rfl (mv_s rfl rfl) ?_
  refine s_eff (e_call (w_none rfl) rfl rfl Tryd.func66 rfl rfl rfl (getR (b := b) _ (H.bs hb0) (by omega)) ?_)
  rintro _ W ⟨rfl, hb⟩
  replace H := H.below hb
  clear hb
  refine s_run (w_none rfl) rfl (mv_t rfl rfl) ?_
  refine s_run (w_none rfl) rfl (d_ext rfl rfl rfl) ?_
  refine s_run (w_none rfl) rfl (d_ext rfl rfl rfl) ?_
  refine s_eff (e_alloc (w_none rfl) rfl rfl (msgC Mg.zero) (by kernel_rfl) H ?_)
  clear H; intro g5 W H
  refine s_eff (e_stoK (msgC (Mg.get b).1) (w_none rfl) rfl rfl rfl rfl rfl ts78 (len_msg (Mg.ok_get (b := b)).2.2.2.2.2) msg_one H (by rw [len_msg (m := Mg.zero) List.length_replicate]; decide) (spl_all ((len_msg (Mg.ok_get (b := b)).2.2.2.2.2).trans (len_msg (m := Mg.zero) List.length_replicate).symm)) ?_)
  clear H; intro W H
  refine s_run (w_none rfl) rfl (as_i rfl rfl) ?_
  refine l_nil ?_
  refine k_seq ?_
  refine k_region ?_
  refine s_run (w_none rfl) rfl (mv_i rfl rfl) ?_
  refine s_run (w_none rfl) rfl (mv_i rfl rfl) ?_
  refine s_run (w_none rfl) rfl (d_eq rfl rfl rfl) ?_
  refine s_run (w_none rfl) rfl (mv_bx (c := true) rfl rfl (by simp)) ?_
  refine s_run (w_g rfl rfl rfl rfl) rfl (d_ldXM (g := g4) (off := 0) rfl H (sub_all (len_msg (Mg.ok_get (b := b)).2.2.2.2.2)) (len_msg (Mg.ok_get (b := b)).2.2.2.2.2) rfl rfl rfl ta78 ts78) ?_
  refine s_run (w_g rfl rfl rfl rfl) rfl (d_ldXM (g := g5) (off := 0) rfl H (sub_all (len_msg (Mg.ok_get (b := b)).2.2.2.2.2)) (len_msg (Mg.ok_get (b := b)).2.2.2.2.2) rfl rfl rfl ta78 ts78) ?_
  refine s_run (w_g rfl rfl rfl rfl) rfl (d_eqst (r := beqMessage (Mg.get b).1 (Mg.get b).1) rfl rfl rfl (eq_Message (d := 9997) (msg_rep (W := w) (S := nT) (Mg.ok_get (b := b))) (msg_rep (W := w) (S := nT) (Mg.ok_get (b := b)))) (by kernel_rfl)) ?_
  refine s_run (w_none rfl) rfl (d_pickT rfl rfl rfl) ?_
  refine s_run (w_none rfl) rfl (mv_bx (c := true) rfl rfl (by rw [Mg.beq_self])) ?_
  refine s_run (w_g rfl rfl rfl rfl) rfl (mv_s rfl rfl) ?_
  refine s_run (w_g rfl rfl rfl rfl) rfl (mv_s rfl rfl) ?_
  refine s_eff (e_call (w_g rfl rfl rfl rfl) rfl rfl Tryd.func33 rfl rfl rfl (kept _ (H.rowbs (A := A1) (l := b ++ marks 5) rfl) (H.bs hb0) rfl (by omega)) ?_)
  rintro _ W ⟨rfl, hb⟩
  replace H := H.below hb
  clear hb
  refine s_run (w_none rfl) rfl (d_pickT rfl rfl rfl) ?_
  refine s_run (w_none rfl) rfl (mv_bx (c := true) rfl rfl (rfl)) ?_
  refine s_eff (e_call (w_g rfl rfl rfl rfl) rfl rfl Tryd.func64 rfl rfl rfl (works21 _ (H.gat hG)) ?_)
  rintro _ W ⟨rfl, hb⟩
  replace H := H.below hb
  clear hb
  refine s_run (w_none rfl) rfl (d_pickT rfl rfl rfl) ?_
  refine s_run (w_none rfl) rfl (as_b rfl rfl) ?_
  refine l_nil ?_
  refine k_ret ?_
  repeat (first | refine r_then ?_ | refine r_blk ?_)
  exact q_ret (v := .bool _) rfl rfl ⟨_, rfl, rfl, H.under⟩

set_option maxHeartbeats 4000000 in
theorem messageBackA {m : DMessage} {S : Nat → Prop} {v : Value} {b : List UInt8} (w : World) (hG : Gat w 0 formsC) (hb : Bs w S v b) (hm : Mg.Ok m) (hl : 4096 < b.length) : Calls Tryd.prog 15 [.agg (msgC m).toArray, v].toArray w (Ret (Is w (.bool true))) := by
  have hb0 := hb
  obtain ⟨A, c, rfl, _, _, _⟩ := hb.op
  refine k_enter (l := [_, _]) Tryd.func15 rfl rfl ?_
  have H := St.start nT w
  refine k_seq ?_
  refine k_region ?_
  refine s_eff (e_box (vs := (msgC m)) (w_none rfl) rfl rfl rfl rfl H ?_)
  clear H; intro gm W H
  refine s_run (w_none rfl) rfl (as_b rfl rfl) ?_
  refine l_nil ?_
  refine k_seq ?_
  refine k_seq ?_
  refine k_region ?_
  refine s_run (w_none rfl) rfl (mv_s rfl rfl) ?_
  refine s_run (w_none rfl) rfl (d_len rfl rfl tu23) ?_
  refine s_run (w_none rfl) rfl (d_gt rfl rfl rfl) ?_
  refine l_nil ?_
  refine k_condT rfl (by simp; omega) ?_
  refine k_seq ?_
  refine k_region ?_
  refine s_eff (e_call (w_none rfl) rfl rfl Tryd.func64 rfl rfl rfl (works21 _ (H.gat hG)) ?_)
  rintro _ W ⟨rfl, hb⟩
  replace H := H.below hb
  clear hb
  refine s_run (w_none rfl) rfl (as_b rfl rfl) ?_
  refine l_nil ?_
  refine k_ret ?_
  repeat (first | refine r_then ?_ | refine r_blk ?_)
  exact q_ret (v := .bool _) rfl rfl ⟨_, rfl, rfl, H.under⟩

set_option maxHeartbeats 4000000 in
theorem messageBackB {m : DMessage} {S : Nat → Prop} {v : Value} {b : List UInt8} (w : World) (hG : Gat w 0 formsC) (hb : Bs w S v b) (hm : Mg.Ok m) (hl : b.length ≤ 4096) : Calls Tryd.prog 15 [.agg (msgC m).toArray, v].toArray w (Ret (Is w (.bool true))) := by
  have hb0 := hb
  obtain ⟨A, c, rfl, _, _, _⟩ := hb.op
  refine k_enter (l := [_, _]) Tryd.func15 rfl rfl ?_
  have H := St.start nT w
  have hlp := Mg.len_put hm
  refine k_seq ?_
  refine k_region ?_
  refine s_eff (e_box (vs := (msgC m)) (w_none rfl) rfl rfl rfl rfl H ?_)
  clear H; intro gm W H
  refine s_run (w_none rfl) rfl (as_b rfl rfl) ?_
  refine l_nil ?_
  refine k_seq ?_
  refine k_seq ?_
  refine k_region ?_
  refine s_run (w_none rfl) rfl (mv_s rfl rfl) ?_
  refine s_run (w_none rfl) rfl (d_len rfl rfl tu23) ?_
  refine s_run (w_none rfl) rfl (d_gt rfl rfl rfl) ?_
  refine l_nil ?_
  refine k_condF rfl (by simp; omega) ?_
  refine k_skip ?_
  refine k_seq ?_
  refine k_region ?_
  refine s_run (w_none rfl) rfl (d_ldXM (g := gm) (off := 0) rfl H (sub_all (len_msg hm.2.2.2.2.2)) (len_msg hm.2.2.2.2.2) rfl rfl rfl ta78 ts78) ?_
  refine s_eff (e_call (w_none rfl) rfl rfl Tryd.func59 rfl rfl rfl (putP _ (H.gat hG) hm) ?_)
  rintro _ W ⟨_, rfl, A1, c1, rfl, hc1, hd1, hn⟩
  replace H := H.new hn
  clear hn
  refine s_run (w_none rfl) rfl (mv_t rfl rfl) ?_
  refine s_run (w_none rfl) rfl (d_ext rfl rfl rfl) ?_
  refine s_run (w_none rfl) rfl (d_ext rfl rfl rfl) ?_
  refine s_run (w_none rfl) rfl (as_s rfl rfl) ?_
  refine s_run (w_none rfl) rfl (as_i rfl rfl) ?_
  refine l_nil ?_
  refine k_seq ?_
  refine k_seq ?_
  rcases (show Mg.chk m = 0 ∨ ¬ Mg.chk m = 0 by omega) with hc | hc
  · skip
    refine k_region ?_
    refine s_run (w_none rfl) rfl (mv_i rfl rfl) ?_
    refine s_run (w_none rfl) rfl (d_ldXM (g := gm) (off := 0) rfl H (sub_all (len_msg hm.2.2.2.2.2)) (len_msg hm.2.2.2.2.2) rfl rfl rfl ta78 ts78) ?_
    refine s_eff (e_call (w_none rfl) rfl rfl Tryd.func61 rfl rfl rfl (checkP _ hm) ?_)
    rintro _ W ⟨rfl, hb⟩
    replace H := H.below hb
    clear hb
    refine s_run (w_none rfl) rfl (d_ne rfl rfl rfl) ?_
    refine s_run (w_none rfl) rfl (mv_bx (c := false) rfl rfl (by simp)) ?_
    refine s_run (w_g rfl rfl rfl rfl) rfl (mv_i rfl rfl) ?_
    refine s_run (w_g rfl rfl rfl rfl) rfl (d_ne rfl rfl rfl) ?_
    refine s_run (w_g rfl rfl rfl rfl) rfl (mv_bx (c := false) rfl rfl (by simp [hc])) ?_
    refine s_skip (w_gno rfl rfl rfl rfl rfl) rfl ?_
    refine s_skip (w_gno rfl rfl rfl rfl rfl) rfl ?_
    refine s_skip (w_gno rfl rfl rfl rfl rfl) rfl ?_
    refine s_run (w_g rfl rfl rfl rfl) rfl (d_pickF rfl rfl rfl) ?_
    refine s_run (w_none rfl) rfl (d_pickF rfl rfl rfl) ?_
    refine l_nil ?_
    refine k_condF rfl rfl ?_
    refine k_skip ?_
    refine k_seq ?_
    refine k_seq ?_
    refine k_region ?_
    refine s_run (w_none rfl) rfl (mv_i rfl rfl) ?_
    refine s_run (w_none rfl) rfl (d_eq rfl rfl rfl) ?_
    refine l_nil ?_
    refine k_condT rfl (by simp [hc]) ?_
    refine k_seq ?_
    refine k_region ?_
    refine s_run (w_none rfl) rfl (mv_s rfl rfl) ?_
    refine s_eff (e_call (w_none rfl) rfl rfl Tryd.func65 rfl rfl rfl (getP (b := Mg.put m) _ (H.gat hG) (H.rowbs (A := A1) rfl) (by omega)) ?_)
    rw [Mg.get_put hc hm]
    rintro _ W ⟨rfl, hb⟩
    replace H := H.below hb
    clear hb
    refine s_run (w_none rfl) rfl (mv_t rfl rfl) ?_
    refine s_run (w_none rfl) rfl (d_ext rfl rfl rfl) ?_
    refine s_run (w_none rfl) rfl (d_ext rfl rfl rfl) ?_
    refine s_eff (e_alloc (w_none rfl) rfl rfl (msgC Mg.zero) (by kernel_rfl) H ?_)
    clear H; intro g7 W H
    refine s_eff (e_stoK ((msgC m)) (w_none rfl) rfl rfl rfl rfl rfl ts78 (len_msg hm.2.2.2.2.2) msg_one H (by rw [len_msg (m := Mg.zero) List.length_replicate]; decide) (spl_all ((len_msg hm.2.2.2.2.2).trans (len_msg (m := Mg.zero) List.length_replicate).symm)) ?_)
    clear H; intro W H
    refine s_run (w_none rfl) rfl (as_i rfl rfl) ?_
    refine l_nil ?_
    refine k_seq ?_
    refine k_region ?_
    refine s_run (w_none rfl) rfl (mv_i rfl rfl) ?_
    refine s_run (w_none rfl) rfl (d_ne rfl rfl rfl) ?_
    refine s_run (w_none rfl) rfl (mv_bx (c := false) rfl rfl (rfl)) ?_
    refine s_run (w_g rfl rfl rfl rfl) rfl (d_ldXM (g := g7) (off := 0) rfl H (sub_all (len_msg hm.2.2.2.2.2)) (len_msg hm.2.2.2.2.2) rfl rfl rfl ta78 ts78) ?_
    refine s_run (w_g rfl rfl rfl rfl) rfl (d_ldXM (g := gm) (off := 0) rfl H (sub_all (len_msg hm.2.2.2.2.2)) (len_msg hm.2.2.2.2.2) rfl rfl rfl ta78 ts78) ?_
    refine s_run (w_g rfl rfl rfl rfl) rfl (d_nest (r := beqMessage m m) rfl rfl rfl (eq_Message (d := 9997) (msg_rep (W := w) (S := nT) hm) (msg_rep (W := w) (S := nT) hm)) (by kernel_rfl)) ?_
    refine s_run (w_none rfl) rfl (d_pickF rfl rfl rfl) ?_
    refine l_nil ?_
    refine k_condF rfl (by simp [Mg.beq_self]) ?_
    refine k_skip ?_
    refine k_seq ?_
    refine k_region ?_
    refine s_run (w_none rfl) rfl (mv_s rfl rfl) ?_
    refine s_eff (e_call (w_none rfl) rfl rfl Tryd.func65 rfl rfl rfl (getP (b := b) _ (H.gat hG) (H.bs hb0) (by omega)) ?_)
    rintro _ W ⟨rfl, hb⟩
    replace H := H.below hb
    clear hb
    refine s_run (w_none rfl) rfl (mv_t rfl rfl) ?_
    refine s_run (w_none rfl) rfl (d_ext rfl rfl rfl) ?_
    refine s_run (w_none rfl) rfl (d_ext rfl rfl rfl) ?_
    refine s_eff (e_alloc (w_none rfl) rfl rfl (msgC Mg.zero) (by kernel_rfl) H ?_)
    clear H; intro g9 W H
    refine s_eff (e_stoK (msgC (Mg.get b).1) (w_none rfl) rfl rfl rfl rfl rfl ts78 (len_msg (Mg.ok_get (b := b)).2.2.2.2.2) msg_one H (by rw [len_msg (m := Mg.zero) List.length_replicate]; decide) (spl_all ((len_msg (Mg.ok_get (b := b)).2.2.2.2.2).trans (len_msg (m := Mg.zero) List.length_replicate).symm)) ?_)
    clear H; intro W H
    refine s_run (w_none rfl) rfl (as_i rfl rfl) ?_
    refine l_nil ?_
    refine k_seq ?_
    refine k_seq ?_
    refine k_region ?_
    refine s_run (w_none rfl) rfl (mv_i rfl rfl) ?_
    refine s_run (w_none rfl) rfl (d_ne rfl rfl rfl) ?_
    refine l_nil ?_
    refine k_cond rfl (fun hc55 => ?_) (fun hc55 => ?_)
    · have hne : (Mg.get b).2 ≠ 0 := by simpa using hc55
      refine k_seq ?_
      refine k_region ?_
      refine s_run (w_none rfl) rfl (d_ldXM (g := g9) (off := 0) rfl H (sub_all (len_msg (Mg.ok_get (b := b)).2.2.2.2.2)) (len_msg (Mg.ok_get (b := b)).2.2.2.2.2) rfl rfl rfl ta78 ts78) ?_
      refine s_run (w_none rfl) rfl (d_build (vs := msgC Mg.zero) rfl (by kernel_rfl)) ?_
      refine s_run (w_none rfl) rfl (d_eqst (r := beqMessage (Mg.get b).1 Mg.zero) rfl rfl rfl (eq_Message (d := 9997) (msg_rep (W := w) (S := nT) (Mg.ok_get (b := b))) (msg_rep (W := w) (S := nT) ok_zero)) (by kernel_rfl)) ?_
      refine s_run (w_none rfl) rfl (mv_bx (c := true) rfl rfl (by rw [Mg.get_zero hne, Mg.beq_self])) ?_
      refine s_eff (e_call (w_g rfl rfl rfl rfl) rfl rfl Tryd.func64 rfl rfl rfl (works21 _ (H.gat hG)) ?_)
      rintro _ W ⟨rfl, hb⟩
      replace H := H.below hb
      clear hb
      refine s_run (w_none rfl) rfl (d_pickT rfl rfl rfl) ?_
      refine s_run (w_none rfl) rfl (as_b rfl rfl) ?_
      refine l_nil ?_
      refine k_ret ?_
      repeat (first | refine r_then ?_ | refine r_blk ?_)
      exact q_ret (v := .bool _) rfl rfl ⟨_, rfl, rfl, H.under⟩
    · have hne : (Mg.get b).2 = 0 := by simpa using hc55
      obtain ⟨hg1, hg2⟩ := Mg.get_back hne
      have hlb : (Mg.put (Mg.get b).1).length ≤ 200 := Mg.len_put Mg.ok_get
      refine k_skip ?_
      refine k_seq ?_
      refine k_region ?_
      refine s_run (w_none rfl) rfl (d_ldXM (g := g9) (off := 0) rfl H (sub_all (len_msg (Mg.ok_get (b := b)).2.2.2.2.2)) (len_msg (Mg.ok_get (b := b)).2.2.2.2.2) rfl rfl rfl ta78 ts78) ?_
      refine s_eff (e_call (w_none rfl) rfl rfl Tryd.func59 rfl rfl rfl (putP _ (H.gat hG) (Mg.ok_get (b := b))) ?_)
      rw [hg1, hg2]
      rintro _ W ⟨_, rfl, A2, c2, rfl, hc2, hd2, hn⟩
      replace H := H.new hn
      clear hn
      refine s_run (w_none rfl) rfl (mv_t rfl rfl) ?_
      refine s_run (w_none rfl) rfl (d_ext rfl rfl rfl) ?_
      refine s_run (w_none rfl) rfl (d_ext rfl rfl rfl) ?_
      refine s_run (w_none rfl) rfl (as_s rfl rfl) ?_
      refine s_run (w_none rfl) rfl (as_i rfl rfl) ?_
      refine l_nil ?_
      refine k_seq ?_
      refine k_region ?_
      refine s_run (w_none rfl) rfl (mv_i rfl rfl) ?_
      refine s_run (w_none rfl) rfl (d_eq rfl rfl rfl) ?_
      refine s_run (w_none rfl) rfl (mv_bx (c := true) rfl rfl (rfl)) ?_
      refine s_run (w_g rfl rfl rfl rfl) rfl (mv_s rfl rfl) ?_
      refine s_run (w_g rfl rfl rfl rfl) rfl (mv_s rfl rfl) ?_
      refine s_eff (e_call (w_g rfl rfl rfl rfl) rfl rfl Tryd.func22 rfl rfl rfl (sameBytes _ _ b b _ (H.rowbs (A := A2) rfl) (H.bs hb0)) ?_)
      rintro _ W ⟨rfl, hb⟩
      replace H := H.below hb
      clear hb
      refine s_run (w_none rfl) rfl (d_pickT rfl rfl rfl) ?_
      refine s_run (w_none rfl) rfl (mv_bx (c := true) rfl rfl (by simp)) ?_
      refine s_eff (e_call (w_g rfl rfl rfl rfl) rfl rfl Tryd.func64 rfl rfl rfl (works21 _ (H.gat hG)) ?_)
      rintro _ W ⟨rfl, hb⟩
      replace H := H.below hb
      clear hb
      refine s_run (w_none rfl) rfl (d_pickT rfl rfl rfl) ?_
      refine s_run (w_none rfl) rfl (as_b rfl rfl) ?_
      refine l_nil ?_
      refine k_ret ?_
      repeat (first | refine r_then ?_ | refine r_blk ?_)
      exact q_ret (v := .bool _) rfl rfl ⟨_, rfl, rfl, H.under⟩
  · have hp0 : (Mg.put m).length = 0 := by rw [Mg.put_bad hc]; rfl
    refine k_region ?_
    refine s_run (w_none rfl) rfl (mv_i rfl rfl) ?_
    refine s_run (w_none rfl) rfl (d_ldXM (g := gm) (off := 0) rfl H (sub_all (len_msg hm.2.2.2.2.2)) (len_msg hm.2.2.2.2.2) rfl rfl rfl ta78 ts78) ?_
    refine s_eff (e_call (w_none rfl) rfl rfl Tryd.func61 rfl rfl rfl (checkP _ hm) ?_)
    rintro _ W ⟨rfl, hb⟩
    replace H := H.below hb
    clear hb
    refine s_run (w_none rfl) rfl (d_ne rfl rfl rfl) ?_
    refine s_run (w_none rfl) rfl (mv_bx (c := false) rfl rfl (by simp)) ?_
    refine s_run (w_g rfl rfl rfl rfl) rfl (mv_i rfl rfl) ?_
    refine s_run (w_g rfl rfl rfl rfl) rfl (d_ne rfl rfl rfl) ?_
    refine s_run (w_g rfl rfl rfl rfl) rfl (mv_bx (c := true) rfl rfl (by simp [hc])) ?_
    refine s_run (w_g rfl rfl rfl rfl) rfl (mv_s rfl rfl) ?_
    refine s_run (w_g rfl rfl rfl rfl) rfl (d_len rfl rfl tu23) ?_
    refine s_run (w_g rfl rfl rfl rfl) rfl (d_gt rfl rfl rfl) ?_
    refine s_run (w_g rfl rfl rfl rfl) rfl (d_pickT rfl rfl rfl) ?_
    refine s_run (w_none rfl) rfl (d_pickF rfl rfl rfl) ?_
    refine l_nil ?_
    refine k_condF rfl (by rw [hp0]; rfl) ?_
    refine k_skip ?_
    refine k_seq ?_
    refine k_seq ?_
    refine k_region ?_
    refine s_run (w_none rfl) rfl (mv_i rfl rfl) ?_
    refine s_run (w_none rfl) rfl (d_eq rfl rfl rfl) ?_
    refine l_nil ?_
    refine k_condF rfl (by simp [hc]) ?_
    refine k_skip ?_
    refine k_seq ?_
    refine k_region ?_
    refine s_run (w_none rfl) rfl (mv_s rfl rfl) ?_
    refine s_eff (e_call (w_none rfl) rfl rfl Tryd.func65 rfl rfl rfl (getP (b := b) _ (H.gat hG) (H.bs hb0) (by omega)) ?_)
    rintro _ W ⟨rfl, hb⟩
    replace H := H.below hb
    clear hb
    refine s_run (w_none rfl) rfl (mv_t rfl rfl) ?_
    refine s_run (w_none rfl) rfl (d_ext rfl rfl rfl) ?_
    refine s_run (w_none rfl) rfl (d_ext rfl rfl rfl) ?_
    refine s_eff (e_alloc (w_none rfl) rfl rfl (msgC Mg.zero) (by kernel_rfl) H ?_)
    clear H; intro g9 W H
    refine s_eff (e_stoK (msgC (Mg.get b).1) (w_none rfl) rfl rfl rfl rfl rfl ts78 (len_msg (Mg.ok_get (b := b)).2.2.2.2.2) msg_one H (by rw [len_msg (m := Mg.zero) List.length_replicate]; decide) (spl_all ((len_msg (Mg.ok_get (b := b)).2.2.2.2.2).trans (len_msg (m := Mg.zero) List.length_replicate).symm)) ?_)
    clear H; intro W H
    refine s_run (w_none rfl) rfl (as_i rfl rfl) ?_
    refine l_nil ?_
    refine k_seq ?_
    refine k_seq ?_
    refine k_region ?_
    refine s_run (w_none rfl) rfl (mv_i rfl rfl) ?_
    refine s_run (w_none rfl) rfl (d_ne rfl rfl rfl) ?_
    refine l_nil ?_
    refine k_cond rfl (fun hc55 => ?_) (fun hc55 => ?_)
    · have hne : (Mg.get b).2 ≠ 0 := by simpa using hc55
      refine k_seq ?_
      refine k_region ?_
      refine s_run (w_none rfl) rfl (d_ldXM (g := g9) (off := 0) rfl H (sub_all (len_msg (Mg.ok_get (b := b)).2.2.2.2.2)) (len_msg (Mg.ok_get (b := b)).2.2.2.2.2) rfl rfl rfl ta78 ts78) ?_
      refine s_run (w_none rfl) rfl (d_build (vs := msgC Mg.zero) rfl (by kernel_rfl)) ?_
      refine s_run (w_none rfl) rfl (d_eqst (r := beqMessage (Mg.get b).1 Mg.zero) rfl rfl rfl (eq_Message (d := 9997) (msg_rep (W := w) (S := nT) (Mg.ok_get (b := b))) (msg_rep (W := w) (S := nT) ok_zero)) (by kernel_rfl)) ?_
      refine s_run (w_none rfl) rfl (mv_bx (c := true) rfl rfl (by rw [Mg.get_zero hne, Mg.beq_self])) ?_
      refine s_eff (e_call (w_g rfl rfl rfl rfl) rfl rfl Tryd.func64 rfl rfl rfl (works21 _ (H.gat hG)) ?_)
      rintro _ W ⟨rfl, hb⟩
      replace H := H.below hb
      clear hb
      refine s_run (w_none rfl) rfl (d_pickT rfl rfl rfl) ?_
      refine s_run (w_none rfl) rfl (as_b rfl rfl) ?_
      refine l_nil ?_
      refine k_ret ?_
      repeat (first | refine r_then ?_ | refine r_blk ?_)
      exact q_ret (v := .bool _) rfl rfl ⟨_, rfl, rfl, H.under⟩
    · have hne : (Mg.get b).2 = 0 := by simpa using hc55
      obtain ⟨hg1, hg2⟩ := Mg.get_back hne
      have hlb : (Mg.put (Mg.get b).1).length ≤ 200 := Mg.len_put Mg.ok_get
      refine k_skip ?_
      refine k_seq ?_
      refine k_region ?_
      refine s_run (w_none rfl) rfl (d_ldXM (g := g9) (off := 0) rfl H (sub_all (len_msg (Mg.ok_get (b := b)).2.2.2.2.2)) (len_msg (Mg.ok_get (b := b)).2.2.2.2.2) rfl rfl rfl ta78 ts78) ?_
      refine s_eff (e_call (w_none rfl) rfl rfl Tryd.func59 rfl rfl rfl (putP _ (H.gat hG) (Mg.ok_get (b := b))) ?_)
      rw [hg1, hg2]
      rintro _ W ⟨_, rfl, A2, c2, rfl, hc2, hd2, hn⟩
      replace H := H.new hn
      clear hn
      refine s_run (w_none rfl) rfl (mv_t rfl rfl) ?_
      refine s_run (w_none rfl) rfl (d_ext rfl rfl rfl) ?_
      refine s_run (w_none rfl) rfl (d_ext rfl rfl rfl) ?_
      refine s_run (w_none rfl) rfl (as_s rfl rfl) ?_
      refine s_run (w_none rfl) rfl (as_i rfl rfl) ?_
      refine l_nil ?_
      refine k_seq ?_
      refine k_region ?_
      refine s_run (w_none rfl) rfl (mv_i rfl rfl) ?_
      refine s_run (w_none rfl) rfl (d_eq rfl rfl rfl) ?_
      refine s_run (w_none rfl) rfl (mv_bx (c := true) rfl rfl (rfl)) ?_
      refine s_run (w_g rfl rfl rfl rfl) rfl (mv_s rfl rfl) ?_
      refine s_run (w_g rfl rfl rfl rfl) rfl (mv_s rfl rfl) ?_
      refine s_eff (e_call (w_g rfl rfl rfl rfl) rfl rfl Tryd.func22 rfl rfl rfl (sameBytes _ _ b b _ (H.rowbs (A := A2) rfl) (H.bs hb0)) ?_)
      rintro _ W ⟨rfl, hb⟩
      replace H := H.below hb
      clear hb
      refine s_run (w_none rfl) rfl (d_pickT rfl rfl rfl) ?_
      refine s_run (w_none rfl) rfl (mv_bx (c := true) rfl rfl (by simp)) ?_
      refine s_eff (e_call (w_g rfl rfl rfl rfl) rfl rfl Tryd.func64 rfl rfl rfl (works21 _ (H.gat hG)) ?_)
      rintro _ W ⟨rfl, hb⟩
      replace H := H.below hb
      clear hb
      refine s_run (w_none rfl) rfl (d_pickT rfl rfl rfl) ?_
      refine s_run (w_none rfl) rfl (as_b rfl rfl) ?_
      refine l_nil ?_
      refine k_ret ?_
      repeat (first | refine r_then ?_ | refine r_blk ?_)
      exact q_ret (v := .bool _) rfl rfl ⟨_, rfl, rfl, H.under⟩

set_option maxHeartbeats 4000000 in
theorem messageCut {m : DMessage} {ct : Int} {S : Nat → Prop} {v : Value} {b : List UInt8} (w : World) (hG : Gat w 0 formsC) (hb : Bs w S v b) (hm : Mg.Ok m) : Calls Tryd.prog 16 [.agg (msgC m).toArray, .int .i64 ct, v].toArray w (Ret (Is w (.bool true))) := by
  have hb0 := hb
  obtain ⟨A, c, rfl, hcb1, hcb2, hmr⟩ := hb.op
  refine k_enter (l := [_, _, _]) Tryd.func16 rfl rfl ?_
  have H := St.start nT w
  have hlp := Mg.len_put hm
  refine k_seq ?_
  refine k_region ?_
  refine s_eff (e_box (vs := (msgC m)) (w_none rfl) rfl rfl rfl rfl H ?_)
  clear H; intro gm W H
  refine s_run (w_none rfl) rfl (as_b rfl rfl) ?_
  refine l_nil ?_
  refine k_seq ?_
  refine k_region ?_
  refine s_run (w_none rfl) rfl (d_ldXM (g := gm) (off := 0) rfl H (sub_all (len_msg hm.2.2.2.2.2)) (len_msg hm.2.2.2.2.2) rfl rfl rfl ta78 ts78) ?_
  refine s_eff (e_call (w_none rfl) rfl rfl Tryd.func59 rfl rfl rfl (putP _ (H.gat hG) hm) ?_)
  rintro _ W ⟨_, rfl, A1, c1, rfl, hc1, hd1, hn⟩
  replace H := H.new hn
  clear hn
  refine s_run (w_none rfl) rfl (mv_t rfl rfl) ?_
  refine s_run (w_none rfl) rfl (d_ext rfl rfl rfl) ?_
  refine s_run (w_none rfl) rfl (d_ext rfl rfl rfl) ?_
  refine s_run (w_none rfl) rfl (as_s rfl rfl) ?_
  refine s_run (w_none rfl) rfl (as_i rfl rfl) ?_
  refine l_nil ?_
  refine k_seq ?_
  refine k_seq ?_
  rcases (show ¬ Mg.chk m = 0 ∨ (Mg.chk m = 0 ∧ 512 < b.length) ∨ (Mg.chk m = 0 ∧ b.length ≤ 512) by omega) with hc | ⟨hc, hl⟩ | ⟨hc, hl⟩
  · skip
    refine k_region ?_
    refine s_run (w_none rfl) rfl (mv_i rfl rfl) ?_
    refine s_run (w_none rfl) rfl (d_ne rfl rfl rfl) ?_
    refine s_run (w_none rfl) rfl (mv_bx (c := true) rfl rfl (by simp [hc])) ?_
    refine s_skip (w_gno rfl rfl rfl rfl rfl) rfl ?_
    refine s_skip (w_gno rfl rfl rfl rfl rfl) rfl ?_
    refine s_skip (w_gno rfl rfl rfl rfl rfl) rfl ?_
    refine s_run (w_none rfl) rfl (d_pickT rfl rfl rfl) ?_
    refine l_nil ?_
    refine k_condT rfl rfl ?_
    refine k_seq ?_
    refine k_region ?_
    refine s_eff (e_call (w_none rfl) rfl rfl Tryd.func64 rfl rfl rfl (works21 _ (H.gat hG)) ?_)
    rintro _ W ⟨rfl, hb⟩
    replace H := H.below hb
    clear hb
    refine s_run (w_none rfl) rfl (as_b rfl rfl) ?_
    refine l_nil ?_
    refine k_ret ?_
    repeat (first | refine r_then ?_ | refine r_blk ?_)
    exact q_ret (v := .bool _) rfl rfl ⟨_, rfl, rfl, H.under⟩
  · skip
    refine k_region ?_
    refine s_run (w_none rfl) rfl (mv_i rfl rfl) ?_
    refine s_run (w_none rfl) rfl (d_ne rfl rfl rfl) ?_
    refine s_run (w_none rfl) rfl (mv_bx (c := false) rfl rfl (by simp [hc])) ?_
    refine s_run (w_g rfl rfl rfl rfl) rfl (mv_s rfl rfl) ?_
    refine s_run (w_g rfl rfl rfl rfl) rfl (d_len rfl rfl tu23) ?_
    refine s_run (w_g rfl rfl rfl rfl) rfl (d_gt rfl rfl rfl) ?_
    refine s_run (w_none rfl) rfl (d_pickF rfl rfl rfl) ?_
    refine l_nil ?_
    refine k_condT rfl (by simp; omega) ?_
    refine k_seq ?_
    refine k_region ?_
    refine s_eff (e_call (w_none rfl) rfl rfl Tryd.func64 rfl rfl rfl (works21 _ (H.gat hG)) ?_)
    rintro _ W ⟨rfl, hb⟩
    replace H := H.below hb
    clear hb
    refine s_run (w_none rfl) rfl (as_b rfl rfl) ?_
    refine l_nil ?_
    refine k_ret ?_
    repeat (first | refine r_then ?_ | refine r_blk ?_)
    exact q_ret (v := .bool _) rfl rfl ⟨_, rfl, rfl, H.under⟩
  · have hl0 : 0 < (Mg.put m).length := by rw [Mg.put_ok hc, List.length_append]; have := Mg.int_pos (u := m.kind.toNat); omega
    refine k_region ?_
    refine s_run (w_none rfl) rfl (mv_i rfl rfl) ?_
    refine s_run (w_none rfl) rfl (d_ne rfl rfl rfl) ?_
    refine s_run (w_none rfl) rfl (mv_bx (c := false) rfl rfl (by simp [hc])) ?_
    refine s_run (w_g rfl rfl rfl rfl) rfl (mv_s rfl rfl) ?_
    refine s_run (w_g rfl rfl rfl rfl) rfl (d_len rfl rfl tu23) ?_
    refine s_run (w_g rfl rfl rfl rfl) rfl (d_gt rfl rfl rfl) ?_
    refine s_run (w_none rfl) rfl (d_pickF rfl rfl rfl) ?_
    refine l_nil ?_
    refine k_condF rfl (by simp; omega) ?_
    refine k_skip ?_
    refine k_seq ?_
    refine k_region ?_
    refine s_run (w_none rfl) rfl (mv_s rfl rfl) ?_
    refine s_run (w_none rfl) rfl (mv_i rfl rfl) ?_
    refine s_run (w_none rfl) rfl (mv_s rfl rfl) ?_
    refine s_run (w_none rfl) rfl (d_len rfl rfl tu23) ?_
    refine s_eff (e_call (w_none rfl) rfl rfl Tryd.func42 rfl rfl rfl (pick_any ct _ _ (by omega)) ?_)
    have hpk := pick_in (v := ct) (n := ((Mg.put m).length : Int)) (by omega)
    obtain ⟨ck, hck, hck2⟩ := pick_nat ct (Mg.put m).length
    rw [hck] at hpk ⊢
    have hck3 : ck < (Mg.put m).length := by omega
    rintro _ W ⟨rfl, hb⟩
    replace H := H.below hb
    clear hb
    refine s_run (w_none rfl) rfl (d_cutP rfl rfl (h := ck) rfl (by omega) rfl tu23 ts5) ?_
    refine s_eff (e_call (w_none rfl) rfl rfl Tryd.func65 rfl rfl rfl (getP (b := (Mg.put m).take ck) _ (H.gat hG) ((H.rowbs (A := A1) rfl).pre (h := ck) rfl hck2) (by rw [List.length_take]; omega)) ?_)
    rw [Mg.get_cut hc hm hck3]
    rintro _ W ⟨rfl, hb⟩
    replace H := H.below hb
    clear hb
    refine s_run (w_none rfl) rfl (mv_t rfl rfl) ?_
    refine s_run (w_none rfl) rfl (d_ext rfl rfl rfl) ?_
    refine s_run (w_none rfl) rfl (d_ext rfl rfl rfl) ?_
    refine s_eff (e_alloc (w_none rfl) rfl rfl (msgC Mg.zero) (by kernel_rfl) H ?_)
    clear H; intro g4 W H
    refine s_eff (e_stoK (msgC (Mg.get ((Mg.put m).take ck)).1) (w_none rfl) rfl rfl rfl rfl rfl ts78 (len_msg Mg.ok_get.2.2.2.2.2) msg_one H (by rw [len_msg (m := Mg.zero) List.length_replicate]; decide) (spl_all ((len_msg Mg.ok_get.2.2.2.2.2).trans (len_msg (m := Mg.zero) List.length_replicate).symm)) ?_)
    clear H; intro W H
    refine s_run (w_none rfl) rfl (as_i rfl rfl) ?_
    refine l_nil ?_
    refine k_seq ?_
    refine k_region ?_
    refine s_run (w_none rfl) rfl (mv_s rfl rfl) ?_
    refine s_eff (e_call (w_none rfl) rfl rfl Tryd.func67 rfl rfl rfl (copyBytes _ _ _ (H.rowbs (A := A1) rfl) (by omega)) ?_)
    rintro _ W ⟨A3, c3, rfl, hc3, hd3, hn⟩
    replace H := H.new hn
    clear hn
    refine s_run (w_none rfl) rfl (mv_s rfl rfl) ?_
    refine s_eff (e_app (w_none rfl) rfl rfl tu23 tx5 rfl rfl rfl H (H.rd hmr) (all_u8L _) (by omega) rfl ?_)
    clear H; intro A5 c5 W hc5 hd5 H
    refine s_eff (e_call (w_none rfl) rfl rfl Tryd.func65 rfl rfl rfl (getP (b := Mg.put m ++ b) _ (H.gat hG) (bs_row (e := 5) (A := A5) (c := c5) (by have := H.get (f := Fact.row 5 1 (.slice A5 ((Mg.put m).length + b.length) c5) ((Mg.put m).length + b.length) ((Mg.put m).map u8v ++ b.map u8v)); rw [List.map_append]; exact this) (by simp)) (by simp; omega)) ?_)
    rw [Mg.get_more hc hm b]
    rintro _ W ⟨rfl, hb⟩
    replace H := H.below hb
    clear hb
    refine s_run (w_none rfl) rfl (mv_t rfl rfl) ?_
    refine s_run (w_none rfl) rfl (d_ext rfl rfl rfl) ?_
    refine s_run (w_none rfl) rfl (d_ext rfl rfl rfl) ?_
    refine s_eff (e_alloc (w_none rfl) rfl rfl (msgC Mg.zero) (by kernel_rfl) H ?_)
    clear H; intro g5 W H
    refine s_eff (e_stoK (msgC (if b = [] then (m, (0 : Int)) else (Mg.zero, 5)).1) (w_none rfl) rfl rfl rfl rfl rfl ts78 (len_msg (by split <;> first | exact hm.2.2.2.2.2 | exact List.length_replicate)) msg_one H (by rw [len_msg (m := Mg.zero) List.length_replicate]; decide) (spl_all ((len_msg (by split <;> first | exact hm.2.2.2.2.2 | exact List.length_replicate)).trans (len_msg (m := Mg.zero) List.length_replicate).symm)) ?_)
    clear H; intro W H
    refine s_run (w_none rfl) rfl (as_i rfl rfl) ?_
    refine l_nil ?_
    refine k_seq ?_
    refine k_region ?_
    refine s_run (w_none rfl) rfl (as_i rfl rfl) ?_
    refine l_nil ?_
    refine k_seq ?_
    refine k_seq ?_
    rcases b with _ | ⟨b1, b⟩
    · skip
      refine k_region ?_
      refine s_run (w_none rfl) rfl (mv_s rfl rfl) ?_
      refine s_run (w_none rfl) rfl (d_len rfl rfl tu23) ?_
      refine s_run (w_none rfl) rfl (d_eq rfl rfl rfl) ?_
      refine l_nil ?_
      refine k_condT rfl rfl ?_
      refine k_region ?_
      refine s_run (w_none rfl) rfl (as_i rfl rfl) ?_
      refine l_nil ?_
      refine k_seq ?_
      refine k_region ?_
      refine s_run (w_none rfl) rfl (mv_i rfl rfl) ?_
      refine s_run (w_none rfl) rfl (d_eq rfl rfl rfl) ?_
      refine s_run (w_none rfl) rfl (mv_bx (c := true) rfl rfl (rfl)) ?_
      refine s_run (w_g rfl rfl rfl rfl) rfl (mv_i rfl rfl) ?_
      refine s_run (w_g rfl rfl rfl rfl) rfl (mv_i rfl rfl) ?_
      refine s_run (w_g rfl rfl rfl rfl) rfl (d_eq rfl rfl rfl) ?_
      refine s_run (w_none rfl) rfl (d_pickT rfl rfl rfl) ?_
      refine s_run (w_none rfl) rfl (mv_bx (c := true) rfl rfl (rfl)) ?_
      refine s_eff (e_call (w_g rfl rfl rfl rfl) rfl rfl Tryd.func64 rfl rfl rfl (works21 _ (H.gat hG)) ?_)
      rintro _ W ⟨rfl, hb⟩
      replace H := H.below hb
      clear hb
      refine s_run (w_none rfl) rfl (d_pickT rfl rfl rfl) ?_
      refine s_run (w_none rfl) rfl (as_b rfl rfl) ?_
      refine l_nil ?_
      refine k_ret ?_
      repeat (first | refine r_then ?_ | refine r_blk ?_)
      exact q_ret (v := .bool _) rfl rfl ⟨_, rfl, rfl, H.under⟩
    · skip
      refine k_region ?_
      refine s_run (w_none rfl) rfl (mv_s rfl rfl) ?_
      refine s_run (w_none rfl) rfl (d_len rfl rfl tu23) ?_
      refine s_run (w_none rfl) rfl (d_eq rfl rfl rfl) ?_
      refine l_nil ?_
      refine k_condF rfl (by simp; omega) ?_
      refine k_skip ?_
      refine k_seq ?_
      refine k_region ?_
      refine s_run (w_none rfl) rfl (mv_i rfl rfl) ?_
      refine s_run (w_none rfl) rfl (d_eq rfl rfl rfl) ?_
      refine s_run (w_none rfl) rfl (mv_bx (c := true) rfl rfl (rfl)) ?_
      refine s_run (w_g rfl rfl rfl rfl) rfl (mv_i rfl rfl) ?_
      refine s_run (w_g rfl rfl rfl rfl) rfl (mv_i rfl rfl) ?_
      refine s_run (w_g rfl rfl rfl rfl) rfl (d_eq rfl rfl rfl) ?_
      refine s_run (w_none rfl) rfl (d_pickT rfl rfl rfl) ?_
      refine s_run (w_none rfl) rfl (mv_bx (c := true) rfl rfl (rfl)) ?_
      refine s_eff (e_call (w_g rfl rfl rfl rfl) rfl rfl Tryd.func64 rfl rfl rfl (works21 _ (H.gat hG)) ?_)
      rintro _ W ⟨rfl, hb⟩
      replace H := H.below hb
      clear hb
      refine s_run (w_none rfl) rfl (d_pickT rfl rfl rfl) ?_
      refine s_run (w_none rfl) rfl (as_b rfl rfl) ?_
      refine l_nil ?_
      refine k_ret ?_
      repeat (first | refine r_then ?_ | refine r_blk ?_)
      exact q_ret (v := .bool _) rfl rfl ⟨_, rfl, rfl, H.under⟩
end Go.Proofs.YtejaohlijaodjaaDoor

namespace Go.Proofs.YtejaohlijaodjaaDoor
open Go Go.RowKit

theorem messagePuts_any {S : Nat → Prop} {cs : List Value} {m : DMessage} (w : World) (hG : Gat w 0 formsC) (h0 : RMessage w S cs m) :
    Calls Tryd.prog 13 #[.agg cs.toArray] w (fun e w' => e = .returned (.bool true) ∧ Below w.heap.size w w') := by
  obtain ⟨rfl, hm⟩ := msg_of h0
  exact of_is (messagePuts w hG hm)
theorem messageGets_any {S : Nat → Prop} {v : Value} {b : List UInt8} (w : World) (hG : Gat w 0 formsC) (h0 : RB w S [v] b) :
    Calls Tryd.prog 14 #[v] w (fun e w' => e = .returned (.bool true) ∧ Below w.heap.size w w') := by
  rcases Nat.lt_or_ge 4096 b.length with h | h
  · exact of_is (messageGetsA w hG (rb_bs h0) h)
  · exact of_is (messageGetsB w hG (rb_bs h0) h)
theorem messageBack_any {S S1 : Nat → Prop} {cs : List Value} {m : DMessage} {v : Value} {b : List UInt8} (w : World) (hG : Gat w 0 formsC) (h0 : RMessage w S cs m) (h1 : RB w S1 [v] b) :
    Calls Tryd.prog 15 #[.agg cs.toArray, v] w (fun e w' => e = .returned (.bool true) ∧ Below w.heap.size w w') := by
  obtain ⟨rfl, hm⟩ := msg_of h0
  rcases Nat.lt_or_ge 4096 b.length with h | h
  · exact of_is (messageBackA w hG (rb_bs h1) hm h)
  · exact of_is (messageBackB w hG (rb_bs h1) hm h)
theorem messageCut_any {S S1 S2 : Nat → Prop} {cs : List Value} {m : DMessage} {n x : Int} {v : Value} {b : List UInt8} (w : World) (hG : Gat w 0 formsC) (h0 : RMessage w S cs m) (_ : RI w S1 [.int .i64 n] x) (h2 : RB w S2 [v] b) :
    Calls Tryd.prog 16 #[.agg cs.toArray, .int .i64 n, v] w (fun e w' => e = .returned (.bool true) ∧ Below w.heap.size w w') := by
  obtain ⟨rfl, hm⟩ := msg_of h0
  exact of_is (messageCut w hG (rb_bs h2) hm)
end Go.Proofs.YtejaohlijaodjaaDoor
