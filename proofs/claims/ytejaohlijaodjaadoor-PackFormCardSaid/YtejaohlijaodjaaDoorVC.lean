/- Regions that draw their order: reads as early as may be, one effect at a time. No program stands in this text. -/
import Derived.Test.YtejaohlijaodjaaDoorVX
import Derived.OrdersHeld
namespace Go.Proofs.YtejaohlijaodjaaDoor
open Go Go.RowKit

/-- The order: true: a read, which may come first; false: an effect, alone in its turn. -/
def canB (md : Region.Mode) (ops : Array Oper) : List (Nat × Bool) → Array Bool → Bool
  | [], listed => (Region.ready md ops listed).isEmpty
  | (i, r) :: rest, listed => (bif r then (Region.ready md ops listed).contains i && Region.free md ops listed i else Region.ready md ops listed == [i]) && canB md ops rest (listed.setIfInBounds i true)
def wpC (P : Program) (ops : Array Oper) (S : World → Prop) (Q : Exit → Act → World → Prop) : List (Nat × Bool) → Act → World → Prop
  | [], a, w => Q .normal a w
  | (i, true) :: l, a, w => ∃ o v, ops[i]? = some o ∧ YieldsIf P ops S o v a ∧ wpC P ops S Q l (a.put o.dst v) w
  | (i, false) :: l, a, w => wpOp P ops Q i (fun a' w' => S w' ∧ wpC P ops S Q l a' w') a w
/-- Q, and no panic. -/
def NoPan (Q : Exit → Act → World → Prop) (e : Exit) (a : Act) (w : World) : Prop := (∀ c, e ≠ .panic c) ∧ Q e a w
section
variable {P : Program} {ops : Array Oper} {Q : Exit → Act → World → Prop} {md : Region.Mode} {S : World → Prop}
theorem wpC_sound (hsel : Region.noSelect ops = true) (hQ : ∀ c a d v w, Q (.panic c) (Act.put a d v) w → Q (.panic c) a w) : ∀ (l : List (Nat × Bool)) (listed : Array Bool) (a : Act) (w : World),
    canB md ops l listed = true → S w → wpC P ops S Q l a w → wpAnyH P md ops Q S l.length listed a w
  | [], listed, a, w, hB, _, h => wpAnyH_done (by simpa [canB] using hB) h 0
  | (i, true) :: l, listed, a, w, hB, hS, h => by
    obtain ⟨o, v, hi, hy, h⟩ := h
    simp only [canB, cond_true, Bool.and_eq_true] at hB
    exact wpAnyH_take hi hsel hB.1.2 hB.1.1 (fun c a w => hQ c a o.dst v w) hy hS (wpC_sound hsel hQ l _ _ _ hB.2 hS h)
  | (i, false) :: l, listed, a, w, hB, hS, h => by
    simp only [canB, cond_false, Bool.and_eq_true, beq_iff_eq] at hB
    refine wpAnyH_all (rs := [i]) hB.1 (by simp) (fun j hj => ?_)
    obtain rfl : j = i := by simpa using hj
    exact wpOp_mono (fun a' w' h' => ⟨h'.1, wpC_sound hsel hQ l _ _ _ hB.2 h'.1 h'.2⟩) h
end
section
variable {P : Program} {Q : Exit → Act → World → Prop} {cs : List Code} {n : Nat} {ρ : Nat → Value} {ds : List Deferred} {w w0 : World} {T : Nat → Prop} {L : List Fact}
/-- The region; Lc: the facts that none of it turns. -/
theorem k_draw {id : Nat} {l : List Oper} (order : List (Nat × Bool)) (Lc : List Fact) (hm : P.follows .mixedOrders = true) (hB : (Region.noSelect l.toArray && (order.length == l.length) && canB .any l.toArray order (Array.replicate l.toArray.size false)) = true) (H : St T w0 w L) (hs : Lc.Sublist L)
    (k : ∀ W, St T w0 W L → wpC P l.toArray (fun W => St T w0 W Lc) (NoPan (Exit.then (wpK P Q cs) Q)) order (st n ρ ds) W) : wpK P Q (.region id l.toArray true :: cs) (st n ρ ds) w := by
  simp only [Bool.and_eq_true, beq_iff_eq] at hB
  obtain ⟨⟨h1, h2⟩, h3⟩ := hB
  have hN : (Code.region id l.toArray true).wp P (NoPan (Exit.then (wpK P Q cs) Q)) (st n ρ ds) w := by
    refine wp_region_held (S := fun W => St T w0 W Lc) hm ?_
    have := wpC_sound (P := P) (md := .any) (S := fun W => St T w0 W Lc) (Q := NoPan (Exit.then (wpK P Q cs) Q)) h1 (fun c a d v w h => absurd rfl (h.1 c)) order (Array.replicate l.toArray.size false) (st n ρ ds) w.drew h3 (H.drew.sub hs) (k _ H.drew)
    rw [h2] at this
    simpa using this
  exact Code.wp_mono (fun _ _ _ h => h.2) hN
end
section
variable {P : Program} {ops : Array Oper} {S : World → Prop} {Q : Exit → Act → World → Prop} {n : Nat} {ρ : Nat → Value} {ds : List Deferred} {W : World} {l : List (Nat × Bool)} {i : Nat} {o : Oper} {d : Tmp} {v : Value} {next : Act → World → Prop} {a : Act}
theorem c_nil (h : next a W) : wpC P ops S (NoPan (Exit.then next Q)) [] a W := ⟨fun _ h => (by cases h), h⟩
theorem c_run (hi : ops[i]? = some o) (hw : Region.wanted o (yielded ops (st n ρ ds).tmps) = true) (hd : o.dst = some d) (h : ∀ W, S W → Runs P n ρ o W v W) (k : wpC P ops S Q l (st n (upd ρ d v) ds) W) : wpC P ops S Q ((i, true) :: l) (st n ρ ds) W :=
  ⟨o, v, hi, .inl ⟨hw, fun W hS => by rw [st_eval]; exact h W hS⟩, by rw [hd, st_put]; exact k⟩
theorem c_skip (hi : ops[i]? = some o) (hw : Region.wanted o (yielded ops (st n ρ ds).tmps) = false) (hd : o.dst = some d) (k : wpC P ops S Q l (st n (upd ρ d undef) ds) W) : wpC P ops S Q ((i, true) :: l) (st n ρ ds) W :=
  ⟨o, undef, hi, .inr ⟨hw, rfl⟩, by rw [hd, st_put]; exact k⟩
theorem c_eff (hi : ops[i]? = some o) (h : Step P ops Q o a W (fun a' w' => S w' ∧ wpC P ops S Q l a' w')) : wpC P ops S Q ((i, false) :: l) a W := by
  unfold wpC wpOp
  simp only [hi]
  rw [if_pos h.1]
  exact .inl h.2
/-- An effect that is not wanted. -/
theorem c_no (hi : ops[i]? = some o) (hw : Region.wanted o (yielded ops (st n ρ ds).tmps) = false) (hd : o.dst = some d) (hS : S W) (k : wpC P ops S Q l (st n (upd ρ d undef) ds) W) : wpC P ops S Q ((i, false) :: l) (st n ρ ds) W := by
  unfold wpC wpOp
  simp only [hi]
  rw [if_neg (by simp [hw]), hd, st_put]
  exact ⟨hS, k⟩
end
end Go.Proofs.YtejaohlijaodjaaDoor
