/- Texts of this claim, laid together: Fin6. -/
import Derived.Test.YtfhhfhdnhadooaaGreatDoorML
import Derived.Test.YtfhhfhdnhadooaaGreatDoorMF
set_option linter.unusedVariables false
set_option linter.unusedSimpArgs false

namespace Go.Proofs.YtfhhfhdnhadooaaGreatDoor
open Go Go.RowKit

theorem of_isT {P : Program} {f : FuncId} {l : List Value} {w : World} (h : Calls P f l.toArray w (Ret (Is w (.bool true)))) : Calls P f l.toArray w (fun e w' => e = .returned (.bool true) ∧ Below w.heap.size w w') :=
  Calls.mono h (fun e w' h => by
    obtain ⟨v, rfl, rfl, hb⟩ := h
    exact ⟨rfl, hb⟩)
theorem bs_of {S : Nat → Prop} {v : Value} {b : List UInt8} {w : World} (h : RB w S [v] b) : Bs w S v b := by
  obtain ⟨u, h1, h2⟩ := h
  cases h1
  exact h2
end Go.Proofs.YtfhhfhdnhadooaaGreatDoor
