/- Texts of this claim, laid together: K95. -/
import Derived.Test.YtobcihaameofhaaDoorMBG
set_option linter.unusedVariables false
set_option linter.unusedSimpArgs false

namespace Go.Proofs.YtobcihaameofhaaDoor
open Go Go.RowKit
attribute [local irreducible] wpList

theorem pick_ltB {v : Int} {n : Nat} (hn : 0 < n) : ∃ k : Nat, pick v (n : Int) = (k : Int) ∧ k < n := by
  have h : 0 ≤ pick v (n : Int) ∧ pick v (n : Int) < n := by
    unfold pick
    rw [if_neg (by omega)]
    exact ⟨Int.emod_nonneg _ (by omega), Int.emod_lt_of_pos _ (by omega)⟩
  exact ⟨(pick v (n : Int)).toNat, by omega, by omega⟩
end Go.Proofs.YtobcihaameofhaaDoor
