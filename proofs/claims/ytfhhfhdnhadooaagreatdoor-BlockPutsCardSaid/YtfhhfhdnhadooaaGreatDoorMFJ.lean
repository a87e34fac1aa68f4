/- Texts of this claim, laid together: F24. -/
import Derived.Test.YtfhhfhdnhadooaaGreatDoorMBQ
import Derived.Test.YtfhhfhdnhadooaaGreatDoorMFB
set_option linter.unusedVariables false
set_option linter.unusedSimpArgs false

namespace Go.Proofs.YtfhhfhdnhadooaaGreatDoor
open Go Go.RowKit

theorem blockPuts_any {S : Nat → Prop} {cs : List Value} {b : DBlock} (w : World) (hG : Gat w 0 formsC ∧ Old.Gl w) (hz : ∀ t ∈ b.txs, Tx.Szd t) (h0 : RBlock w S cs b) :
    Calls Tryz.prog 4 #[.agg cs.toArray] w (fun e w' => e = .returned (.bool true) ∧ Below w.heap.size w w') := by
  obtain ⟨A, c, rfl, hl, hh⟩ := blk_of h0
  exact of_isT (blockPutsB w hl hh hG.1 hG.2 hz)
end Go.Proofs.YtfhhfhdnhadooaaGreatDoor
