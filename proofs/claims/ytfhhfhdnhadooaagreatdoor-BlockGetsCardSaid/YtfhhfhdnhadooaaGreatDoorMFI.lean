/- Texts of this claim, laid together: F23. -/
import Derived.Test.YtfhhfhdnhadooaaGreatDoorMBH
import Derived.Test.YtfhhfhdnhadooaaGreatDoorMFB
set_option linter.unusedVariables false
set_option linter.unusedSimpArgs false

namespace Go.Proofs.YtfhhfhdnhadooaaGreatDoor
open Go Go.RowKit

theorem blockGets_any {S : Nat → Prop} {u : Value} {b : List UInt8} (w : World) (hG : Gat w 0 formsC ∧ Old.Gl w) (h0 : RB w S [u] b) :
    Calls Tryz.prog 5 #[u] w (fun e w' => e = .returned (.bool true) ∧ Below w.heap.size w w') := of_isT (blockGetsB w hG.1 hG.2 (bs_of h0))
end Go.Proofs.YtfhhfhdnhadooaaGreatDoor
