/- Texts of this claim, laid together: SizedBlk. -/
import Derived.Test.YtobcihaameofhaaDoorMW
import Derived.Test.YtobcihaameofhaaDoorMBL
set_option linter.unusedVariables false
set_option linter.unusedSimpArgs false

namespace Go.Proofs.YtobcihaameofhaaDoor
open Go Go.RowKit Go.WideShapes Go.ChangeShapes Go.Deep

theorem sizes_Txs : Sizes Tryd.prog 26 (RL 3 RTx) (fun l => ∀ t ∈ l, Tx.Szd t) := sizes_L Tryd.underlying26 ce44 sizes_Tx
end Go.Proofs.YtobcihaameofhaaDoor
