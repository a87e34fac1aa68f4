/- Texts of this claim, laid together: ORefE. -/
import Derived.Test.YtdalmmkjmfpffaaGreatDoorMO
import Derived.Deep.RegionHeld3
import Derived.Deep.DrawnRows
set_option linter.unusedVariables false
set_option linter.unusedSimpArgs false

namespace Go.Proofs.YtdalmmkjmfpffaaGreatDoor.Old
open Go Go.RowKit
attribute [local go_sem ↓] Go.wp_at_zero Go.wp_at_succ

end Go.Proofs.YtdalmmkjmfpffaaGreatDoor.Old
