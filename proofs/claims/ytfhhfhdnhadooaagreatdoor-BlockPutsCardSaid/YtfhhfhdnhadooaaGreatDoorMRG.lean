/- Texts of this claim, laid together: K55, K56. -/
import Derived.Test.YtfhhfhdnhadooaaGreatDoorMSP
import Derived.Test.YtfhhfhdnhadooaaGreatDoorMR
set_option linter.unusedVariables false
set_option linter.unusedSimpArgs false

namespace Go.Proofs.YtfhhfhdnhadooaaGreatDoor
open Go Go.RowKit
attribute [local irreducible] wpList

end Go.Proofs.YtfhhfhdnhadooaaGreatDoor

namespace Go.Proofs.YtfhhfhdnhadooaaGreatDoor
open Go Go.RowKit
attribute [local irreducible] wpList

/-- What a call of the reference's Get leaves. -/
def GotR (w : World) (b : List UInt8) (v : Value) (w' : World) : Prop := ∃ S A c B d, v = .tuple #[.agg (txC A (Tx.get b).1.ins.length c B (Tx.get b).1.outs.length d (Tx.get b).1.lock).toArray, .int .i64 (Tx.get b).2] ∧ St nT w w' [Fact.rep RTx S (txC A (Tx.get b).1.ins.length c B (Tx.get b).1.outs.length d (Tx.get b).1.lock) (Tx.get b).1]
end Go.Proofs.YtfhhfhdnhadooaaGreatDoor
