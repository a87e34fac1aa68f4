/- Texts of this claim, laid together: K87. -/
import Derived.Test.YtobcihaameofhaaDoorMBK
set_option linter.unusedVariables false
set_option linter.unusedSimpArgs false

namespace Go.Proofs.YtobcihaameofhaaDoor
open Go Go.RowKit
attribute [local irreducible] wpList

/-- The first of the statements' transactions. -/
def nths (n : Nat) : List DTx := (List.range n).map (fun k : Nat => nthT (k : Int))
def upk (r : List H32) (k : Nat) : List H32 := (List.range k).map (upH r)
theorem rootP' {S : Nat → Prop} {A : Option Addr} {c n : Nat} {l : List DTx} (w : World) (hnl : l.length = n) (hl : RL 3 RTx w S [.slice A l.length c] l) (hG : Gat w 0 formsC) (hB : Old.Gl w) (hn : l.length ≤ 1000000) : Calls Tryd.prog 17 [.slice A n c].toArray w (Ret (Is w (.agg ((rootB l).map u8v).toArray))) := by
  subst hnl
  exact rootP w hl hG hB hn

end Go.Proofs.YtobcihaameofhaaDoor
