import Derived.Test.YtfhhfhdnhadooaaGreatDoorMBT
set_option linter.unusedVariables false
set_option linter.unusedSimpArgs false

namespace Go.Proofs.YtfhhfhdnhadooaaGreatDoor
open Go Go.RowKit

theorem blockKnown_any (w:World) (hG:Gat w 0 formsC∧Old.Gl w) :
  Calls Tryz.prog 3 #[] w (fun e w'=>e=.returned (.bool true)∧Below w.heap.size w w'):=Calls.mono (blockKnown w hG.1 hG.2) (fun e w' h=>by
  obtain ⟨v,rfl,rfl,hb⟩:=h
  exact ⟨rfl,hb⟩)
end Go.Proofs.YtfhhfhdnhadooaaGreatDoor
