import Derived.Test.YtjjodibkmeefpaaGreatDoorMWK
set_option linter.unusedVariables false
set_option linter.unusedSimpArgs false

namespace Go.Proofs.YtjjodibkmeefpaaGreatDoor
open Go Go.RowKit

theorem watchKnown_any (w:World) (hG:Gat w 2 formsC∧Old.Gl w) :
  Calls Tryz.prog 4 #[] w (fun e w'=>e=.returned (.bool true)∧Below w.heap.size w w'):=Calls.mono (watchKnownB w hG.1 hG.2) (fun e w' h=>by
  obtain ⟨v,rfl,rfl,hb⟩:=h
  exact ⟨rfl,hb⟩)
end Go.Proofs.YtjjodibkmeefpaaGreatDoor
