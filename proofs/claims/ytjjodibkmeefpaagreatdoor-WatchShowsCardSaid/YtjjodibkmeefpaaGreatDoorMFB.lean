import Derived.Test.YtjjodibkmeefpaaGreatDoorML
import Derived.Test.YtjjodibkmeefpaaGreatDoorMF
set_option linter.unusedVariables false
set_option linter.unusedSimpArgs false

namespace Go.Proofs.YtjjodibkmeefpaaGreatDoor
open Go Go.RowKit

theorem of_isT {P:Program} {f:FuncId} {l:List Value} {w:World} (h:Calls P f l.toArray w (Ret (Is w (.bool true)))):Calls P f l.toArray w (fun e w'=>e=.returned (.bool true)∧Below w.heap.size w w') :=
 Calls.mono h (fun e w' h=>by
  obtain ⟨v,rfl,rfl,hb⟩:=h
  exact ⟨rfl,hb⟩)
end Go.Proofs.YtjjodibkmeefpaaGreatDoor
