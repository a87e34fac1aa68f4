/- Texts of this claim, laid together: Fin6, F20. -/
import Derived.Test.YtobcihaameofhaaDoorML
import Derived.Test.YtobcihaameofhaaDoorMF
import Derived.Test.YtobcihaameofhaaDoorMBR
set_option linter.unusedVariables false
set_option linter.unusedSimpArgs false

namespace Go.Proofs.YtobcihaameofhaaDoor
open Go Go.RowKit

theorem of_isT {P : Program} {f : FuncId} {l : List Value} {w : World} (h : Calls P f l.toArray w (Ret (Is w (.bool true)))) : Calls P f l.toArray w (fun e w' => e = .returned (.bool true) ∧ Below w.heap.size w w') :=
  Calls.mono h (fun e w' h => by
    obtain ⟨v, rfl, rfl, hb⟩ := h
    exact ⟨rfl, hb⟩)
end Go.Proofs.YtobcihaameofhaaDoor

namespace Go.Proofs.YtobcihaameofhaaDoor
open Go Go.RowKit

theorem blockRoots_any {S S1 : Nat → Prop} {n x : Int} {cs : List Value} {h : DHeader} (w : World) (hG : Gat w 0 formsC ∧ Old.Gl w) (_ : RI w S [.int .i64 n] x) (h1 : RHeader w S1 cs h) :
    Calls Tryd.prog 4 #[.int .i64 n, .agg cs.toArray] w (fun e w' => e = .returned (.bool true) ∧ Below w.heap.size w w') := by
  obtain ⟨rfl, hh⟩ := hdr_of h1
  exact of_isT (blockRootsB w hG.1 hG.2 hh)
end Go.Proofs.YtobcihaameofhaaDoor
