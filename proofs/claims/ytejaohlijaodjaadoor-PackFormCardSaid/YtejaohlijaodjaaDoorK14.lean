/- The walks of chapter 3, as the cards take them. -/
import Derived.Test.YtejaohlijaodjaaDoorK13
namespace Go.Proofs.YtejaohlijaodjaaDoor
open Go Go.RowKit

theorem of_is {P : Program} {f : FuncId} {args : Array Value} {w : World} {v : Value} (h : Calls P f args w (Ret (Is w v))) : Calls P f args w (fun e w' => e = .returned v ∧ Below w.heap.size w w') :=
  Calls.mono h (fun e w' h => by obtain ⟨x, h1, h2, h3⟩ := h; subst h2; exact ⟨h1, h3⟩)
theorem packReads_any {S SL : Nat → Prop} {v : Value} {b : List UInt8} {AL : Option Addr} {m cL : Nat} {l : List (Int × Int)} (w : World) (hG : Gat w 0 formsC) (hb : Bs w S v b) (hl2 : Rd w SL 2 AL m (askC l)) :
    Calls Tryd.prog 5 #[v, .slice AL m cL] w (fun e w' => e = .returned (.bool true) ∧ Below w.heap.size w w') := by
  rcases Nat.lt_or_ge 4096 b.length with h | h
  · exact of_is (packReadsA w hG hb hl2 h)
  · exact of_is (packReadsB w hG hb hl2 h)
end Go.Proofs.YtejaohlijaodjaaDoor
