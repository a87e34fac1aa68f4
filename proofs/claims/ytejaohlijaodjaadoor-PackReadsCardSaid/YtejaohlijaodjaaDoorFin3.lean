/- What every row and card of this seat shares. -/
import Derived.Test.YtejaohlijaodjaaDoorCards
import Derived.Test.YtejaohlijaodjaaDoorTie
import Derived.Test.YtejaohlijaodjaaDoorOpB
import Derived.Test.YtejaohlijaodjaaDoorOpA
import Derived.Test.YtejaohlijaodjaaDoorGF
import Derived.ProofKit
import Derived.OpenShut
import Derived.Deep.DeepHandedRow
namespace Go.Proofs.YtejaohlijaodjaaDoor
open Go Go.RowKit Go.WideShapes Go.ChangeShapes Go.ChangeAt

theorem own : ownKnob Tryd.prog.godebug = none := by kernel_rfl

set_option maxRecDepth 100000 in
/-- Bytes that came in as an argument. -/
theorem arg_b {H : Type} {enc : TypeId × Value → H} {W : World} {base : Nat} {sp : Nat → Bool} {hd : Bool} {v : Value} {d : DataW H} {p : List MemPlace} (hv : Value.okWide Tryd.prog W .any base 23 v) (h : DataW.Trod enc Tryd.prog W 0 sp hd 23 v d p) :
    ∃ l : List UInt8, Bs W (fun _ => True) v l := by
  obtain ⟨a, n, c, rfl⟩ := okWide_slice Tryd.underlying23 hv
  obtain ⟨fuel, hf⟩ := h
  exact open_b hf

set_option maxRecDepth 100000 in
/-- A string that came in as an argument. -/
theorem arg_s {H : Type} {enc : TypeId × Value → H} {W : World} {base : Nat} {sp : Nat → Bool} {hd : Bool} {v : Value} {d : DataW H} {p : List MemPlace} (hv : Value.okWide Tryd.prog W .any base 9 v) (_h : DataW.Trod enc Tryd.prog W 0 sp hd 9 v d p) :
    ∃ s : ByteArray, v = .string s ∧ True := by
  obtain ⟨s, rfl⟩ := okWide_string Tryd.underlying9 hv
  exact ⟨s, rfl, trivial⟩

/-- A block whose cells are these. -/
def putCells (cs : Array Value) : Obj → Obj
  | .cells _ t frozen => .cells cs t frozen
  | o => o
/-- A world for the witness: the settled one, the listed variables holding what their initialisers lay. -/
noncomputable def laidWorld (os : Os) : World :=
  let w := World.holding Tryd.prog os ⟨#[], #[], []⟩
  { w with heap := w.heap.modify 0 (putCells formsC.toArray) }
set_option maxRecDepth 100000 in
/-- What is asked, that came in as an argument. -/
theorem arg_ask {H : Type} {enc : TypeId × Value → H} {W : World} {base : Nat} {sp : Nat → Bool} {hd : Bool} {v : Value} {d : DataW H} {p : List MemPlace} (hv : Value.okWide Tryd.prog W .any base 48 v) (h : DataW.Trod enc Tryd.prog W 0 sp hd 48 v d p) :
    ∃ (AL : Option Addr) (m cL : Nat) (l : List (Int × Int)), v = .slice AL m cL ∧ Rd W (fun _ => True) 2 AL m (askC l) := by
  obtain ⟨a, n, c, rfl⟩ := okWide_slice Tryd.underlying48 hv
  obtain ⟨fuel, hf⟩ := h
  exact open_ask hf
end Go.Proofs.YtejaohlijaodjaaDoor
