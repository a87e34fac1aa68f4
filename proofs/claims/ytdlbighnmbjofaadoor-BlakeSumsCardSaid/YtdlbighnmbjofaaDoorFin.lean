/- What every row and card of this seat shares. -/
import Derived.Test.YtdlbighnmbjofaaDoorCards
import Derived.Test.YtdlbighnmbjofaaDoorTie
import Derived.Test.YtdlbighnmbjofaaDoorOpen
import Derived.Test.YtdlbighnmbjofaaDoorGlob
import Derived.ProofKit
import Derived.OpenShut
import Derived.Deep.DeepHandedRow
namespace Go.Proofs.YtdlbighnmbjofaaDoor
open Go Go.RowKit Go.WideShapes Go.ChangeShapes Go.ChangeAt

theorem own : ownKnob Tryd.prog.godebug = none := by kernel_rfl

/-- Bytes that came in as an argument. -/
theorem arg_b {H : Type} {enc : TypeId × Value → H} {W : World} {base : Nat} {sp : Nat → Bool} {hd : Bool} {v : Value} {d : DataW H} {p : List MemPlace} (hv : Value.okWide Tryd.prog W .any base 22 v) (h : DataW.Trod enc Tryd.prog W 0 sp hd 22 v d p) :
    ∃ l : List UInt8, Bs W (fun _ => True) v l := by
  obtain ⟨a, n, c, rfl⟩ := okWide_slice Tryd.underlying22 hv
  obtain ⟨fuel, hf⟩ := h
  exact open_b hf

/-- A string that came in as an argument. -/
theorem arg_s {H : Type} {enc : TypeId × Value → H} {W : World} {base : Nat} {sp : Nat → Bool} {hd : Bool} {v : Value} {d : DataW H} {p : List MemPlace} (hv : Value.okWide Tryd.prog W .any base 9 v) (_h : DataW.Trod enc Tryd.prog W 0 sp hd 9 v d p) :
    ∃ s : ByteArray, v = .string s ∧ True := by
  obtain ⟨s, rfl⟩ := okWide_string Tryd.underlying9 hv
  exact ⟨s, rfl, trivial⟩

/-- A block whose cells are these. -/
def putCells (cs : Array Value) : Obj → Obj
  | .cells _ t frozen => .cells cs t frozen
  | o => o
/-- A world for the witness: the settled one, the listed variables holding what their initialisers lay. -/
noncomputable def laidWorld (os : Os) : World :=
  let w := World.holding Tryd.prog os ⟨#[], #[], []⟩
  let h1 := w.heap.modify 0 (putCells (beginsZ.map (Value.int .u32)).toArray)
  let h2 := h1.modify 1 (putCells (ordersB.map fun s => Value.string ⟨s.toArray⟩).toArray)
  { w with heap := h2 }
end Go.Proofs.YtdlbighnmbjofaaDoor
