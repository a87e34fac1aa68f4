/- What every row and card of this seat shares. -/
import Derived.Test.YtejaohlijaodjaaDoorCards
import Derived.Test.YtejaohlijaodjaaDoorTie
import Derived.Test.YtejaohlijaodjaaDoorOpC
import Derived.Test.YtejaohlijaodjaaDoorGF
import Derived.Test.YtejaohlijaodjaaDoorStay
import Derived.ProofKit
import Derived.OpenShut
import Derived.Deep.DeepHandedRow
namespace Go.Proofs.YtejaohlijaodjaaDoor
open Go Go.RowKit Go.WideShapes Go.ChangeShapes Go.ChangeAt

theorem own : ownKnob Tryd.prog.godebug = none := by kernel_rfl
theorem okWide_array {P : Program} {w : World} {r : Reach} {base : Nat} {t e : TypeId} {n : Nat} {v : Value} (ht : P.underlying t = some (.array n e)) (h : Value.okWide P w r base t v) : ∃ cs, v = .agg cs := by
  simp only [Value.okWide, ht] at h
  obtain ⟨cs, h1, _⟩ := h
  exact ⟨cs, h1⟩
theorem arr_list (cs : Array Value) : ∃ l : List Value, cs = l.toArray := ⟨cs.toList, by simp⟩
theorem laid_cons {P : Program} {x : String × DataW Unit} {L : List (String × DataW Unit)} {W : World} (h : laidMet P (x :: L) W) : laidMet P [x] W ∧ laidMet P L W := by
  obtain ⟨n, d⟩ := x
  obtain ⟨ps, ⟨g, t, cs, fuel, p, q, h1, h2, h3, h4, h5, rfl⟩, hnd, hc⟩ := h
  have hn := List.nodup_append.1 hnd
  refine ⟨⟨MemPlace.row ⟨g, 0, none⟩ cs.size ++ p ++ [], ⟨g, t, cs, fuel, p, [], h1, h2, h3, h4, rfl, rfl⟩, by rw [List.append_nil]; exact hn.1, fun b off hb => hc b off ?_⟩, ⟨q, h5, hn.2.1, fun b off hb => hc b off ?_⟩⟩
  · rw [List.append_nil] at hb
    exact List.mem_append.2 (.inl hb)
  · exact List.mem_append.2 (.inr hb)
/-- A block whose cells are these. -/
def putCells (cs : Array Value) : Obj → Obj
  | .cells _ t frozen => .cells cs t frozen
  | o => o
/-- A world for the witness: the settled one, the listed variables holding what their initialisers lay. -/
noncomputable def laidWorld (os : Os) : World :=
  let w := World.holding Tryd.prog os ⟨#[], #[], []⟩
  let h := w.heap.modify 0 (putCells formsC.toArray)
  { w with heap := h }
end Go.Proofs.YtejaohlijaodjaaDoor
