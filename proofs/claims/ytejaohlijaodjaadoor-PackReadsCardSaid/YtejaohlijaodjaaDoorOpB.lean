/- Arguments, opened: bytes. -/
import Derived.Test.YtejaohlijaodjaaDoorBase
import Derived.Test.YtejaohlijaodjaaDoorProg
import Derived.KernelRfl
import Derived.Test.YtejaohlijaodjaaDoorStay
import Derived.ChangeSlices
namespace Go.Proofs.YtejaohlijaodjaaDoor
open Go Go.RowKit Go.WideShapes Go.ChangeShapes

theorem cells_u8 : Tryd.prog.cellsOf 5 = 1 := by kernel_rfl

/-- A []byte that came in. -/
theorem open_b {H : Type} {enc : TypeId × Value → H} {W : World} {sp : Nat → Bool} {hd : Bool} {fuel : Nat} {v : Value} {x : DataW H × List MemPlace} (h : DataW.trod enc Tryd.prog W 0 sp hd fuel 23 [v] = some x) :
    ∃ l : List UInt8, Bs W (fun _ => True) v l := by
  rcases open_ints Tryd.underlying23 Tryd.underlying5 cells_u8 h with ⟨hcs, _⟩ | ⟨a, len, cap, zs, hcs, _, hl, hm, hz, _, hcell, hwz⟩
  · obtain rfl : v = .slice none 0 0 := by simpa using hcs
    exact ⟨[], Bs.nil⟩
  · obtain rfl : v = .slice (some a) len cap := by simpa using hcs
    have hlen : len ≤ zs.length := by rw [hz]; split <;> omega
    have hby : ∀ z ∈ zs, ((UInt8.ofNat z.toNat).toNat : Int) = z := fun z hz => by
      have := hwz z hz
      have h1 : IntKind.u8.min ≤ z ∧ z ≤ IntKind.u8.max := by simpa [Lit.wf] using this
      have h2 : IntKind.u8.min = 0 := by decide
      have h3 : IntKind.u8.max = 255 := by decide
      rw [h2, h3] at h1
      simp
      omega
    refine ⟨(zs.take len).map fun z => UInt8.ofNat z.toNat, some a, cap, by simp; omega, by simp; omega, hm, by simp, fun hn => ?_⟩
    have hn' : 0 < len := by simp at hn; omega
    obtain ⟨g, o, s⟩ := a
    have h0 := hcell 0 (by omega)
    have hs : s = none := by
      cases s with
      | none => rfl
      | some k => simp [Addr.add, World.cell?] at h0; split at h0 <;> simp at h0
    subst hs
    refine ⟨g, o, rfl, ⟨by have := block_lt_of_cell h0; simpa [Addr.add] using this, trivial⟩, fun j u hu => ?_⟩
    have hj : j < len := by
      have := (List.getElem?_eq_some_iff.1 hu).1
      simp at this
      omega
    have hc := hcell j (by omega)
    have hadd : (⟨g, o, none⟩ : Addr).add j = ⟨g, o + j, none⟩ := by unfold Addr.add; split <;> simp_all
    rw [hadd] at hc
    rw [hc]
    have hjz : j < zs.length := by omega
    have hb := hby zs[j] (List.getElem_mem _)
    have hu2 : u = .int .u8 (((UInt8.ofNat zs[j].toNat).toNat : Nat) : Int) := by
      rw [List.getElem?_map, List.getElem?_map, List.getElem?_take_of_lt hj, List.getElem?_eq_getElem hjz] at hu
      exact (Option.some.inj hu).symm
    rw [hu2, hb, List.getD_eq_getElem?_getD, List.getElem?_eq_getElem hjz]
    rfl
end Go.Proofs.YtejaohlijaodjaaDoor
