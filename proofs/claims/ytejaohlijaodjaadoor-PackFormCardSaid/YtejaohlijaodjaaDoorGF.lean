/- The package variable pack.forms, out of what a row lists. -/
import Derived.Test.YtejaohlijaodjaaDoorK2
import Derived.Test.YtejaohlijaodjaaDoorRows
import Derived.Lib.LaidTab
import Derived.OpenShut
import Derived.Deep.Strs
namespace Go.Proofs.YtejaohlijaodjaaDoor
open Go Go.RowKit Go.WideShapes Go.ChangeShapes Go.Deep

theorem g_forms : Tryd.prog.globalNamed "mangrove/pack.forms" = some 0 := by kernel_rfl
theorem gt_forms : (Tryd.prog.globals[0]?).map (·.type) = some 92 := by kernel_rfl
theorem cf5 : Tryd.prog.cellsOf 5 = 1 := by kernel_rfl
theorem cf3 : Tryd.prog.cellsOf 3 = 1 := by kernel_rfl
theorem cf22 : Tryd.prog.cellsOf 22 = 1 := by kernel_rfl
theorem cf91 : Tryd.prog.cellsOf 91 = 3 := by kernel_rfl
theorem cf92 : Tryd.prog.cellsOf 92 = 9 := by kernel_rfl
theorem form_cells {H : Type} {enc : TypeId × Value → H} {W : World} {sp : Nat → Bool} {hd : Bool} {m : Nat} {c : List Value} {x : DataW H × List MemPlace} (h : DataW.trod enc Tryd.prog W 0 sp hd m 91 c = some x) {a b d : Int} (hx : x.1 = .agg [.lit (.int .u8 a), .lit (.int .i64 b), .lit (.int .u64 d)]) :
    (c.drop 0).take 1 = [.int .u8 a] ∧ (c.drop 1).take 1 = [.int .i64 b] ∧ (c.drop 2).take 1 = [.int .u64 d] := by
  obtain ⟨y0, y1, y2, n, rfl, _, h0, h1, h2⟩ := trod_struct3 Tryd.underlying91 h
  simp only [DataW.agg.injEq, List.cons.injEq, and_true] at hx
  obtain ⟨e0, e1, e2⟩ := hx
  dsimp only at h0 h1 h2
  rw [cf5] at h0
  rw [cf3] at h1
  rw [cf22] at h2
  obtain ⟨z0, g0, rfl, _⟩ := DataW.trod_int Tryd.underlying5 h0
  obtain ⟨z1, g1, rfl, _⟩ := DataW.trod_int Tryd.underlying3 h1
  obtain ⟨z2, g2, rfl, _⟩ := DataW.trod_int Tryd.underlying22 h2
  cases e0; cases e1; cases e2
  exact ⟨g0, g1, g2⟩
theorem el3 {l : List Value} {a b : Nat} {v : Value} (h : (((l.drop a).take 3).drop b).take 1 = [v]) (hb : b < 3) : l[a + b]? = some v := by
  have h0 : ((((l.drop a).take 3).drop b).take 1)[0]? = some v := by rw [h]; rfl
  rw [List.getElem?_take_of_lt (by omega), List.getElem?_drop, List.getElem?_take_of_lt (by omega), List.getElem?_drop] at h0
  simpa using h0
theorem gl_forms {W : World} (h : laidMet Tryd.prog [("mangrove/pack.forms", Rows.laid_mangrove_pack_forms)] W) : Gat W 0 formsC := by
  obtain ⟨ps, ⟨g, t, cs, fuel, p, q, hg, ht, hvar, hd, _, _⟩, _⟩ := h
  obtain rfl := Option.some.inj (g_forms.symm.trans hg)
  obtain rfl := Option.some.inj (gt_forms.symm.trans ht)
  obtain ⟨xs, m, _, hx, hlen, hxl, hel⟩ := DataW.trod_array Tryd.underlying92 hd
  have hcell := World.var?_cell g_forms hvar
  match xs, hxl with
  | [x0, x1, x2], _ =>
    have hx1 := congrArg Prod.fst hx
    simp only [Rows.laid_mangrove_pack_forms, List.map_cons, List.map_nil, DataW.agg.injEq, List.cons.injEq, and_true] at hx1
    obtain ⟨e0, e1, e2⟩ := hx1
    have f0 := hel 0 (by omega)
    have f1 := hel 1 (by omega)
    have f2 := hel 2 (by omega)
    simp only [cf91] at f0 f1 f2
    obtain ⟨a0, a1, a2⟩ := form_cells f0 e0.symm
    obtain ⟨b0, b1, b2⟩ := form_cells f1 e1.symm
    obtain ⟨d0, d1, d2⟩ := form_cells f2 e2.symm
    have k0 := el3 a0 (by omega); have k1 := el3 a1 (by omega); have k2 := el3 a2 (by omega)
    have k3 := el3 b0 (by omega); have k4 := el3 b1 (by omega); have k5 := el3 b2 (by omega)
    have k6 := el3 d0 (by omega); have k7 := el3 d1 (by omega); have k8 := el3 d2 (by omega)
    have hg : ∀ j v, formsC[j]? = some v → W.cell? ⟨0, 0 + j, none⟩ = some v := fun j v hv => by
      rw [Nat.zero_add, hcell j, ← Array.getElem?_toList]
      match j, hv with
      | 0, hv => rw [← hv]; exact k0
      | 1, hv => rw [← hv]; exact k1
      | 2, hv => rw [← hv]; exact k2
      | 3, hv => rw [← hv]; exact k3
      | 4, hv => rw [← hv]; exact k4
      | 5, hv => rw [← hv]; exact k5
      | 6, hv => rw [← hv]; exact k6
      | 7, hv => rw [← hv]; exact k7
      | 8, hv => rw [← hv]; exact k8
      | j + 9, hv => simp [formsC] at hv
    exact ⟨block_lt_of_cell (hg 0 _ rfl), hg⟩
end Go.Proofs.YtejaohlijaodjaaDoor
