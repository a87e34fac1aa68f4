/- Arguments, opened: structs. -/
import Derived.Test.YtejaohlijaodjaaDoorVY
import Derived.Test.YtejaohlijaodjaaDoorTy
import Derived.Test.YtejaohlijaodjaaDoorProg
import Derived.KernelRfl
namespace Go.Proofs.YtejaohlijaodjaaDoor
open Go Go.RowKit
attribute [local irreducible] wpList
theorem ce3 : Tryd.prog.cellsOf 3 = 1 := by kernel_rfl
theorem ce5 : Tryd.prog.cellsOf 5 = 1 := by kernel_rfl
theorem ce23 : Tryd.prog.cellsOf 23 = 1 := by kernel_rfl
theorem ce36 : Tryd.prog.cellsOf 36 = 32 := by kernel_rfl
theorem ce38 : Tryd.prog.cellsOf 38 = 16 := by kernel_rfl
theorem ce40 : Tryd.prog.cellsOf 40 = 51 := by kernel_rfl
theorem ce53 : Tryd.prog.cellsOf 53 = 2 := by kernel_rfl
theorem ce76 : Tryd.prog.cellsOf 76 = 3 := by kernel_rfl
theorem ce78 : Tryd.prog.cellsOf 78 = 41 := by kernel_rfl
structure DThing where
  kind : Int
  n : Int
  b : List UInt8
  h : List UInt8
  t : List UInt8
def zeroThing : DThing := ⟨0, 0, [], (List.replicate 32 0), (List.replicate 16 0)⟩
def RThing : Rep DThing := fun W S cs x => ∃ c0 c1 c2 c3 c4, cs = c0 ++ (c1 ++ (c2 ++ (c3 ++ (c4)))) ∧ RI W S c0 x.kind ∧ RI W S c1 x.n ∧ RB W S c2 x.b ∧ (RA 32) W S c3 x.h ∧ (RA 16) W S c4 x.t
theorem keeps_Thing : Keeps RThing := fun W W' S cs a h k => by
  obtain ⟨c0, c1, c2, c3, c4, h0, e0, e1, e2, e3, e4⟩ := h
  exact ⟨c0, c1, c2, c3, c4, h0, keeps_I _ _ _ _ _ e0 k, keeps_I _ _ _ _ _ e1 k, keeps_B _ _ _ _ _ e2 k, keeps_A _ _ _ _ _ e3 k, keeps_A _ _ _ _ _ e4 k⟩
set_option maxRecDepth 100000 in
theorem opens_Thing : Opens Tryd.prog 40 RThing := fun H enc W sp hd fuel cs x h => by
  obtain ⟨hl, hf⟩ := open_st Tryd.underlying40 h
  rw [ce40] at hl
  obtain ⟨m0, y0, h0⟩ := hf 0 _ rfl
  replace h0 : DataW.trod enc Tryd.prog W 0 sp hd m0 3 ((cs.drop 0).take (Tryd.prog.cellsOf 3)) = some y0 := h0
  rw [ce3] at h0
  obtain ⟨x0, r0⟩ := (opens_I tu3) _ _ _ _ _ _ _ _ h0
  obtain ⟨m1, y1, h1⟩ := hf 1 _ rfl
  replace h1 : DataW.trod enc Tryd.prog W 0 sp hd m1 3 ((cs.drop 1).take (Tryd.prog.cellsOf 3)) = some y1 := h1
  rw [ce3] at h1
  obtain ⟨x1, r1⟩ := (opens_I tu3) _ _ _ _ _ _ _ _ h1
  obtain ⟨m2, y2, h2⟩ := hf 2 _ rfl
  replace h2 : DataW.trod enc Tryd.prog W 0 sp hd m2 23 ((cs.drop 2).take (Tryd.prog.cellsOf 23)) = some y2 := h2
  rw [ce23] at h2
  obtain ⟨x2, r2⟩ := (opens_B tu23 tu5 ce5) _ _ _ _ _ _ _ _ h2
  obtain ⟨m3, y3, h3⟩ := hf 3 _ rfl
  replace h3 : DataW.trod enc Tryd.prog W 0 sp hd m3 36 ((cs.drop 3).take (Tryd.prog.cellsOf 36)) = some y3 := h3
  rw [ce36] at h3
  obtain ⟨x3, r3⟩ := (opens_A tu36 tu5 ce5 ce36) _ _ _ _ _ _ _ _ h3
  obtain ⟨m4, y4, h4⟩ := hf 4 _ rfl
  replace h4 : DataW.trod enc Tryd.prog W 0 sp hd m4 38 ((cs.drop 35).take (Tryd.prog.cellsOf 38)) = some y4 := h4
  rw [ce38] at h4
  obtain ⟨x4, r4⟩ := (opens_A tu38 tu5 ce5 ce38) _ _ _ _ _ _ _ _ h4
  have e := cuts_all [1, 1, 1, 32, 16] cs 0 (by rw [hl]; rfl)
  simp only [cutsOf, List.append_nil, Nat.zero_add, Nat.reduceAdd, List.drop_zero] at e
  simp only [List.drop_zero] at r0
  exact ⟨⟨x0, x1, x2, x3, x4⟩, _, _, _, _, _, e, r0, r1, r2, r3, r4⟩
theorem lens_Thing : Lens RThing 51 := fun W S cs a h => by
  obtain ⟨c0, c1, c2, c3, c4, h0, e0, e1, e2, e3, e4⟩ := h
  rw [h0]
  simp only [List.length_append, lens_I _ _ _ _ e0, lens_I _ _ _ _ e1, lens_B _ _ _ _ e2, lens_A _ _ _ _ e3, lens_A _ _ _ _ e4]
theorem sub_Thing_0 {c0 c1 c2 c3 c4 : List Value} (h0 : c0.length = 1) : sub (c0 ++ (c1 ++ (c2 ++ (c3 ++ (c4))))) 0 1 = c0 := by
  exact sub_head h0
theorem sub_Thing_1 {c0 c1 c2 c3 c4 : List Value} (h0 : c0.length = 1) (h1 : c1.length = 1) : sub (c0 ++ (c1 ++ (c2 ++ (c3 ++ (c4))))) 1 1 = c1 := by
  refine (sub_skip (k := 0) (m := 1) h0).trans ?_
  exact sub_head h1
theorem sub_Thing_2 {c0 c1 c2 c3 c4 : List Value} (h0 : c0.length = 1) (h1 : c1.length = 1) (h2 : c2.length = 1) : sub (c0 ++ (c1 ++ (c2 ++ (c3 ++ (c4))))) 2 1 = c2 := by
  refine (sub_skip (k := 1) (m := 1) h0).trans ?_
  refine (sub_skip (k := 0) (m := 1) h1).trans ?_
  exact sub_head h2
theorem sub_Thing_3 {c0 c1 c2 c3 c4 : List Value} (h0 : c0.length = 1) (h1 : c1.length = 1) (h2 : c2.length = 1) (h3 : c3.length = 32) : sub (c0 ++ (c1 ++ (c2 ++ (c3 ++ (c4))))) 3 32 = c3 := by
  refine (sub_skip (k := 2) (m := 32) h0).trans ?_
  refine (sub_skip (k := 1) (m := 32) h1).trans ?_
  refine (sub_skip (k := 0) (m := 32) h2).trans ?_
  exact sub_head h3
theorem sub_Thing_4 {c0 c1 c2 c3 c4 : List Value} (h0 : c0.length = 1) (h1 : c1.length = 1) (h2 : c2.length = 1) (h3 : c3.length = 32) (h4 : c4.length = 16) : sub (c0 ++ (c1 ++ (c2 ++ (c3 ++ (c4))))) 35 16 = c4 := by
  refine (sub_skip (k := 34) (m := 16) h0).trans ?_
  refine (sub_skip (k := 33) (m := 16) h1).trans ?_
  refine (sub_skip (k := 32) (m := 16) h2).trans ?_
  refine (sub_skip (k := 0) (m := 16) h3).trans ?_
  exact sub_all h4
structure DAsked where
  kind : Int
  most : Int
def zeroAsked : DAsked := ⟨0, 0⟩
def RAsked : Rep DAsked := fun W S cs x => ∃ c0 c1, cs = c0 ++ (c1) ∧ RI W S c0 x.kind ∧ RI W S c1 x.most
theorem keeps_Asked : Keeps RAsked := fun W W' S cs a h k => by
  obtain ⟨c0, c1, h0, e0, e1⟩ := h
  exact ⟨c0, c1, h0, keeps_I _ _ _ _ _ e0 k, keeps_I _ _ _ _ _ e1 k⟩
set_option maxRecDepth 100000 in
theorem opens_Asked : Opens Tryd.prog 53 RAsked := fun H enc W sp hd fuel cs x h => by
  obtain ⟨hl, hf⟩ := open_st Tryd.underlying53 h
  rw [ce53] at hl
  obtain ⟨m0, y0, h0⟩ := hf 0 _ rfl
  replace h0 : DataW.trod enc Tryd.prog W 0 sp hd m0 3 ((cs.drop 0).take (Tryd.prog.cellsOf 3)) = some y0 := h0
  rw [ce3] at h0
  obtain ⟨x0, r0⟩ := (opens_I tu3) _ _ _ _ _ _ _ _ h0
  obtain ⟨m1, y1, h1⟩ := hf 1 _ rfl
  replace h1 : DataW.trod enc Tryd.prog W 0 sp hd m1 3 ((cs.drop 1).take (Tryd.prog.cellsOf 3)) = some y1 := h1
  rw [ce3] at h1
  obtain ⟨x1, r1⟩ := (opens_I tu3) _ _ _ _ _ _ _ _ h1
  have e := cuts_all [1, 1] cs 0 (by rw [hl]; rfl)
  simp only [cutsOf, List.append_nil, Nat.zero_add, Nat.reduceAdd, List.drop_zero] at e
  simp only [List.drop_zero] at r0
  exact ⟨⟨x0, x1⟩, _, _, e, r0, r1⟩
theorem lens_Asked : Lens RAsked 2 := fun W S cs a h => by
  obtain ⟨c0, c1, h0, e0, e1⟩ := h
  rw [h0]
  simp only [List.length_append, lens_I _ _ _ _ e0, lens_I _ _ _ _ e1]
theorem sub_Asked_0 {c0 c1 : List Value} (h0 : c0.length = 1) : sub (c0 ++ (c1)) 0 1 = c0 := by
  exact sub_head h0
theorem sub_Asked_1 {c0 c1 : List Value} (h0 : c0.length = 1) (h1 : c1.length = 1) : sub (c0 ++ (c1)) 1 1 = c1 := by
  refine (sub_skip (k := 0) (m := 1) h0).trans ?_
  exact sub_all h1
structure DLeg where
  whereA : Int
  amount : Int
  untilA : Int
def zeroLeg : DLeg := ⟨0, 0, 0⟩
def RLeg : Rep DLeg := fun W S cs x => ∃ c0 c1 c2, cs = c0 ++ (c1 ++ (c2)) ∧ RI W S c0 x.whereA ∧ RI W S c1 x.amount ∧ RI W S c2 x.untilA
theorem keeps_Leg : Keeps RLeg := fun W W' S cs a h k => by
  obtain ⟨c0, c1, c2, h0, e0, e1, e2⟩ := h
  exact ⟨c0, c1, c2, h0, keeps_I _ _ _ _ _ e0 k, keeps_I _ _ _ _ _ e1 k, keeps_I _ _ _ _ _ e2 k⟩
set_option maxRecDepth 100000 in
theorem opens_Leg : Opens Tryd.prog 76 RLeg := fun H enc W sp hd fuel cs x h => by
  obtain ⟨hl, hf⟩ := open_st Tryd.underlying76 h
  rw [ce76] at hl
  obtain ⟨m0, y0, h0⟩ := hf 0 _ rfl
  replace h0 : DataW.trod enc Tryd.prog W 0 sp hd m0 3 ((cs.drop 0).take (Tryd.prog.cellsOf 3)) = some y0 := h0
  rw [ce3] at h0
  obtain ⟨x0, r0⟩ := (opens_I tu3) _ _ _ _ _ _ _ _ h0
  obtain ⟨m1, y1, h1⟩ := hf 1 _ rfl
  replace h1 : DataW.trod enc Tryd.prog W 0 sp hd m1 3 ((cs.drop 1).take (Tryd.prog.cellsOf 3)) = some y1 := h1
  rw [ce3] at h1
  obtain ⟨x1, r1⟩ := (opens_I tu3) _ _ _ _ _ _ _ _ h1
  obtain ⟨m2, y2, h2⟩ := hf 2 _ rfl
  replace h2 : DataW.trod enc Tryd.prog W 0 sp hd m2 3 ((cs.drop 2).take (Tryd.prog.cellsOf 3)) = some y2 := h2
  rw [ce3] at h2
  obtain ⟨x2, r2⟩ := (opens_I tu3) _ _ _ _ _ _ _ _ h2
  have e := cuts_all [1, 1, 1] cs 0 (by rw [hl]; rfl)
  simp only [cutsOf, List.append_nil, Nat.zero_add, Nat.reduceAdd, List.drop_zero] at e
  simp only [List.drop_zero] at r0
  exact ⟨⟨x0, x1, x2⟩, _, _, _, e, r0, r1, r2⟩
theorem lens_Leg : Lens RLeg 3 := fun W S cs a h => by
  obtain ⟨c0, c1, c2, h0, e0, e1, e2⟩ := h
  rw [h0]
  simp only [List.length_append, lens_I _ _ _ _ e0, lens_I _ _ _ _ e1, lens_I _ _ _ _ e2]
theorem sub_Leg_0 {c0 c1 c2 : List Value} (h0 : c0.length = 1) : sub (c0 ++ (c1 ++ (c2))) 0 1 = c0 := by
  exact sub_head h0
theorem sub_Leg_1 {c0 c1 c2 : List Value} (h0 : c0.length = 1) (h1 : c1.length = 1) : sub (c0 ++ (c1 ++ (c2))) 1 1 = c1 := by
  refine (sub_skip (k := 0) (m := 1) h0).trans ?_
  exact sub_head h1
theorem sub_Leg_2 {c0 c1 c2 : List Value} (h0 : c0.length = 1) (h1 : c1.length = 1) (h2 : c2.length = 1) : sub (c0 ++ (c1 ++ (c2))) 2 1 = c2 := by
  refine (sub_skip (k := 1) (m := 1) h0).trans ?_
  refine (sub_skip (k := 0) (m := 1) h1).trans ?_
  exact sub_all h2
structure DMessage where
  kind : Int
  id : Int
  code : Int
  pays : DLeg
  gets : DLeg
  hash : List UInt8
def zeroMessage : DMessage := ⟨0, 0, 0, zeroLeg, zeroLeg, (List.replicate 32 0)⟩
def RMessage : Rep DMessage := fun W S cs x => ∃ c0 c1 c2 c3 c4 c5, cs = c0 ++ (c1 ++ (c2 ++ (c3 ++ (c4 ++ (c5))))) ∧ RI W S c0 x.kind ∧ RI W S c1 x.id ∧ RI W S c2 x.code ∧ RLeg W S c3 x.pays ∧ RLeg W S c4 x.gets ∧ (RA 32) W S c5 x.hash
theorem keeps_Message : Keeps RMessage := fun W W' S cs a h k => by
  obtain ⟨c0, c1, c2, c3, c4, c5, h0, e0, e1, e2, e3, e4, e5⟩ := h
  exact ⟨c0, c1, c2, c3, c4, c5, h0, keeps_I _ _ _ _ _ e0 k, keeps_I _ _ _ _ _ e1 k, keeps_I _ _ _ _ _ e2 k, keeps_Leg _ _ _ _ _ e3 k, keeps_Leg _ _ _ _ _ e4 k, keeps_A _ _ _ _ _ e5 k⟩
set_option maxRecDepth 100000 in
theorem opens_Message : Opens Tryd.prog 78 RMessage := fun H enc W sp hd fuel cs x h => by
  obtain ⟨hl, hf⟩ := open_st Tryd.underlying78 h
  rw [ce78] at hl
  obtain ⟨m0, y0, h0⟩ := hf 0 _ rfl
  replace h0 : DataW.trod enc Tryd.prog W 0 sp hd m0 3 ((cs.drop 0).take (Tryd.prog.cellsOf 3)) = some y0 := h0
  rw [ce3] at h0
  obtain ⟨x0, r0⟩ := (opens_I tu3) _ _ _ _ _ _ _ _ h0
  obtain ⟨m1, y1, h1⟩ := hf 1 _ rfl
  replace h1 : DataW.trod enc Tryd.prog W 0 sp hd m1 3 ((cs.drop 1).take (Tryd.prog.cellsOf 3)) = some y1 := h1
  rw [ce3] at h1
  obtain ⟨x1, r1⟩ := (opens_I tu3) _ _ _ _ _ _ _ _ h1
  obtain ⟨m2, y2, h2⟩ := hf 2 _ rfl
  replace h2 : DataW.trod enc Tryd.prog W 0 sp hd m2 3 ((cs.drop 2).take (Tryd.prog.cellsOf 3)) = some y2 := h2
  rw [ce3] at h2
  obtain ⟨x2, r2⟩ := (opens_I tu3) _ _ _ _ _ _ _ _ h2
  obtain ⟨m3, y3, h3⟩ := hf 3 _ rfl
  replace h3 : DataW.trod enc Tryd.prog W 0 sp hd m3 76 ((cs.drop 3).take (Tryd.prog.cellsOf 76)) = some y3 := h3
  rw [ce76] at h3
  obtain ⟨x3, r3⟩ := opens_Leg _ _ _ _ _ _ _ _ h3
  obtain ⟨m4, y4, h4⟩ := hf 4 _ rfl
  replace h4 : DataW.trod enc Tryd.prog W 0 sp hd m4 76 ((cs.drop 6).take (Tryd.prog.cellsOf 76)) = some y4 := h4
  rw [ce76] at h4
  obtain ⟨x4, r4⟩ := opens_Leg _ _ _ _ _ _ _ _ h4
  obtain ⟨m5, y5, h5⟩ := hf 5 _ rfl
  replace h5 : DataW.trod enc Tryd.prog W 0 sp hd m5 36 ((cs.drop 9).take (Tryd.prog.cellsOf 36)) = some y5 := h5
  rw [ce36] at h5
  obtain ⟨x5, r5⟩ := (opens_A tu36 tu5 ce5 ce36) _ _ _ _ _ _ _ _ h5
  have e := cuts_all [1, 1, 1, 3, 3, 32] cs 0 (by rw [hl]; rfl)
  simp only [cutsOf, List.append_nil, Nat.zero_add, Nat.reduceAdd, List.drop_zero] at e
  simp only [List.drop_zero] at r0
  exact ⟨⟨x0, x1, x2, x3, x4, x5⟩, _, _, _, _, _, _, e, r0, r1, r2, r3, r4, r5⟩
theorem lens_Message : Lens RMessage 41 := fun W S cs a h => by
  obtain ⟨c0, c1, c2, c3, c4, c5, h0, e0, e1, e2, e3, e4, e5⟩ := h
  rw [h0]
  simp only [List.length_append, lens_I _ _ _ _ e0, lens_I _ _ _ _ e1, lens_I _ _ _ _ e2, lens_Leg _ _ _ _ e3, lens_Leg _ _ _ _ e4, lens_A _ _ _ _ e5]
theorem sub_Message_0 {c0 c1 c2 c3 c4 c5 : List Value} (h0 : c0.length = 1) : sub (c0 ++ (c1 ++ (c2 ++ (c3 ++ (c4 ++ (c5)))))) 0 1 = c0 := by
  exact sub_head h0
theorem sub_Message_1 {c0 c1 c2 c3 c4 c5 : List Value} (h0 : c0.length = 1) (h1 : c1.length = 1) : sub (c0 ++ (c1 ++ (c2 ++ (c3 ++ (c4 ++ (c5)))))) 1 1 = c1 := by
  refine (sub_skip (k := 0) (m := 1) h0).trans ?_
  exact sub_head h1
theorem sub_Message_2 {c0 c1 c2 c3 c4 c5 : List Value} (h0 : c0.length = 1) (h1 : c1.length = 1) (h2 : c2.length = 1) : sub (c0 ++ (c1 ++ (c2 ++ (c3 ++ (c4 ++ (c5)))))) 2 1 = c2 := by
  refine (sub_skip (k := 1) (m := 1) h0).trans ?_
  refine (sub_skip (k := 0) (m := 1) h1).trans ?_
  exact sub_head h2
theorem sub_Message_3 {c0 c1 c2 c3 c4 c5 : List Value} (h0 : c0.length = 1) (h1 : c1.length = 1) (h2 : c2.length = 1) (h3 : c3.length = 3) : sub (c0 ++ (c1 ++ (c2 ++ (c3 ++ (c4 ++ (c5)))))) 3 3 = c3 := by
  refine (sub_skip (k := 2) (m := 3) h0).trans ?_
  refine (sub_skip (k := 1) (m := 3) h1).trans ?_
  refine (sub_skip (k := 0) (m := 3) h2).trans ?_
  exact sub_head h3
theorem sub_Message_4 {c0 c1 c2 c3 c4 c5 : List Value} (h0 : c0.length = 1) (h1 : c1.length = 1) (h2 : c2.length = 1) (h3 : c3.length = 3) (h4 : c4.length = 3) : sub (c0 ++ (c1 ++ (c2 ++ (c3 ++ (c4 ++ (c5)))))) 6 3 = c4 := by
  refine (sub_skip (k := 5) (m := 3) h0).trans ?_
  refine (sub_skip (k := 4) (m := 3) h1).trans ?_
  refine (sub_skip (k := 3) (m := 3) h2).trans ?_
  refine (sub_skip (k := 0) (m := 3) h3).trans ?_
  exact sub_head h4
theorem sub_Message_5 {c0 c1 c2 c3 c4 c5 : List Value} (h0 : c0.length = 1) (h1 : c1.length = 1) (h2 : c2.length = 1) (h3 : c3.length = 3) (h4 : c4.length = 3) (h5 : c5.length = 32) : sub (c0 ++ (c1 ++ (c2 ++ (c3 ++ (c4 ++ (c5)))))) 9 32 = c5 := by
  refine (sub_skip (k := 8) (m := 32) h0).trans ?_
  refine (sub_skip (k := 7) (m := 32) h1).trans ?_
  refine (sub_skip (k := 6) (m := 32) h2).trans ?_
  refine (sub_skip (k := 3) (m := 32) h3).trans ?_
  refine (sub_skip (k := 0) (m := 32) h4).trans ?_
  exact sub_all h5
end Go.Proofs.YtejaohlijaodjaaDoor
