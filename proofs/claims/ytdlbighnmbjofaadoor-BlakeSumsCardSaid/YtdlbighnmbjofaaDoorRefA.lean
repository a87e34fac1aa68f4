/- The reference's digests: a word turned, half a stir. -/
import Derived.Test.YtdlbighnmbjofaaDoorBlakeB
namespace Go.Proofs.YtdlbighnmbjofaaDoor
open Go Go.RowKit
attribute [local go_sem high] bop_add32 bop_xor32 bop_or32 uop_not32

theorem right16 (x : UInt32) (w : World) :
    Calls Tryd.prog 30 #[.int .u32 (x.toNat : Int), .int .u64 16] w fun e w' => e = .returned (.int .u32 ((ror x 16).toNat : Int)) ∧ w' = w := by
  go_enter Tryd.func30, Tryd.ntmps30
  go_wp2
  go_ret
  exact ⟨ret_int (or_ror x 16 (by simp) (by simp)), rfl⟩
theorem right12 (x : UInt32) (w : World) :
    Calls Tryd.prog 30 #[.int .u32 (x.toNat : Int), .int .u64 12] w fun e w' => e = .returned (.int .u32 ((ror x 12).toNat : Int)) ∧ w' = w := by
  go_enter Tryd.func30, Tryd.ntmps30
  go_wp2
  go_ret
  exact ⟨ret_int (or_ror x 12 (by simp) (by simp)), rfl⟩
theorem right8 (x : UInt32) (w : World) :
    Calls Tryd.prog 30 #[.int .u32 (x.toNat : Int), .int .u64 8] w fun e w' => e = .returned (.int .u32 ((ror x 8).toNat : Int)) ∧ w' = w := by
  go_enter Tryd.func30, Tryd.ntmps30
  go_wp2
  go_ret
  exact ⟨ret_int (or_ror x 8 (by simp) (by simp)), rfl⟩
theorem right7 (x : UInt32) (w : World) :
    Calls Tryd.prog 30 #[.int .u32 (x.toNat : Int), .int .u64 7] w fun e w' => e = .returned (.int .u32 ((ror x 7).toNat : Int)) ∧ w' = w := by
  go_enter Tryd.func30, Tryd.ntmps30
  go_wp2
  go_ret
  exact ⟨ret_int (or_ror x 7 (by simp) (by simp)), rfl⟩

theorem add32_assoc (x y z : UInt32) : add32 (add32 x y) z = add32 x (add32 y z) := by unfold add32; exact UInt32.add_assoc x y z
theorem xor32_assoc (x y z : UInt32) : xor32 (xor32 x y) z = xor32 x (xor32 y z) := by unfold xor32; exact UInt32.xor_assoc x y z

/-- A row of words, at the head of a block that may be longer. -/
def R32 (w : World) (g : Nat) (s : List UInt32) : Prop := ∃ cur, w.heap[g]? = some (.cells cur 34 (0, 0)) ∧ cur.toList.take s.length = s.map u32v
section
variable {w w' : World} {g : Nat} {s : List UInt32}
theorem R32.lt (h : R32 w g s) : g < w.heap.size := by
  obtain ⟨cur, h, _⟩ := h
  exact (Array.getElem?_eq_some_iff.1 h).1
theorem R32.cell (h : R32 w g s) {i : Nat} (hi : i < s.length) : w.cell? ⟨g, i, none⟩ = some (.int .u32 ((s.getD i 0).toNat : Int)) := by
  obtain ⟨cur, h, ht⟩ := h
  rw [cell_of_row w g i _ _ (0, 0) h, ← Array.getElem?_toList, ← List.getElem?_take_of_lt hi, ht]
  simp [hi]
theorem R32.frozen (h : R32 w g s) (i : Nat) : w.frozen? ⟨g, i, none⟩ = false := by
  obtain ⟨cur, h, _⟩ := h
  exact frozen_of_row w g i _ _ h
theorem R32.get (h : R32 w g s) {i : Nat} (hi : i < s.length) : ∃ x, Hid (s.getD i 0 = x) ∧ w.cell? ⟨g, i, none⟩ = some (.int .u32 (x.toNat : Int)) ∧ w.frozen? ⟨g, i, none⟩ = false :=
  ⟨_, rfl, h.cell hi, h.frozen i⟩
theorem R32.set (h : R32 w g s) (i : Nat) (x : UInt32) : R32 (w.setCell ⟨g, i, none⟩ (.int .u32 (x.toNat : Int))) g (s.set i x) := by
  obtain ⟨cur, h, ht⟩ := h
  refine ⟨_, heap_setCell_same w g i _ _ _ h, ?_⟩
  rw [List.length_set, List.map_set, ← ht, Array.toList_setIfInBounds, List.take_set]
theorem R32.keep (h : R32 w g s) (hk : w'.heap[g]? = w.heap[g]?) : R32 w' g s := by
  obtain ⟨cur, h, ht⟩ := h
  exact ⟨cur, hk.trans h, ht⟩
theorem R32.fr {T : Nat → Prop} (h : R32 w g s) (hf : Fr T w w') (ht : ¬ T g) : R32 w' g s := h.keep (hf.block g h.lt ht)
end
/-- One store into the row of words, and on. -/
theorem advR {w wr : World} {g : Nat} {s : List UInt32} (hW : R32 wr g s) (hF : Fr (· = g) w wr) (i : Nat) (x : UInt32) {s' : List UInt32} (e : s' = s.set i x) :
    ∃ w1, (wr.setCell ⟨g, i, none⟩ (.int .u32 (x.toNat : Int))).drew = w1 ∧ R32 w1 g s' ∧ Fr (· = g) w w1 := by
  subst e
  exact ⟨_, rfl, hW.set i x, (hF.trans (Fr.setCell (T := (· = g)) _ rfl) (fun _ _ h => h)).drew⟩
/-- Four places. -/
def P4 (w : World) (g : Nat) (a b c d : Nat) : Prop := w.heap[g]? = some (.cells #[.int .i64 (a : Int), .int .i64 (b : Int), .int .i64 (c : Int), .int .i64 (d : Int)] 3 (0, 0))

set_option maxRecDepth 100000 in
set_option maxHeartbeats 4000000 in
theorem half16 (g gp cp : Nat) (a b c d : Nat) (x : UInt32) (s : List UInt32) (w : World) (h : R32 w g s) (hp : P4 w gp a b c d) (hne : gp ≠ g) (hs : s.length = 16) (ha : a < 16) (hb : b < 16) (hc : c < 16) (hd : d < 16) :
    Calls Tryd.prog 27 #[.slice (some ⟨g, 0, none⟩) 16 cp, .slice (some ⟨gp, 0, none⟩) 4 4, .int .u32 (x.toNat : Int), .int .u64 16, .int .u64 12] w
      fun e w' => e = .returned (.tuple #[]) ∧ R32 w' g (Bl.half s a b c d x 16 12) ∧ Fr (· = g) w w' := by
  have hg := h.lt
  have HW := Lib.hid h
  have HP := Lib.hid hp
  have HL := Lib.hid hs
  have HF : Hid (Fr (· = g) w w) := Fr.refl
  have hpl : gp < w.heap.size := (Array.getElem?_eq_some_iff.1 hp).1
  have HN := Lib.hid hne
  have hai : (a : Int) < 16 := by omega
  have hbi : (b : Int) < 16 := by omega
  have hci : (c : Int) < 16 := by omega
  have hdi : (d : Int) < 16 := by omega
  clear h hs hp hne
  go_enter Tryd.func27, Tryd.ntmps27
  obtain ⟨xa, exa, hca, hfa⟩ := HW.out.get (i := a) (by rw [HL.out]; exact ha)
  obtain ⟨xb, exb, hcb, hfb⟩ := HW.out.get (i := b) (by rw [HL.out]; exact hb)
  have HP0 := (HF.out.block gp hpl HN.out).trans HP.out
  have hpa : w.cell? ⟨gp, 0, none⟩ = some (.int .i64 (a : Int)) := cell_of_row _ _ _ _ _ _ HP0
  have hpb : w.cell? ⟨gp, 1, none⟩ = some (.int .i64 (b : Int)) := cell_of_row _ _ _ _ _ _ HP0
  clear HP0
  go_wp2
  refine region_tail 20 (by kernel_rfl) (by kernel_rfl) ?_
  simp only [List.take_succ_cons, List.take_zero, List.drop_succ_cons, List.drop_zero]
  repeat still_step
  refine wpStill_nil ?_
  go_wp2
  obtain ⟨w1, ew, hW, hF⟩ := advR HW.out HF.out a (add32 (add32 xa xb) x) (s' := Bl.h1 s a b x) (by show List.set _ _ _ = _; rw [exa.out, exb.out, add32_assoc])
  rw [ew]
  have HL1 : Hid ((Bl.h1 s a b x).length = 16) := by have := HL.out; simpa [Hid, Bl.len_h1, Bl.len_h2, Bl.len_h3] using this
  have HW1 := Lib.hid hW
  have HF1 := Lib.hid hF
  clear ew hW hF hca hfa exa hpa hcb hfb exb hpb
  obtain ⟨xd, exd, hcd, hfd⟩ := HW1.out.get (i := d) (by rw [HL1.out]; exact hd)
  obtain ⟨xa, exa, hca, hfa⟩ := HW1.out.get (i := a) (by rw [HL1.out]; exact ha)
  have HP1 := (HF1.out.block gp hpl HN.out).trans HP.out
  have hpd : w1.cell? ⟨gp, 3, none⟩ = some (.int .i64 (d : Int)) := cell_of_row _ _ _ _ _ _ HP1
  have hpa : w1.cell? ⟨gp, 0, none⟩ = some (.int .i64 (a : Int)) := cell_of_row _ _ _ _ _ _ HP1
  clear HP1
  go_wp2
  refine region_tail 20 (by kernel_rfl) (by kernel_rfl) ?_
  simp only [List.take_succ_cons, List.take_zero, List.drop_succ_cons, List.drop_zero]
  repeat still_step
  still_call (right16 _ _)
  repeat still_step
  refine wpStill_nil ?_
  go_wp2
  obtain ⟨w2, ew, hW, hF⟩ := advR HW1.out HF1.out d (ror (xor32 xd xa) 16) (s' := Bl.h2 (Bl.h1 s a b x) d a 16) (by show List.set _ _ _ = _; rw [exd.out, exa.out])
  rw [ew]
  have HL2 : Hid ((Bl.h2 (Bl.h1 s a b x) d a 16).length = 16) := by have := HL1.out; simpa [Hid, Bl.len_h1, Bl.len_h2, Bl.len_h3] using this
  have HW2 := Lib.hid hW
  have HF2 := Lib.hid hF
  clear ew hW hF hcd hfd exd hpd hca hfa exa hpa
  obtain ⟨xc, exc, hcc, hfc⟩ := HW2.out.get (i := c) (by rw [HL2.out]; exact hc)
  obtain ⟨xd, exd, hcd, hfd⟩ := HW2.out.get (i := d) (by rw [HL2.out]; exact hd)
  have HP2 := (HF2.out.block gp hpl HN.out).trans HP.out
  have hpc : w2.cell? ⟨gp, 2, none⟩ = some (.int .i64 (c : Int)) := cell_of_row _ _ _ _ _ _ HP2
  have hpd : w2.cell? ⟨gp, 3, none⟩ = some (.int .i64 (d : Int)) := cell_of_row _ _ _ _ _ _ HP2
  clear HP2
  go_wp2
  refine region_tail 18 (by kernel_rfl) (by kernel_rfl) ?_
  simp only [List.take_succ_cons, List.take_zero, List.drop_succ_cons, List.drop_zero]
  repeat still_step
  refine wpStill_nil ?_
  go_wp2
  obtain ⟨w3, ew, hW, hF⟩ := advR HW2.out HF2.out c (add32 xc xd) (s' := Bl.h3 (Bl.h2 (Bl.h1 s a b x) d a 16) c d) (by show List.set _ _ _ = _; rw [exc.out, exd.out])
  rw [ew]
  have HL3 : Hid ((Bl.h3 (Bl.h2 (Bl.h1 s a b x) d a 16) c d).length = 16) := by have := HL2.out; simpa [Hid, Bl.len_h1, Bl.len_h2, Bl.len_h3] using this
  have HW3 := Lib.hid hW
  have HF3 := Lib.hid hF
  clear ew hW hF hcc hfc exc hpc hcd hfd exd hpd
  obtain ⟨xb, exb, hcb, hfb⟩ := HW3.out.get (i := b) (by rw [HL3.out]; exact hb)
  obtain ⟨xc, exc, hcc, hfc⟩ := HW3.out.get (i := c) (by rw [HL3.out]; exact hc)
  have HP3 := (HF3.out.block gp hpl HN.out).trans HP.out
  have hpb : w3.cell? ⟨gp, 1, none⟩ = some (.int .i64 (b : Int)) := cell_of_row _ _ _ _ _ _ HP3
  have hpc : w3.cell? ⟨gp, 2, none⟩ = some (.int .i64 (c : Int)) := cell_of_row _ _ _ _ _ _ HP3
  clear HP3
  go_wp2
  refine region_tail 20 (by kernel_rfl) (by kernel_rfl) ?_
  simp only [List.take_succ_cons, List.take_zero, List.drop_succ_cons, List.drop_zero]
  repeat still_step
  still_call (right12 _ _)
  repeat still_step
  refine wpStill_nil ?_
  go_wp2
  obtain ⟨w4, ew, hW, hF⟩ := advR HW3.out HF3.out b (ror (xor32 xb xc) 12) (s' := Bl.h2 (Bl.h3 (Bl.h2 (Bl.h1 s a b x) d a 16) c d) b c 12) (by show List.set _ _ _ = _; rw [exb.out, exc.out])
  rw [ew]
  have HL4 : Hid ((Bl.h2 (Bl.h3 (Bl.h2 (Bl.h1 s a b x) d a 16) c d) b c 12).length = 16) := by have := HL3.out; simpa [Hid, Bl.len_h1, Bl.len_h2, Bl.len_h3] using this
  have HW4 := Lib.hid hW
  have HF4 := Lib.hid hF
  clear ew hW hF hcb hfb exb hpb hcc hfc exc hpc
  go_wp2
  go_end0
  exact ⟨rfl, HW4.out, HF4.out⟩
set_option maxRecDepth 100000 in
set_option maxHeartbeats 4000000 in
theorem half8 (g gp cp : Nat) (a b c d : Nat) (x : UInt32) (s : List UInt32) (w : World) (h : R32 w g s) (hp : P4 w gp a b c d) (hne : gp ≠ g) (hs : s.length = 16) (ha : a < 16) (hb : b < 16) (hc : c < 16) (hd : d < 16) :
    Calls Tryd.prog 27 #[.slice (some ⟨g, 0, none⟩) 16 cp, .slice (some ⟨gp, 0, none⟩) 4 4, .int .u32 (x.toNat : Int), .int .u64 8, .int .u64 7] w
      fun e w' => e = .returned (.tuple #[]) ∧ R32 w' g (Bl.half s a b c d x 8 7) ∧ Fr (· = g) w w' := by
  have hg := h.lt
  have HW := Lib.hid h
  have HP := Lib.hid hp
  have HL := Lib.hid hs
  have HF : Hid (Fr (· = g) w w) := Fr.refl
  have hpl : gp < w.heap.size := (Array.getElem?_eq_some_iff.1 hp).1
  have HN := Lib.hid hne
  have hai : (a : Int) < 16 := by omega
  have hbi : (b : Int) < 16 := by omega
  have hci : (c : Int) < 16 := by omega
  have hdi : (d : Int) < 16 := by omega
  clear h hs hp hne
  go_enter Tryd.func27, Tryd.ntmps27
  obtain ⟨xa, exa, hca, hfa⟩ := HW.out.get (i := a) (by rw [HL.out]; exact ha)
  obtain ⟨xb, exb, hcb, hfb⟩ := HW.out.get (i := b) (by rw [HL.out]; exact hb)
  have HP0 := (HF.out.block gp hpl HN.out).trans HP.out
  have hpa : w.cell? ⟨gp, 0, none⟩ = some (.int .i64 (a : Int)) := cell_of_row _ _ _ _ _ _ HP0
  have hpb : w.cell? ⟨gp, 1, none⟩ = some (.int .i64 (b : Int)) := cell_of_row _ _ _ _ _ _ HP0
  clear HP0
  go_wp2
  refine region_tail 20 (by kernel_rfl) (by kernel_rfl) ?_
  simp only [List.take_succ_cons, List.take_zero, List.drop_succ_cons, List.drop_zero]
  repeat still_step
  refine wpStill_nil ?_
  go_wp2
  obtain ⟨w1, ew, hW, hF⟩ := advR HW.out HF.out a (add32 (add32 xa xb) x) (s' := Bl.h1 s a b x) (by show List.set _ _ _ = _; rw [exa.out, exb.out, add32_assoc])
  rw [ew]
  have HL1 : Hid ((Bl.h1 s a b x).length = 16) := by have := HL.out; simpa [Hid, Bl.len_h1, Bl.len_h2, Bl.len_h3] using this
  have HW1 := Lib.hid hW
  have HF1 := Lib.hid hF
  clear ew hW hF hca hfa exa hpa hcb hfb exb hpb
  obtain ⟨xd, exd, hcd, hfd⟩ := HW1.out.get (i := d) (by rw [HL1.out]; exact hd)
  obtain ⟨xa, exa, hca, hfa⟩ := HW1.out.get (i := a) (by rw [HL1.out]; exact ha)
  have HP1 := (HF1.out.block gp hpl HN.out).trans HP.out
  have hpd : w1.cell? ⟨gp, 3, none⟩ = some (.int .i64 (d : Int)) := cell_of_row _ _ _ _ _ _ HP1
  have hpa : w1.cell? ⟨gp, 0, none⟩ = some (.int .i64 (a : Int)) := cell_of_row _ _ _ _ _ _ HP1
  clear HP1
  go_wp2
  refine region_tail 20 (by kernel_rfl) (by kernel_rfl) ?_
  simp only [List.take_succ_cons, List.take_zero, List.drop_succ_cons, List.drop_zero]
  repeat still_step
  still_call (right8 _ _)
  repeat still_step
  refine wpStill_nil ?_
  go_wp2
  obtain ⟨w2, ew, hW, hF⟩ := advR HW1.out HF1.out d (ror (xor32 xd xa) 8) (s' := Bl.h2 (Bl.h1 s a b x) d a 8) (by show List.set _ _ _ = _; rw [exd.out, exa.out])
  rw [ew]
  have HL2 : Hid ((Bl.h2 (Bl.h1 s a b x) d a 8).length = 16) := by have := HL1.out; simpa [Hid, Bl.len_h1, Bl.len_h2, Bl.len_h3] using this
  have HW2 := Lib.hid hW
  have HF2 := Lib.hid hF
  clear ew hW hF hcd hfd exd hpd hca hfa exa hpa
  obtain ⟨xc, exc, hcc, hfc⟩ := HW2.out.get (i := c) (by rw [HL2.out]; exact hc)
  obtain ⟨xd, exd, hcd, hfd⟩ := HW2.out.get (i := d) (by rw [HL2.out]; exact hd)
  have HP2 := (HF2.out.block gp hpl HN.out).trans HP.out
  have hpc : w2.cell? ⟨gp, 2, none⟩ = some (.int .i64 (c : Int)) := cell_of_row _ _ _ _ _ _ HP2
  have hpd : w2.cell? ⟨gp, 3, none⟩ = some (.int .i64 (d : Int)) := cell_of_row _ _ _ _ _ _ HP2
  clear HP2
  go_wp2
  refine region_tail 18 (by kernel_rfl) (by kernel_rfl) ?_
  simp only [List.take_succ_cons, List.take_zero, List.drop_succ_cons, List.drop_zero]
  repeat still_step
  refine wpStill_nil ?_
  go_wp2
  obtain ⟨w3, ew, hW, hF⟩ := advR HW2.out HF2.out c (add32 xc xd) (s' := Bl.h3 (Bl.h2 (Bl.h1 s a b x) d a 8) c d) (by show List.set _ _ _ = _; rw [exc.out, exd.out])
  rw [ew]
  have HL3 : Hid ((Bl.h3 (Bl.h2 (Bl.h1 s a b x) d a 8) c d).length = 16) := by have := HL2.out; simpa [Hid, Bl.len_h1, Bl.len_h2, Bl.len_h3] using this
  have HW3 := Lib.hid hW
  have HF3 := Lib.hid hF
  clear ew hW hF hcc hfc exc hpc hcd hfd exd hpd
  obtain ⟨xb, exb, hcb, hfb⟩ := HW3.out.get (i := b) (by rw [HL3.out]; exact hb)
  obtain ⟨xc, exc, hcc, hfc⟩ := HW3.out.get (i := c) (by rw [HL3.out]; exact hc)
  have HP3 := (HF3.out.block gp hpl HN.out).trans HP.out
  have hpb : w3.cell? ⟨gp, 1, none⟩ = some (.int .i64 (b : Int)) := cell_of_row _ _ _ _ _ _ HP3
  have hpc : w3.cell? ⟨gp, 2, none⟩ = some (.int .i64 (c : Int)) := cell_of_row _ _ _ _ _ _ HP3
  clear HP3
  go_wp2
  refine region_tail 20 (by kernel_rfl) (by kernel_rfl) ?_
  simp only [List.take_succ_cons, List.take_zero, List.drop_succ_cons, List.drop_zero]
  repeat still_step
  still_call (right7 _ _)
  repeat still_step
  refine wpStill_nil ?_
  go_wp2
  obtain ⟨w4, ew, hW, hF⟩ := advR HW3.out HF3.out b (ror (xor32 xb xc) 7) (s' := Bl.h2 (Bl.h3 (Bl.h2 (Bl.h1 s a b x) d a 8) c d) b c 7) (by show List.set _ _ _ = _; rw [exb.out, exc.out])
  rw [ew]
  have HL4 : Hid ((Bl.h2 (Bl.h3 (Bl.h2 (Bl.h1 s a b x) d a 8) c d) b c 7).length = 16) := by have := HL3.out; simpa [Hid, Bl.len_h1, Bl.len_h2, Bl.len_h3] using this
  have HW4 := Lib.hid hW
  have HF4 := Lib.hid hF
  clear ew hW hF hcb hfb exb hpb hcc hfc exc hpc
  go_wp2
  go_end0
  exact ⟨rfl, HW4.out, HF4.out⟩
end Go.Proofs.YtdlbighnmbjofaaDoor
