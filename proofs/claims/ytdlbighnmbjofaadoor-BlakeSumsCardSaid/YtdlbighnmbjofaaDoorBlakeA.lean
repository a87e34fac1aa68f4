/- The program's digests: the stirs. -/
import Derived.Test.YtdlbighnmbjofaaDoorKit
import Derived.Test.YtdlbighnmbjofaaDoorBlakeSpec
namespace Go.Proofs.YtdlbighnmbjofaaDoor
open Go Go.RowKit
attribute [local go_sem high] bop_add32 bop_xor32 bop_or32 uop_not32

theorem rot16 (x : UInt32) (w : World) :
    Calls Tryd.prog 31 #[.int .u32 (x.toNat : Int), .int .i64 (-16)] w fun e w' => e = .returned (.int .u32 ((ror x 16).toNat : Int)) ∧ w' = w := by
  have hk : bits .and .u64 (IntKind.u64.wrap (-16)) 31 = 16 := by decide +kernel
  go_enter Tryd.func31, Tryd.ntmps31
  go_wp2
  go_ret
  exact ⟨ret_int (or_ror' x 16 (by simp) (by simp)), rfl⟩
theorem rot12 (x : UInt32) (w : World) :
    Calls Tryd.prog 31 #[.int .u32 (x.toNat : Int), .int .i64 (-12)] w fun e w' => e = .returned (.int .u32 ((ror x 12).toNat : Int)) ∧ w' = w := by
  have hk : bits .and .u64 (IntKind.u64.wrap (-12)) 31 = 20 := by decide +kernel
  go_enter Tryd.func31, Tryd.ntmps31
  go_wp2
  go_ret
  exact ⟨ret_int (or_ror' x 12 (by simp) (by simp)), rfl⟩
theorem rot8 (x : UInt32) (w : World) :
    Calls Tryd.prog 31 #[.int .u32 (x.toNat : Int), .int .i64 (-8)] w fun e w' => e = .returned (.int .u32 ((ror x 8).toNat : Int)) ∧ w' = w := by
  have hk : bits .and .u64 (IntKind.u64.wrap (-8)) 31 = 24 := by decide +kernel
  go_enter Tryd.func31, Tryd.ntmps31
  go_wp2
  go_ret
  exact ⟨ret_int (or_ror' x 8 (by simp) (by simp)), rfl⟩
theorem rot7 (x : UInt32) (w : World) :
    Calls Tryd.prog 31 #[.int .u32 (x.toNat : Int), .int .i64 (-7)] w fun e w' => e = .returned (.int .u32 ((ror x 7).toNat : Int)) ∧ w' = w := by
  have hk : bits .and .u64 (IntKind.u64.wrap (-7)) 31 = 25 := by decide +kernel
  go_enter Tryd.func31, Tryd.ntmps31
  go_wp2
  go_ret
  exact ⟨ret_int (or_ror' x 7 (by simp) (by simp)), rfl⟩

def stk (s : List UInt32) (a b c d : Nat) (x y : UInt32) : Nat → List UInt32
  | 0 => s
  | 1 => Bl.half s a b c d x 16 12
  | _ => Bl.stir s a b c d x y
theorem stk_len (s a b c d x y k) : (stk s a b c d x y k).length = s.length := by
  unfold stk; split <;> simp [Bl.len_half, Bl.len_stir]

/-- One store into the block of words, and on. -/
theorem adv {w wr : World} {g r : Nat} {t : TypeId} {s : List UInt32} {X : Obj} (hW : W32 wr g t s) (hT : wr.heap[r]? = some X) (hF : Fr (· = g) w wr) (hr : r ≠ g) (i : Nat) (x : UInt32) {s' : List UInt32} (e : s' = s.set i x) :
    ∃ w1, (wr.setCell ⟨g, i, none⟩ (.int .u32 (x.toNat : Int))).drew = w1 ∧ W32 w1 g t s' ∧ w1.heap[r]? = some X ∧ Fr (· = g) w w1 := by
  subst e
  refine ⟨_, rfl, hW.set i x, ?_, (hF.trans (Fr.setCell (T := (· = g)) _ rfl) (fun _ _ h => h)).drew⟩
  exact (Below.heap_setCell wr ⟨g, i, none⟩ _ r hr).trans hT

set_option maxRecDepth 100000 in
set_option maxHeartbeats 4000000 in
theorem stir_any (g : Nat) (t : TypeId) (a b c d : Nat) (x y : UInt32) (s : List UInt32) (w : World) (h : W32 w g t s) (hs : s.length = 16) (ha : a < 16) (hb : b < 16) (hc : c < 16) (hd : d < 16) :
    Calls Tryd.prog 29 #[.pointer (some ⟨g, 0, none⟩), .int .i64 a, .int .i64 b, .int .i64 c, .int .i64 d, .agg #[.int .u32 (x.toNat : Int), .int .u32 (y.toNat : Int)]] w
      fun e w' => e = .returned (.tuple #[]) ∧ W32 w' g t (Bl.stir s a b c d x y) ∧ Fr (· = g) w w' := by
  have hg := h.lt
  have H := Lib.hid h
  have HS := Lib.hid hs
  have hai : (a : Int) < 16 := by omega
  have hbi : (b : Int) < 16 := by omega
  have hci : (c : Int) < 16 := by omega
  have hdi : (d : Int) < 16 := by omega
  clear h hs
  have i0 : ∀ w, (Instr.index 58 (.agg #[.int .u32 (x.toNat : Int), .int .u32 (y.toNat : Int)]) (.int .i64 0)).run Tryd.prog w = .ok (.int .u32 (x.toNat : Int)) w := fun _ => by kernel_rfl
  have i1 : ∀ w, (Instr.index 58 (.agg #[.int .u32 (x.toNat : Int), .int .u32 (y.toNat : Int)]) (.int .i64 1)).run Tryd.prog w = .ok (.int .u32 (y.toNat : Int)) w := fun _ => by kernel_rfl
  go_enter Tryd.func29, Tryd.ntmps29
  go_wp2
  go_loopw [19] (fun i wr => ∃ k : Nat, k ≤ 2 ∧ i = .int .i64 k ∧ W32 wr g t (stk s a b c d x y k) ∧ Fr (· = g) w wr ∧ wr.heap[w.heap.size + 1]? = some (.cells #[.int .i64 16, .int .i64 12, .int .i64 8, .int .i64 7] 62 (0, 0))) (fun i _ => 2 - (intOf i).toNat)
  case atStart =>
    refine ⟨0, by omega, rfl, ?_, ?_, ?_⟩
    · exact (H.out.fr (Fr.alloc (T := fun _ => False) _) (fun h => h)).fr (Fr.alloc (T := fun _ => False) _) (fun h => h)
    · exact (Fr.alloc _).trans (Fr.alloc (T := fun _ => False) _) (fun _ _ h => h.elim)
    · exact heap_alloc2_new w _ _
  case round =>
    obtain ⟨k, hk, rfl, hW, hF, hT⟩ := hrel
    have hlen : (stk s a b c d x y k).length = 16 := by rw [stk_len]; exact HS.out
    have HT := Lib.hid hT
    have HW := Lib.hid hW
    have HF := Lib.hid hF
    have HL := Lib.hid hlen
    clear hT hW hF hlen
    obtain rfl | rfl | rfl : k = 0 ∨ k = 1 ∨ k = 2 := by omega
    · rw [show ((0 : Nat) : Int) = 0 from rfl]
      obtain ⟨xa, exa, hca, hfa⟩ := HW.out.get (i := a) (by rw [HL.out]; exact ha)
      obtain ⟨xb, exb, hcb, hfb⟩ := HW.out.get (i := b) (by rw [HL.out]; exact hb)
      go_wp2
      refine region_tail 15 (by kernel_rfl) (by kernel_rfl) ?_
      simp only [List.take_succ_cons, List.take_zero, List.drop_succ_cons, List.drop_zero]
      repeat still_step
      refine wpStill_nil ?_
      go_wp2
      obtain ⟨w1, ew, hW1, hT1, hF1⟩ := adv HW.out HT.out HF.out (by omega) a (add32 xa (add32 xb x)) (s' := Bl.h1 (stk s a b c d x y 0) a b x) (by first | rfl | (show List.set _ _ _ = _; rw [exa.out, exb.out]))
      rw [ew]
      have HL1 : Hid ((Bl.h1 (stk s a b c d x y 0) a b x).length = 16) := by have := HL.out; simpa [Hid, Bl.len_h1, Bl.len_h2, Bl.len_h3] using this
      have HW1 := Lib.hid hW1
      have HT1 := Lib.hid hT1
      have HF1 := Lib.hid hF1
      clear ew hW1 hT1 hF1 hca hfa exa hcb hfb exb
      obtain ⟨xd, exd, hcd, hfd⟩ := HW1.out.get (i := d) (by rw [HL1.out]; exact hd)
      obtain ⟨xa, exa, hca, hfa⟩ := HW1.out.get (i := a) (by rw [HL1.out]; exact ha)
      have ht0 : w1.cell? ⟨w.heap.size + 1, 0, none⟩ = some (.int .i64 16) := cell_of_row _ _ _ _ _ _ HT1.out
      go_wp2
      refine region_tail 21 (by kernel_rfl) (by kernel_rfl) ?_
      simp only [List.take_succ_cons, List.take_zero, List.drop_succ_cons, List.drop_zero]
      repeat still_step
      still_call (rot16 _ _)
      repeat still_step
      refine wpStill_nil ?_
      go_wp2
      obtain ⟨w2, ew, hW2, hT2, hF2⟩ := adv HW1.out HT1.out HF1.out (by omega) d (ror (xor32 xd xa) 16) (s' := Bl.h2 (Bl.h1 (stk s a b c d x y 0) a b x) d a 16) (by first | rfl | (show List.set _ _ _ = _; rw [exd.out, exa.out]))
      rw [ew]
      have HL2 : Hid ((Bl.h2 (Bl.h1 (stk s a b c d x y 0) a b x) d a 16).length = 16) := by have := HL1.out; simpa [Hid, Bl.len_h1, Bl.len_h2, Bl.len_h3] using this
      have HW2 := Lib.hid hW2
      have HT2 := Lib.hid hT2
      have HF2 := Lib.hid hF2
      clear ew hW2 hT2 hF2 hcd hfd exd hca hfa exa ht0
      obtain ⟨xc, exc, hcc, hfc⟩ := HW2.out.get (i := c) (by rw [HL2.out]; exact hc)
      obtain ⟨xd, exd, hcd, hfd⟩ := HW2.out.get (i := d) (by rw [HL2.out]; exact hd)
      go_wp2
      refine region_tail 13 (by kernel_rfl) (by kernel_rfl) ?_
      simp only [List.take_succ_cons, List.take_zero, List.drop_succ_cons, List.drop_zero]
      repeat still_step
      refine wpStill_nil ?_
      go_wp2
      obtain ⟨w3, ew, hW3, hT3, hF3⟩ := adv HW2.out HT2.out HF2.out (by omega) c (add32 xc xd) (s' := Bl.h3 (Bl.h2 (Bl.h1 (stk s a b c d x y 0) a b x) d a 16) c d) (by first | rfl | (show List.set _ _ _ = _; rw [exc.out, exd.out]))
      rw [ew]
      have HL3 : Hid ((Bl.h3 (Bl.h2 (Bl.h1 (stk s a b c d x y 0) a b x) d a 16) c d).length = 16) := by have := HL2.out; simpa [Hid, Bl.len_h1, Bl.len_h2, Bl.len_h3] using this
      have HW3 := Lib.hid hW3
      have HT3 := Lib.hid hT3
      have HF3 := Lib.hid hF3
      clear ew hW3 hT3 hF3 hcc hfc exc hcd hfd exd
      obtain ⟨xb, exb, hcb, hfb⟩ := HW3.out.get (i := b) (by rw [HL3.out]; exact hb)
      obtain ⟨xc, exc, hcc, hfc⟩ := HW3.out.get (i := c) (by rw [HL3.out]; exact hc)
      have ht0 : w3.cell? ⟨w.heap.size + 1, 1, none⟩ = some (.int .i64 12) := cell_of_row _ _ _ _ _ _ HT3.out
      go_wp2
      refine region_tail 21 (by kernel_rfl) (by kernel_rfl) ?_
      simp only [List.take_succ_cons, List.take_zero, List.drop_succ_cons, List.drop_zero]
      repeat still_step
      still_call (rot12 _ _)
      repeat still_step
      refine wpStill_nil ?_
      go_wp2
      obtain ⟨w4, ew, hW4, hT4, hF4⟩ := adv HW3.out HT3.out HF3.out (by omega) b (ror (xor32 xb xc) 12) (s' := Bl.h2 (Bl.h3 (Bl.h2 (Bl.h1 (stk s a b c d x y 0) a b x) d a 16) c d) b c 12) (by first | rfl | (show List.set _ _ _ = _; rw [exb.out, exc.out]))
      rw [ew]
      have HL4 : Hid ((Bl.h2 (Bl.h3 (Bl.h2 (Bl.h1 (stk s a b c d x y 0) a b x) d a 16) c d) b c 12).length = 16) := by have := HL3.out; simpa [Hid, Bl.len_h1, Bl.len_h2, Bl.len_h3] using this
      have HW4 := Lib.hid hW4
      have HT4 := Lib.hid hT4
      have HF4 := Lib.hid hF4
      clear ew hW4 hT4 hF4 hcb hfb exb hcc hfc exc ht0
      go_wp2
      go_roundw
      case rel => exact ⟨1, by omega, by go_num, HW4.out, HF4.out, HT4.out⟩
      case measure => simp [intOf]
    · rw [show ((1 : Nat) : Int) = 1 from rfl]
      obtain ⟨xa, exa, hca, hfa⟩ := HW.out.get (i := a) (by rw [HL.out]; exact ha)
      obtain ⟨xb, exb, hcb, hfb⟩ := HW.out.get (i := b) (by rw [HL.out]; exact hb)
      go_wp2
      refine region_tail 15 (by kernel_rfl) (by kernel_rfl) ?_
      simp only [List.take_succ_cons, List.take_zero, List.drop_succ_cons, List.drop_zero]
      repeat still_step
      refine wpStill_nil ?_
      go_wp2
      obtain ⟨w1, ew, hW1, hT1, hF1⟩ := adv HW.out HT.out HF.out (by omega) a (add32 xa (add32 xb y)) (s' := Bl.h1 (stk s a b c d x y 1) a b y) (by first | rfl | (show List.set _ _ _ = _; rw [exa.out, exb.out]))
      rw [ew]
      have HL1 : Hid ((Bl.h1 (stk s a b c d x y 1) a b y).length = 16) := by have := HL.out; simpa [Hid, Bl.len_h1, Bl.len_h2, Bl.len_h3] using this
      have HW1 := Lib.hid hW1
      have HT1 := Lib.hid hT1
      have HF1 := Lib.hid hF1
      clear ew hW1 hT1 hF1 hca hfa exa hcb hfb exb
      obtain ⟨xd, exd, hcd, hfd⟩ := HW1.out.get (i := d) (by rw [HL1.out]; exact hd)
      obtain ⟨xa, exa, hca, hfa⟩ := HW1.out.get (i := a) (by rw [HL1.out]; exact ha)
      have ht0 : w1.cell? ⟨w.heap.size + 1, 2, none⟩ = some (.int .i64 8) := cell_of_row _ _ _ _ _ _ HT1.out
      go_wp2
      refine region_tail 21 (by kernel_rfl) (by kernel_rfl) ?_
      simp only [List.take_succ_cons, List.take_zero, List.drop_succ_cons, List.drop_zero]
      repeat still_step
      still_call (rot8 _ _)
      repeat still_step
      refine wpStill_nil ?_
      go_wp2
      obtain ⟨w2, ew, hW2, hT2, hF2⟩ := adv HW1.out HT1.out HF1.out (by omega) d (ror (xor32 xd xa) 8) (s' := Bl.h2 (Bl.h1 (stk s a b c d x y 1) a b y) d a 8) (by first | rfl | (show List.set _ _ _ = _; rw [exd.out, exa.out]))
      rw [ew]
      have HL2 : Hid ((Bl.h2 (Bl.h1 (stk s a b c d x y 1) a b y) d a 8).length = 16) := by have := HL1.out; simpa [Hid, Bl.len_h1, Bl.len_h2, Bl.len_h3] using this
      have HW2 := Lib.hid hW2
      have HT2 := Lib.hid hT2
      have HF2 := Lib.hid hF2
      clear ew hW2 hT2 hF2 hcd hfd exd hca hfa exa ht0
      obtain ⟨xc, exc, hcc, hfc⟩ := HW2.out.get (i := c) (by rw [HL2.out]; exact hc)
      obtain ⟨xd, exd, hcd, hfd⟩ := HW2.out.get (i := d) (by rw [HL2.out]; exact hd)
      go_wp2
      refine region_tail 13 (by kernel_rfl) (by kernel_rfl) ?_
      simp only [List.take_succ_cons, List.take_zero, List.drop_succ_cons, List.drop_zero]
      repeat still_step
      refine wpStill_nil ?_
      go_wp2
      obtain ⟨w3, ew, hW3, hT3, hF3⟩ := adv HW2.out HT2.out HF2.out (by omega) c (add32 xc xd) (s' := Bl.h3 (Bl.h2 (Bl.h1 (stk s a b c d x y 1) a b y) d a 8) c d) (by first | rfl | (show List.set _ _ _ = _; rw [exc.out, exd.out]))
      rw [ew]
      have HL3 : Hid ((Bl.h3 (Bl.h2 (Bl.h1 (stk s a b c d x y 1) a b y) d a 8) c d).length = 16) := by have := HL2.out; simpa [Hid, Bl.len_h1, Bl.len_h2, Bl.len_h3] using this
      have HW3 := Lib.hid hW3
      have HT3 := Lib.hid hT3
      have HF3 := Lib.hid hF3
      clear ew hW3 hT3 hF3 hcc hfc exc hcd hfd exd
      obtain ⟨xb, exb, hcb, hfb⟩ := HW3.out.get (i := b) (by rw [HL3.out]; exact hb)
      obtain ⟨xc, exc, hcc, hfc⟩ := HW3.out.get (i := c) (by rw [HL3.out]; exact hc)
      have ht0 : w3.cell? ⟨w.heap.size + 1, 3, none⟩ = some (.int .i64 7) := cell_of_row _ _ _ _ _ _ HT3.out
      go_wp2
      refine region_tail 21 (by kernel_rfl) (by kernel_rfl) ?_
      simp only [List.take_succ_cons, List.take_zero, List.drop_succ_cons, List.drop_zero]
      repeat still_step
      still_call (rot7 _ _)
      repeat still_step
      refine wpStill_nil ?_
      go_wp2
      obtain ⟨w4, ew, hW4, hT4, hF4⟩ := adv HW3.out HT3.out HF3.out (by omega) b (ror (xor32 xb xc) 7) (s' := Bl.h2 (Bl.h3 (Bl.h2 (Bl.h1 (stk s a b c d x y 1) a b y) d a 8) c d) b c 7) (by first | rfl | (show List.set _ _ _ = _; rw [exb.out, exc.out]))
      rw [ew]
      have HL4 : Hid ((Bl.h2 (Bl.h3 (Bl.h2 (Bl.h1 (stk s a b c d x y 1) a b y) d a 8) c d) b c 7).length = 16) := by have := HL3.out; simpa [Hid, Bl.len_h1, Bl.len_h2, Bl.len_h3] using this
      have HW4 := Lib.hid hW4
      have HT4 := Lib.hid hT4
      have HF4 := Lib.hid hF4
      clear ew hW4 hT4 hF4 hcb hfb exb hcc hfc exc ht0
      go_wp2
      go_roundw
      case rel => exact ⟨2, by omega, by go_num, HW4.out, HF4.out, HT4.out⟩
      case measure => simp [intOf]
    · rw [show ((2 : Nat) : Int) = 2 from rfl]
      go_wp2
      go_end0
      exact ⟨rfl, HW.out, HF.out⟩
end Go.Proofs.YtdlbighnmbjofaaDoor
