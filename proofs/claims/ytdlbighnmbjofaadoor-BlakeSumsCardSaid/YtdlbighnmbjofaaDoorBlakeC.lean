/- The program's digests: a block taken. -/
import Derived.Test.YtdlbighnmbjofaaDoorBlakeB
import Derived.Deep.DeepCutAuto
import Derived.Laws.Tables
namespace Go.Proofs.YtdlbighnmbjofaaDoor
open Go Go.RowKit
attribute [local go_sem high] bop_add32 bop_xor32 bop_or32 uop_not32

/-- A block of bytes. -/
def B8 (w : World) (g : Nat) (b : List UInt8) : Prop := ∀ i, i < b.length → w.cell? ⟨g, i, none⟩ = some (.int .u8 ((b.getD i 0).toNat : Int))
theorem B8.keep {w w' : World} {g : Nat} {b : List UInt8} (h : B8 w g b) (hk : w'.heap[g]? = w.heap[g]?) : B8 w' g b := fun i hi => (World.cell?_of_block (a := ⟨g, i, none⟩) hk).trans (h i hi)
theorem B8.lt {w : World} {g : Nat} {b : List UInt8} (h : B8 w g b) (hl : 0 < b.length) : g < w.heap.size := by
  have := h 0 hl
  rcases Nat.lt_or_ge g w.heap.size with h1 | h1
  · exact h1
  · simp [World.cell?, Array.getElem?_eq_none h1] at this

/-- The program's two variables, as they lie. -/
structure Gl (w : World) : Prop where
  begins : ∀ i, i < 8 → w.cell? ⟨0, i, none⟩ = some (.int .u32 ((Bl.begins.getD i 0).toNat : Int))
  orders : ∀ i, i < 10 → ∃ ba : ByteArray, w.cell? ⟨1, i, none⟩ = some (.string ba) ∧ ba.size = 16 ∧ ba.data.toList.map dig = Bl.orders.getD i [] ∧ ∀ (j : Nat) (c : UInt8), ba.data.toList[j]? = some c → 48 ≤ c.toNat ∧ dig c < 16

def mk (b : List UInt8) (k : Nat) : List UInt32 := Bl.words b k ++ List.replicate (16 - k) 0
theorem mk_len (b : List UInt8) (k : Nat) (h : k ≤ 16) : (mk b k).length = 16 := by simp [mk, Bl.words]; omega
theorem mk_set (b : List UInt8) (k : Nat) (h : k < 16) : (mk b k).set k (Bl.wordAt b k) = mk b (k + 1) := by
  have hl : (Bl.words b k).length = k := by simp [Bl.words]
  unfold mk
  rw [List.set_append_right _ _ (by omega), hl, Nat.sub_self, show 16 - k = (16 - (k + 1)) + 1 by omega, List.replicate_succ, List.set_cons_zero]
  simp [Bl.words, List.range_succ]

theorem alloc_at (w : World) (o : Obj) {n : Nat} (h : w.heap.size = n) : (w.alloc o).heap[n]? = some o := by subst h; exact heap_alloc_new w o
/-- The blocks of the call. -/
structure TS (w wr : World) (h r m : List UInt32) : Prop where
  h : W32 wr w.heap.size 38 h
  r : W32 wr (w.heap.size + 1) 38 r
  m : W32 wr (w.heap.size + 1 + 1) 48 m
  b : Below w.heap.size w wr
theorem W32.far {w : World} {g : Nat} {t : TypeId} {s : List UInt32} (h : W32 w g t s) {p : Addr} (hp : g ≠ p.block) (u : Value) : W32 (w.setCell p u) g t s := h.keep (Below.heap_setCell w p u g hp)
theorem W32.drew {w : World} {g : Nat} {t : TypeId} {s : List UInt32} (h : W32 w g t s) : W32 w.drew g t s := h
theorem below_drew {B : Nat} {w w' : World} (h : Below B w w') : Below B w w'.drew := ⟨h.os, h.tape, h.output, h.size, h.block⟩
theorem TS.setM {w wr : World} {h r m : List UInt32} (H : TS w wr h r m) (i : Nat) (x : UInt32) : TS w (wr.setCell ⟨w.heap.size + 1 + 1, i, none⟩ (.int .u32 (x.toNat : Int))).drew h r (m.set i x) :=
  ⟨(H.h.far (p := ⟨w.heap.size + 1 + 1, i, none⟩) (by simp; omega) _), (H.r.far (p := ⟨w.heap.size + 1 + 1, i, none⟩) (by simp) _), H.m.set i x, below_drew (H.b.setCell (by simp; omega) _)⟩
theorem add_zero' (g j : Nat) : (⟨g, 0, none⟩ : Addr).add j = ⟨g, j, none⟩ := by
  unfold Addr.add
  split
  · rename_i h; subst h; rfl
  · simp
theorem W32.addr {w : World} {g : Nat} {t : TypeId} {s : List UInt32} (h : W32 w g t s) (j : Nat) (v : Value) (hv : (s.map u32v)[j]? = some v) : w.cell? ((⟨g, 0, none⟩ : Addr).add j) = some v := by
  rw [add_zero', cell_of_row w g j _ t (0, 0) h]
  simpa using hv
theorem Gl.addr {w : World} (h : Gl w) (j : Nat) (v : Value) (hv : (Bl.begins.map u32v)[j]? = some v) : w.cell? ((⟨0, 0, none⟩ : Addr).add j) = some v := by
  have hj : j < 8 := by
    have := (List.getElem?_eq_some_iff.1 hv).1
    simpa [Bl.begins] using this
  rw [add_zero', h.begins j hj]
  rw [List.getElem?_map] at hv
  have hl : j < Bl.begins.length := by simp [Bl.begins]; omega
  rw [List.getElem?_eq_getElem hl] at hv
  rw [List.getD_eq_getElem?_getD, List.getElem?_eq_getElem hl]
  simpa using hv
theorem Gl.lt {w : World} (h : Gl w) : 0 < w.heap.size ∧ 1 < w.heap.size := by
  constructor
  · have := h.begins 0 (by omega)
    rcases Nat.lt_or_ge 0 w.heap.size with h1 | h1
    · exact h1
    · simp only [World.cell?, Array.getElem?_eq_none h1] at this; cases this
  · obtain ⟨_, this, _⟩ := h.orders 0 (by omega)
    rcases Nat.lt_or_ge 1 w.heap.size with h1 | h1
    · exact h1
    · simp only [World.cell?, Array.getElem?_eq_none h1] at this; cases this
theorem Gl.keep {w w' : World} (h : Gl w) (h1 : w'.heap[0]? = w.heap[0]?) (h2 : w'.heap[1]? = w.heap[1]?) : Gl w' :=
  ⟨fun i hi => (World.cell?_of_block (a := ⟨0, i, none⟩) h1).trans (h.begins i hi), fun i hi => by
    obtain ⟨ba, hc, h3⟩ := h.orders i hi
    exact ⟨ba, (World.cell?_of_block (a := ⟨1, i, none⟩) h2).trans hc, h3⟩⟩
theorem Gl.below {w w' : World} (h : Gl w) {B : Nat} (hb : Below B w w') (hB : w.heap.size ≤ B) : Gl w' :=
  h.keep (hb.block _ (by have := h.lt; omega)) (hb.block _ (by have := h.lt; omega))
theorem W32.mk_ {w : World} {g : Nat} {t : TypeId} {s : List UInt32} {l : List Value} (h : w.heap[g]? = some (.cells l.toArray t (0, 0))) (e : l = s.map u32v) : W32 w g t s := by subst e; exact h
theorem TS.alloc {w wr : World} {h r m : List UInt32} (H : TS w wr h r m) (o : Obj) : TS w (wr.alloc o) h r m :=
  ⟨H.h.keep (heap_alloc_old _ _ H.h.lt), H.r.keep (heap_alloc_old _ _ H.r.lt), H.m.keep (heap_alloc_old _ _ H.m.lt), H.b.alloc H.b.size _⟩
theorem TS.below {w wr w' : World} {h r m : List UInt32} (H : TS w wr h r m) {B : Nat} (hb : Below B wr w') (hB : w.heap.size + 1 + 1 < B) : TS w w' h r m :=
  ⟨H.h.keep (hb.block _ (by omega)), H.r.keep (hb.block _ (by omega)), H.m.keep (hb.block _ (by omega)), H.b.trans (hb.mono (by omega))⟩
def fn (h s : List UInt32) (k : Nat) : List UInt32 := Bl.fin h s k ++ h.drop k
theorem fn_len (h s : List UInt32) (k : Nat) (hh : h.length = 8) (hk : k ≤ 8) : (fn h s k).length = 8 := by simp [fn, Bl.len_fin]; omega
theorem fn_at (h s : List UInt32) (k : Nat) : (fn h s k).getD k 0 = h.getD k 0 := by
  have hl := Bl.len_fin h s k
  rw [List.getD_eq_getElem?_getD, List.getD_eq_getElem?_getD, fn, List.getElem?_append_right (by omega), hl, Nat.sub_self, List.getElem?_drop, Nat.add_zero]
theorem fn_set (h s : List UInt32) (k : Nat) (hh : h.length = 8) (hk : k < 8) : (fn h s k).set k (xor32 (h.getD k 0) (xor32 (s.getD k 0) (s.getD (k + 8) 0))) = fn h s (k + 1) := by
  have hl := Bl.len_fin h s k
  unfold fn
  rw [List.set_append_right _ _ (by omega), hl, Nat.sub_self, List.drop_eq_getElem_cons (by omega), List.set_cons_zero]
  simp [Bl.fin, List.range_succ]
theorem TS.setH {w wr : World} {h r m : List UInt32} (H : TS w wr h r m) (i : Nat) (x : UInt32) : TS w (wr.setCell ⟨w.heap.size, i, none⟩ (.int .u32 (x.toNat : Int))).drew (h.set i x) r m :=
  ⟨H.h.set i x, (H.r.far (p := ⟨w.heap.size, i, none⟩) (by simp) _), (H.m.far (p := ⟨w.heap.size, i, none⟩) (by simp; omega) _), below_drew (H.b.setCell (Nat.le_refl _) _)⟩
theorem all_u32 (l : List UInt32) : (l.map u32v).toArray.all (·.oneCell') = true := by
  rw [List.all_toArray]; exact List.all_eq_true.2 (one_u32 l)
theorem le_or {a b c d : UInt8} : bits .or .u32 (bits .or .u32 (bits .or .u32 (a.toNat : Int) ((b.toNat : Int) * 256)) ((c.toNat : Int) * 65536)) ((d.toNat : Int) * 16777216) = ((le32 a b c d).toNat : Int) := by
  have ha := u8_lt a
  have hb := u8_lt b
  have hc := u8_lt c
  have hd := u8_lt d
  have e1 : a.toNat ||| b.toNat * 256 = a.toNat + 256 * b.toNat := by
    have := Nat.shiftLeft_add_eq_or_of_lt (b := a.toNat) (i := 8) (by omega) b.toNat
    rw [Nat.shiftLeft_eq] at this
    simp only [Nat.reducePow] at this
    rw [Nat.or_comm]
    omega
  have e2 : (a.toNat + 256 * b.toNat) ||| c.toNat * 65536 = a.toNat + 256 * b.toNat + 65536 * c.toNat := by
    have := Nat.shiftLeft_add_eq_or_of_lt (b := a.toNat + 256 * b.toNat) (i := 16) (by omega) c.toNat
    rw [Nat.shiftLeft_eq] at this
    simp only [Nat.reducePow] at this
    rw [Nat.or_comm]
    omega
  have e3 : (a.toNat + 256 * b.toNat + 65536 * c.toNat) ||| d.toNat * 16777216 = a.toNat + 256 * b.toNat + 65536 * c.toNat + 16777216 * d.toNat := by
    have := Nat.shiftLeft_add_eq_or_of_lt (b := a.toNat + 256 * b.toNat + 65536 * c.toNat) (i := 24) (by omega) d.toNat
    rw [Nat.shiftLeft_eq] at this
    simp only [Nat.reducePow] at this
    rw [Nat.or_comm]
    omega
  rw [show (b.toNat : Int) * 256 = ((b.toNat * 256 : Nat) : Int) by omega, show (c.toNat : Int) * 65536 = ((c.toNat * 65536 : Nat) : Int) by omega, show (d.toNat : Int) * 16777216 = ((d.toNat * 16777216 : Nat) : Int) by omega,
    u32_or_nat _ _ (by omega) (by omega), e1, u32_or_nat _ _ (by omega) (by omega), e2, u32_or_nat _ _ (by omega) (by omega), e3, le32, UInt32.toNat_ofNat']
  omega

set_option maxRecDepth 100000 in
set_option maxHeartbeats 1000000 in
theorem take_any (h : List UInt32) (hh : h.length = 8) (g : Nat) (b : List UInt8) (hb : b.length = 64) (count : Nat) (last : Bool) (w : World) (hB : B8 w g b) (hG : Gl w) :
    Calls Tryd.prog 19 #[.agg (h.map u32v).toArray, .pointer (some ⟨g, 0, none⟩), .int .u64 count, .bool last] w
      fun e w' => e = .returned (.agg ((Bl.press h b count last).map u32v).toArray) ∧ Below w.heap.size w w' := by
  have hg := hB.lt (by omega)
  have HB := Lib.hid hB
  have HG := Lib.hid hG
  have HL := Lib.hid hb
  have HH := Lib.hid hh
  clear hB hG hb
  obtain ⟨h0, h1, h2, h3, h4, h5, h6, h7, rfl⟩ : ∃ h0 h1 h2 h3 h4 h5 h6 h7, h = [h0, h1, h2, h3, h4, h5, h6, h7] := by
    match h, hh with
    | [h0, h1, h2, h3, h4, h5, h6, h7], _ => exact ⟨_, _, _, _, _, _, _, _, rfl⟩
  clear hh
  simp only [List.map_cons, List.map_nil]
  go_enter Tryd.func19, Tryd.ntmps19
  go_wp2
  go_loopw [15] (fun i wr => ∃ k : Nat, k ≤ 16 ∧ i = .int .i64 k ∧ TS w wr [h0, h1, h2, h3, h4, h5, h6, h7] [0, 0, 0, 0, 0, 0, 0, 0] (mk b k)) (fun i _ => 16 - (intOf i).toNat)
  case atStart =>
    refine ⟨0, by omega, rfl, ?_, ?_, ?_, ?_⟩
    · exact (heap_alloc_old _ _ (by simp; omega)).trans ((heap_alloc_old _ _ (by simp)).trans (heap_alloc_new w _))
    · exact (heap_alloc_old _ _ (by simp)).trans (alloc_at _ _ (by simp))
    · exact alloc_at _ _ (by simp)
    · exact (((Below.refl _ _).alloc (Nat.le_refl _) _).alloc (by simp) _).alloc (by simp; omega) _
  case round =>
    obtain ⟨k, hk, rfl, hT⟩ := hrel
    have HT := Lib.hid hT
    clear hT
    by_cases hlt : k < 16
    · have hi1 : (k : Int) < 16 := by omega
      have c0 := (HB.out.keep (HT.out.b.block g hg)) (4 * k) (by rw [HL.out]; omega)
      have c1 := (HB.out.keep (HT.out.b.block g hg)) (4 * k + 1) (by rw [HL.out]; omega)
      have c2 := (HB.out.keep (HT.out.b.block g hg)) (4 * k + 2) (by rw [HL.out]; omega)
      have c3 := (HB.out.keep (HT.out.b.block g hg)) (4 * k + 3) (by rw [HL.out]; omega)
      obtain ⟨x, ex, hx, hf⟩ := HT.out.m.get (i := k) (by rw [mk_len _ _ hk]; omega)
      clear ex
      generalize hX0 : b.getD (4 * k) 0 = x0 at c0
      generalize hX1 : b.getD (4 * k + 1) 0 = x1 at c1
      generalize hX2 : b.getD (4 * k + 2) 0 = x2 at c2
      generalize hX3 : b.getD (4 * k + 3) 0 = x3 at c3
      have HX : Hid (Bl.wordAt b k = le32 x0 x1 x2 x3) := by unfold Bl.wordAt; rw [hX0, hX1, hX2, hX3]; rfl
      clear hX0 hX1 hX2 hX3
      have l0 := u8_lt x0
      have l1 := u8_lt x1
      have l2 := u8_lt x2
      have l3 := u8_lt x3
      go_wp2
      refine region_tail 39 (by kernel_rfl) (by kernel_rfl) ?_
      simp only [List.take_succ_cons, List.take_zero, List.drop_succ_cons, List.drop_zero]
      have ha0 : 0 ≤ 4 * (k : Int) := by omega
      have hb0 : 4 * (k : Int) < 64 := by omega
      have ht0 : (4 * (k : Int)).toNat = 4 * k := by omega
      have ha1 : 0 ≤ 4 * (k : Int) + 1 := by omega
      have hb1 : 4 * (k : Int) + 1 < 64 := by omega
      have ht1 : (4 * (k : Int) + 1).toNat = 4 * k + 1 := by omega
      have ha2 : 0 ≤ 4 * (k : Int) + 2 := by omega
      have hb2 : 4 * (k : Int) + 2 < 64 := by omega
      have ht2 : (4 * (k : Int) + 2).toNat = 4 * k + 2 := by omega
      have ha3 : 0 ≤ 4 * (k : Int) + 3 := by omega
      have hb3 : 4 * (k : Int) + 3 < 64 := by omega
      have ht3 : (4 * (k : Int) + 3).toNat = 4 * k + 3 := by omega
      have hw0 : IntKind.i64.wrap (4 * (k : Int)) = 4 * (k : Int) := IntWalk.i64_in _ (by omega)
      have hw1 : IntKind.i64.wrap (4 * (k : Int) + 1) = 4 * (k : Int) + 1 := IntWalk.i64_in _ (by omega)
      have hw2 : IntKind.i64.wrap (4 * (k : Int) + 2) = 4 * (k : Int) + 2 := IntWalk.i64_in _ (by omega)
      have hw3 : IntKind.i64.wrap (4 * (k : Int) + 3) = 4 * (k : Int) + 3 := IntWalk.i64_in _ (by omega)
      have hv0 : IntKind.u32.wrap (x0.toNat : Int) = (x0.toNat : Int) := by rw [IntKind.wrap_u32']; omega
      have hv1 : IntKind.u32.wrap (x1.toNat : Int) = (x1.toNat : Int) := by rw [IntKind.wrap_u32']; omega
      have hv2 : IntKind.u32.wrap (x2.toNat : Int) = (x2.toNat : Int) := by rw [IntKind.wrap_u32']; omega
      have hv3 : IntKind.u32.wrap (x3.toNat : Int) = (x3.toNat : Int) := by rw [IntKind.wrap_u32']; omega
      have hm1 : IntKind.u32.wrap ((x1.toNat : Int) * 256) = (x1.toNat : Int) * 256 := by rw [IntKind.wrap_u32']; omega
      have hm2 : IntKind.u32.wrap ((x2.toNat : Int) * 65536) = (x2.toNat : Int) * 65536 := by rw [IntKind.wrap_u32']; omega
      have hm3 : IntKind.u32.wrap ((x3.toNat : Int) * 16777216) = (x3.toNat : Int) * 16777216 := by rw [IntKind.wrap_u32']; omega
      have hor := @le_or x0 x1 x2 x3
      repeat still_step
      refine wpStill_nil ?_
      clear hv0 hv1 hv2 hv3 hm1 hm2 hm3 hor hw0 hw1 hw2 hw3 ht0 ht1 ht2 ht3
      go_wp2
      go_roundw
      case rel =>
        refine ⟨k + 1, by omega, by go_num, ?_⟩
        rw [← mk_set b k hlt, HX.out]
        exact HT.out.setM k _
      case measure => simp [intOf]; omega
    · obtain rfl : k = 16 := by omega
      rw [show ((16 : Nat) : Int) = 16 from rfl]
      go_wp2
      have hGs : w.heap.size + 1 + 1 < wr.heap.size := HT.out.m.lt
      have hP : W32 (wr.alloc (.cells #[.int .u32 0, .int .u32 0, .int .u32 0, .int .u32 0, .int .u32 0, .int .u32 0, .int .u32 0, .int .u32 0, .int .u32 0, .int .u32 0, .int .u32 0, .int .u32 0, .int .u32 0, .int .u32 0, .int .u32 0, .int .u32 0] 49)) wr.heap.size 49 [0, 0, 0, 0, 0, 0, 0, 0, 0, 0, 0, 0, 0, 0, 0, 0] := heap_alloc_new wr _
      have hT1 := HT.out.alloc (.cells #[.int .u32 0, .int .u32 0, .int .u32 0, .int .u32 0, .int .u32 0, .int .u32 0, .int .u32 0, .int .u32 0, .int .u32 0, .int .u32 0, .int .u32 0, .int .u32 0, .int .u32 0, .int .u32 0, .int .u32 0, .int .u32 0] 49)
      have hZ : wr.heap.size < (wr.alloc (.cells #[.int .u32 0, .int .u32 0, .int .u32 0, .int .u32 0, .int .u32 0, .int .u32 0, .int .u32 0, .int .u32 0, .int .u32 0, .int .u32 0, .int .u32 0, .int .u32 0, .int .u32 0, .int .u32 0, .int .u32 0, .int .u32 0] 49)).heap.size := by simp
      generalize wr.alloc (.cells #[.int .u32 0, .int .u32 0, .int .u32 0, .int .u32 0, .int .u32 0, .int .u32 0, .int .u32 0, .int .u32 0, .int .u32 0, .int .u32 0, .int .u32 0, .int .u32 0, .int .u32 0, .int .u32 0, .int .u32 0, .int .u32 0] 49) = w1 at hP hT1 hZ ⊢
      generalize wr.heap.size = G at hGs hP hZ ⊢
      clear HT
      have HP := Lib.hid hP
      have HT := Lib.hid hT1
      clear hP hT1
      refine region_tail 2 (by kernel_rfl) (by kernel_rfl) ?_
      simp only [List.take_succ_cons, List.take_zero, List.drop_succ_cons, List.drop_zero]
      repeat still_step
      refine wpStill_nil ?_
      refine wpList_copy_splice rfl (.tmp 58) (.tmp 59) _ _ rfl 34 Tryd.underlying45 (by kernel_rfl) (some ⟨G, 0, none⟩) (some ⟨w.heap.size, 0, none⟩) 8 16 8 8 (by kernel_rfl) (by kernel_rfl) G 0 _ 49 HP.out (([h0, h1, h2, h3, h4, h5, h6, h7] : List UInt32).map u32v) rfl ?_ (by simp) (one_u32 _) G w1 (below_drew (Below.refl _ _)) (Nat.le_refl _) ?_
      · exact fun _ => ⟨rfl, _, rfl, HT.out.h.addr⟩
      intro w2 hP2 hb2
      go_frame
      have hQ2 : W32 w2 G 49 [h0, h1, h2, h3, h4, h5, h6, h7, 0, 0, 0, 0, 0, 0, 0, 0] := W32.mk_ hP2.out rfl
      have HP2 := Lib.hid hQ2
      have HB2 := Lib.hid hb2
      clear hP2 hQ2 hb2
      go_wp2_with fail
      refine region_tail 2 (by kernel_rfl) (by kernel_rfl) ?_
      simp only [List.take_succ_cons, List.take_zero, List.drop_succ_cons, List.drop_zero]
      repeat still_step
      refine wpStill_nil ?_
      refine wpList_copy_splice rfl (.tmp 61) (.tmp 62) _ _ rfl 34 Tryd.underlying45 (by kernel_rfl) (some ⟨G, 8, none⟩) (some ⟨0, 0, none⟩) 8 8 8 8 (by kernel_rfl) (by kernel_rfl) G 8 _ 49 HP2.out (Bl.begins.map u32v) rfl ?_ (by simp [Bl.begins]) (one_u32 _) G w1 (below_drew HB2.out) (Nat.le_refl _) ?_
      · exact fun _ => ⟨rfl, _, rfl, (HG.out.below (HT.out.b.trans (HB2.out.mono (by omega))) (Nat.le_refl _)).addr⟩
      intro w3 hP3 hb3
      go_frame
      have hQ3 : W32 w3 G 49 ([h0, h1, h2, h3, h4, h5, h6, h7] ++ Bl.begins) := W32.mk_ hP3.out rfl
      have HP3 := Lib.hid hQ3
      have HB3 := Lib.hid hb3
      clear hP3 hQ3 hb3 HP2 HB2 HP
      obtain ⟨x12, e12, c12, f12⟩ := HP3.out.get (i := 12) (by simp [Bl.begins])
      obtain ⟨x13, e13, c13, f13⟩ := HP3.out.get (i := 13) (by simp [Bl.begins])
      have hcw : IntKind.u32.wrap (count : Int) = ((UInt32.ofNat count).toNat : Int) := by rw [IntKind.wrap_u32']; simp
      have hcv : IntKind.u32.wrap ((count : Int) / 4294967296) = ((UInt32.ofNat (count / 4294967296)).toNat : Int) := by rw [IntKind.wrap_u32']; simp
      generalize hz1 : UInt32.ofNat count = z1 at hcw
      generalize hz2 : UInt32.ofNat (count / 4294967296) = z2 at hcv
      have HZ1 := Lib.hid hz1
      have HZ2 := Lib.hid hz2
      clear hz1 hz2
      go_upto_if 77 with (fail)
      have hP4 := (HP3.out.set 12 (xor32 x12 z1)).set 13 (xor32 x13 z2)
      have hb4 := (HB3.out.setCell (p := ⟨G, 12, none⟩) (Nat.le_refl _) (.int .u32 ((xor32 x12 z1).toNat : Int))).setCell (p := ⟨G, 13, none⟩) (Nat.le_refl _) (.int .u32 ((xor32 x13 z2).toNat : Int))
      generalize (w3.setCell ⟨G, 12, none⟩ (.int .u32 ((xor32 x12 z1).toNat : Int))).setCell ⟨G, 13, none⟩ (.int .u32 ((xor32 x13 z2).toNat : Int)) = w4 at hP4 hb4 ⊢
      have HP4 := Lib.hid hP4
      have HB4 := Lib.hid hb4
      clear hP4 hb4 c12 f12 c13 f13 hcw hcv HP3 HB3
      obtain ⟨x14, e14, c14, f14⟩ := HP4.out.get (i := 14) (by simp [Bl.begins])
      have HST : Hid (Bl.start [h0, h1, h2, h3, h4, h5, h6, h7] count last = if last then ((([h0, h1, h2, h3, h4, h5, h6, h7] ++ Bl.begins).set 12 (xor32 x12 z1)).set 13 (xor32 x13 z2)).set 14 (not32 x14) else (([h0, h1, h2, h3, h4, h5, h6, h7] ++ Bl.begins).set 12 (xor32 x12 z1)).set 13 (xor32 x13 z2)) := by
        have a1 := e12.out; have a2 := e13.out; have a3 := e14.out; have a4 := HZ1.out; have a5 := HZ2.out
        subst a4 a5 a3 a2 a1
        rfl
      go_cut [77] (fun _ wx => W32 wx G 49 (Bl.start [h0, h1, h2, h3, h4, h5, h6, h7] count last) ∧ Below G w1 wx)
      case first =>
        cases last
        · go_wp2_with fail
          go_meet
          exact ⟨by rw [HST.out]; exact HP4.out, HB4.out⟩
        · go_wp2_with fail
          go_meet
          exact ⟨by rw [HST.out]; exact HP4.out.set 14 _, HB4.out.setCell (p := ⟨G, 14, none⟩) (Nat.le_refl _) _⟩
      case rest =>
        obtain ⟨hP5, hb5⟩ := hcut
        have HP5 := Lib.hid hP5
        have HB5 := Lib.hid hb5
        clear hP5 hb5 c14 f14 e14 e12 e13 HZ1 HZ2 HST HP4 HB4
        have hG5 := (HG.out.below (HT.out.b.trans (HB5.out.mono (by omega))) (Nat.le_refl _)).orders
        obtain ⟨s0, o0, O0⟩ := hG5 0 (by omega)
        obtain ⟨s1, o1, O1⟩ := hG5 1 (by omega)
        obtain ⟨s2, o2, O2⟩ := hG5 2 (by omega)
        obtain ⟨s3, o3, O3⟩ := hG5 3 (by omega)
        obtain ⟨s4, o4, O4⟩ := hG5 4 (by omega)
        obtain ⟨s5, o5, O5⟩ := hG5 5 (by omega)
        obtain ⟨s6, o6, O6⟩ := hG5 6 (by omega)
        obtain ⟨s7, o7, O7⟩ := hG5 7 (by omega)
        obtain ⟨s8, o8, O8⟩ := hG5 8 (by omega)
        obtain ⟨s9, o9, O9⟩ := hG5 9 (by omega)
        have HO : Hid (∀ i : Nat, i < 10 → ∃ ba : ByteArray, (∀ w, (Instr.index 50 (.agg #[Value.string s0, .string s1, .string s2, .string s3, .string s4, .string s5, .string s6, .string s7, .string s8, .string s9]) (.int .i64 (i : Int))).run Tryd.prog w = .ok (.string ba) w) ∧ ba.size = 16 ∧ ba.data.toList.map dig = Bl.orders.getD i [] ∧ ∀ (j : Nat) (c : UInt8), ba.data.toList[j]? = some c → 48 ≤ c.toNat ∧ dig c < 16) := by
          intro i hi
          match i, hi with
          | 0, _ => exact ⟨s0, fun _ => by kernel_rfl, O0⟩
          | 1, _ => exact ⟨s1, fun _ => by kernel_rfl, O1⟩
          | 2, _ => exact ⟨s2, fun _ => by kernel_rfl, O2⟩
          | 3, _ => exact ⟨s3, fun _ => by kernel_rfl, O3⟩
          | 4, _ => exact ⟨s4, fun _ => by kernel_rfl, O4⟩
          | 5, _ => exact ⟨s5, fun _ => by kernel_rfl, O5⟩
          | 6, _ => exact ⟨s6, fun _ => by kernel_rfl, O6⟩
          | 7, _ => exact ⟨s7, fun _ => by kernel_rfl, O7⟩
          | 8, _ => exact ⟨s8, fun _ => by kernel_rfl, O8⟩
          | 9, _ => exact ⟨s9, fun _ => by kernel_rfl, O9⟩
        clear O0 O1 O2 O3 O4 O5 O6 O7 O8 O9 hG5
        have hM : W32 wc (w.heap.size + 1 + 1) 48 (Bl.words b 16) := by
          have := (HT.out.below HB5.out hGs).m
          simpa [mk] using this
        have HM := Lib.hid hM
        have hsl : (Bl.start [h0, h1, h2, h3, h4, h5, h6, h7] count last).length = 16 := by cases last <;> rfl
        have HSL := Lib.hid hsl
        clear hM hsl
        go_wp2_with fail
        go_loopw [83] (fun i wr => ∃ k : Nat, k ≤ 10 ∧ i = .int .i64 k ∧ W32 wr G 49 (Bl.rounds (Bl.start [h0, h1, h2, h3, h4, h5, h6, h7] count last) (Bl.words b 16) k) ∧ Fr (· = G) wc wr) (fun i _ => 10 - (intOf i).toNat)
        case atStart => exact ⟨0, by omega, rfl, HP5.out, Fr.refl⟩
        case round =>
          obtain ⟨k, hk, rfl, hW, hF⟩ := hrel
          have HW := Lib.hid hW
          have HF := Lib.hid hF
          clear hW hF o0 o1 o2 o3 o4 o5 o6 o7 o8 o9
          by_cases hlt : k < 10
          · obtain ⟨ba, hix, hsz, hmp, hdg⟩ := HO.out k hlt
            have hi1 : (k : Int) < 10 := by omega
            have HS1 := Lib.hid hsz
            have HS2 := Lib.hid hmp
            have HS3 := Lib.hid hdg
            clear hsz hmp hdg
            go_wp2_with fail
            refine (round_any G (w.heap.size + 1 + 1) _ _ _ _ ba _ HW.out (HM.out.fr HF.out (by omega)) (by rw [Bl.len_rounds]; exact HSL.out) (by simp [Bl.words]) (by omega) HS1.out HS3.out).mono ?_
            rintro e w6 ⟨rfl, hW6, hF6⟩
            have HW6 := Lib.hid hW6
            have HF6 := Lib.hid hF6
            clear hW6 hF6
            go_wp2_with fail
            go_roundw
            case rel =>
              refine ⟨k + 1, by omega, by go_num, ?_, HF.out.trans HF6.out (fun _ _ h => h)⟩
              have := HW6.out
              rw [HS2.out] at this
              exact this
            case measure => simp [intOf]; omega
          · obtain rfl : k = 10 := by omega
            rw [show ((10 : Nat) : Int) = 10 from rfl]
            have hT6 : TS w wr [h0, h1, h2, h3, h4, h5, h6, h7] [0, 0, 0, 0, 0, 0, 0, 0] (mk b 16) := (HT.out.below HB5.out hGs).below (HF.out.below (B := G) (by have := HB5.out.size; omega) (fun _ h => by omega)) hGs
            have hrl : (Bl.rounds (Bl.start [h0, h1, h2, h3, h4, h5, h6, h7] count last) (Bl.words b 16) 10).length = 16 := by rw [Bl.len_rounds]; exact HSL.out
            have HPR : Hid (Bl.press [h0, h1, h2, h3, h4, h5, h6, h7] b count last = Bl.fin [h0, h1, h2, h3, h4, h5, h6, h7] (Bl.rounds (Bl.start [h0, h1, h2, h3, h4, h5, h6, h7] count last) (Bl.words b 16) 10) 8) := rfl
            have hWs := HW.out
            generalize Bl.rounds (Bl.start [h0, h1, h2, h3, h4, h5, h6, h7] count last) (Bl.words b 16) 10 = s at hWs hrl HPR
            have HWS := Lib.hid hWs
            have HT6 := Lib.hid hT6
            have HRL := Lib.hid hrl
            clear hWs hrl hT6 HW HF HO HSL HM HT HP5 HB5
            go_wp2_with fail
            go_loopw [89] (fun i wr => ∃ k : Nat, k ≤ 8 ∧ i = .int .i64 k ∧ TS w wr (fn [h0, h1, h2, h3, h4, h5, h6, h7] s k) [0, 0, 0, 0, 0, 0, 0, 0] (mk b 16) ∧ W32 wr G 49 s) (fun i _ => 8 - (intOf i).toNat)
            case atStart => exact ⟨0, by omega, rfl, HT6.out, HWS.out⟩
            case round =>
              clear HT6 HWS
              obtain ⟨k, hk, rfl, hT7, hW7⟩ := hrel
              have HT7 := Lib.hid hT7
              have HW7 := Lib.hid hW7
              clear hT7 hW7
              by_cases hlt : k < 8
              · have hi1 : (k : Int) < 8 := by omega
                obtain ⟨a1, ea1, ca1, fa1⟩ := HT7.out.h.get (i := k) (by rw [fn_len _ _ _ HH.out hk]; omega)
                obtain ⟨a2, ea2, ca2, _⟩ := HW7.out.get (i := k) (by rw [HRL.out]; omega)
                obtain ⟨a3, ea3, ca3, _⟩ := HW7.out.get (i := k + 8) (by rw [HRL.out]; omega)
                go_wp2_with fail
                have hi2 : (k : Int) + 8 < 16 := by omega
                have hi3 : (0 : Int) ≤ (k : Int) + 8 := by omega
                have hi4 : ((k : Int) + 8).toNat = k + 8 := by omega
                have hi5 : (k : Int) < 16 := by omega
                have hw1 : IntKind.i64.wrap ((k : Int) + 8) = (k : Int) + 8 := IntWalk.i64_in _ (by omega)
                refine region_tail 13 (by kernel_rfl) (by kernel_rfl) ?_
                simp only [List.take_succ_cons, List.take_zero, List.drop_succ_cons, List.drop_zero]
                repeat still_step
                refine wpStill_nil ?_
                clear hw1 hi4
                go_wp2
                go_roundw
                case rel =>
                  refine ⟨k + 1, by omega, by go_num, ?_, ?_⟩
                  · rw [← fn_set _ s k HH.out hlt]
                    have := HT7.out.setH k (xor32 a1 (xor32 a2 a3))
                    rw [← ea1.out, ← ea2.out, ← ea3.out, fn_at] at this
                    rw [← ea1.out, ← ea2.out, ← ea3.out, fn_at]
                    exact this
                  · exact (HW7.out.far (p := ⟨w.heap.size, k, none⟩) (by simp; omega) _)
                case measure => simp [intOf]; omega
              · obtain rfl : k = 8 := by omega
                rw [show ((8 : Nat) : Int) = 8 from rfl]
                have HF8 : Hid (fn [h0, h1, h2, h3, h4, h5, h6, h7] s 8 = Bl.press [h0, h1, h2, h3, h4, h5, h6, h7] b count last) := by rw [HPR.out]; show Bl.fin _ _ _ ++ [] = _; simp
                have hfl := fn_len [h0, h1, h2, h3, h4, h5, h6, h7] s 8 HH.out (by omega)
                have hT8 := HT7.out
                rw [HF8.out] at hT8 hfl
                generalize hpr : Bl.press [h0, h1, h2, h3, h4, h5, h6, h7] b count last = pr at hT8 hfl
                have HPE := Lib.hid hpr
                clear hpr
                have HT8 := Lib.hid hT8
                have HFL := Lib.hid hfl
                clear hT8 hfl HF8 HT7 HPR
                have hsz : ((pr.map u32v).toArray).size = 8 := by simp [HFL.out]
                have hin : (Tryd.prog.info? 38).map (·.size) = some ((pr.map u32v).toArray).size := by rw [hsz]; kernel_rfl
                have HSZ := Lib.hid hsz
                have HIN := Lib.hid hin
                clear hsz hin
                go_upto_region 24 with (fail)
                refine wp_region_lit ?_
                refine wpList_load_row rfl _ (.tmp 4) rfl w.heap.size rfl _ _ (0, 0) _ HT8.out.h Tryd.underlying38 rfl HIN.out ?_
                refine wpList_store_row rfl _ (.tmp 8) (.tmp 106) rfl (w.heap.size + 1) (pr.map u32v).toArray rfl rfl _ _ HT8.out.r HIN.out (by rw [HSZ.out]; rfl) (all_u32 pr) ?_
                go_frame
                go_wp2_with fail
                refine bodyPost_ret (results_cell_row (by rfl) _ _ (w.heap.size + 1) _ (pr.map u32v).toArray (0, 0) _ (by rfl) (setRow_heap _ _ _ _ _ _ HT8.out.r) Tryd.underlying38 rfl HIN.out) rfl ?_
                exact ⟨by rw [HPE.out], below_setRow HT8.out.b (by omega) _⟩
end Go.Proofs.YtdlbighnmbjofaaDoor
