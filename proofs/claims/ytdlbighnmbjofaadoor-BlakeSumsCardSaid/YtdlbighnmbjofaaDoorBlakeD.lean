/- The program's digests: under a key of at most 32 bytes. -/
import Derived.Test.YtdlbighnmbjofaaDoorBlakeC
import Derived.Test.YtdlbighnmbjofaaDoorZeros
import Derived.Laws.MakeOwn
import Derived.Deep.CutBlock
namespace Go.Proofs.YtdlbighnmbjofaaDoor
open Go Go.RowKit
attribute [local go_sem high] bop_add32 bop_xor32 bop_or32 uop_not32

theorem begun_eq (n : Nat) (h : n ≤ 32) : bits .xor .u32 (bits .xor .u32 16842752 ((n : Int) * 256)) 32 = ((xor32 (xor32 0x01010000 (UInt32.ofNat (256 * n))) 32).toNat : Int) := by
  have e1 : (n : Int) * 256 = (((UInt32.ofNat (256 * n)).toNat : Nat) : Int) := by
    rw [UInt32.toNat_ofNat']
    omega
  rw [e1, show (16842752 : Int) = (((0x01010000 : UInt32).toNat : Nat) : Int) from rfl, show (32 : Int) = (((32 : UInt32).toNat : Nat) : Int) from rfl, u32_xor_nat _ _ (u32_lt _) (u32_lt _), ← UInt32.toNat_xor, u32_xor_nat _ _ (u32_lt _) (u32_lt _), ← UInt32.toNat_xor]
  rfl

/-- A block of bytes, known whole. -/
def W8 (w : World) (g : Nat) (t : TypeId) (l : List UInt8) : Prop := w.heap[g]? = some (.cells (l.map u8v).toArray t (0, 0))
section
variable {w w' : World} {g : Nat} {t : TypeId} {s : List UInt8}
theorem W8.lt (h : W8 w g t s) : g < w.heap.size := (Array.getElem?_eq_some_iff.1 h).1
theorem W8.cell (h : W8 w g t s) {i : Nat} (hi : i < s.length) : w.cell? ⟨g, i, none⟩ = some (.int .u8 ((s.getD i 0).toNat : Int)) := by
  rw [cell_of_row w g i _ t (0, 0) h]
  simp [hi]
theorem W8.frozen (h : W8 w g t s) (i : Nat) : w.frozen? ⟨g, i, none⟩ = false := frozen_of_row w g i _ t h
theorem W8.set (h : W8 w g t s) (i : Nat) (x : UInt8) : W8 (w.setCell ⟨g, i, none⟩ (.int .u8 (x.toNat : Int))) g t (s.set i x) := by
  unfold W8 at h ⊢
  rw [heap_setCell_same w g i _ t _ h, List.map_set]
  simp
theorem W8.keep (h : W8 w g t s) (hk : w'.heap[g]? = w.heap[g]?) : W8 w' g t s := hk.trans h
theorem W8.far (h : W8 w g t s) {p : Addr} (hp : g ≠ p.block) (u : Value) : W8 (w.setCell p u) g t s := h.keep (Below.heap_setCell w p u g hp)
theorem W8.b8 (h : W8 w g t s) : B8 w g s := fun _ hi => h.cell hi
end
/-- The blocks of the call: the result, the words. -/
structure KS (w : World) (H : Nat) (wr : World) (h : List UInt32) : Prop where
  r : W8 wr w.heap.size 25 (List.replicate 32 0)
  h : W32 wr H 38 h
  b : Below w.heap.size w wr
  lt : w.heap.size < H
theorem KS.below {w wr w' : World} {H : Nat} {h : List UInt32} (K : KS w H wr h) {B : Nat} (hb : Below B wr w') (hB : H < B) : KS w H w' h :=
  ⟨K.r.keep (hb.block _ (by have := K.lt; omega)), K.h.keep (hb.block _ (by omega)), K.b.trans (hb.mono (by have := K.lt; omega)), K.lt⟩
theorem below_grown {B : Nat} {w w' : World} {row : Option Nat} (h : w.grownBy w' row) (hB : B ≤ w.heap.size) (hr : ∀ g, row = some g → B ≤ g) : Below B w w' :=
  (Below.refl _ _).grown h hB hr
theorem made_own (w : World) (base c : Nat) (hb : base ≤ w.heap.size) (hc : c ≤ maxLen) : OwnB (w.alloc (.cells (madeCells (Value.int .u8 0).cells c) 5)) base (.slice (some ⟨w.heap.size, 0, none⟩) 0 c) [] :=
  ⟨rfl, .inr ⟨w.heap.size, c, _, rfl, hb, heap_alloc_new w _, Nat.zero_le _, hc, by rw [size_madeCells, Nat.mul_one], by simp⟩⟩
theorem make_b (w : World) (kl kc : IntKind) (c : Int) (hc : 0 ≤ c) (h : c ≤ 100000000000000) : (Instr.makeSlice 22 (.int kl 0) (.int kc c)).run Tryd.prog w = .ok (.slice (some ⟨w.heap.size, 0, none⟩) 0 c.toNat) (w.alloc (.cells (madeCells (Value.int .u8 0).cells c.toNat) 5)) := by
  obtain ⟨i, hi, hz, hs1, hb1⟩ := info_parts info_u8
  have := run_make (P := Tryd.prog) w 22 5 i _ Tryd.underlying22 hi hz kl kc 0 c (by omega) hc (by rw [hb1]; omega) (by omega)
  rw [hs1, Nat.mul_one] at this
  exact this

theorem Rd.alloc {w : World} {S : Nat → Prop} {size : Nat} {A : Option Addr} {n : Nat} {xs : List Value} (h : Rd w S size A n xs) (o : Obj) : Rd (w.alloc o) S size A n xs := h.keep fun _ hg _ => heap_alloc_old w o hg

def sliceLen : Value → Nat
  | .slice _ n _ => n
  | _ => 0
theorem absorb_last (f : Nat) (h : List UInt32) (t : List UInt8) (c : Nat) (hl : t.length ≤ 64) (hf : 0 < f) : Bl.absorb f h t c = Bl.press h (Bl.piece t) (c + t.length) true := by
  cases f with
  | zero => omega
  | succ f =>
    unfold Bl.absorb
    rw [Nat.min_eq_right hl, if_pos hl, decide_eq_true hl]
theorem absorb_more (f : Nat) (h : List UInt32) (t : List UInt8) (c : Nat) (hl : ¬ t.length ≤ 64) : Bl.absorb (f + 1) h t c = Bl.absorb f (Bl.press h (Bl.piece t) (c + 64) false) (t.drop 64) (c + 64) := by
  conv => lhs; unfold Bl.absorb
  rw [Nat.min_eq_left (by omega), if_neg hl, decide_eq_false hl]
theorem len_press (h : List UInt32) (b : List UInt8) (c : Nat) (l : Bool) : (Bl.press h b c l).length = 8 := Bl.len_fin _ _ _
theorem len_absorb : ∀ (f : Nat) (h : List UInt32) (t : List UInt8) (c : Nat), h.length = 8 → (Bl.absorb f h t c).length = 8
  | 0, _, _, _, hh => hh
  | f + 1, h, t, c, _ => by
    unfold Bl.absorb
    split
    · exact len_press _ _ _ _
    · exact len_absorb f _ _ _ (len_press _ _ _ _)
theorem len_piece (t : List UInt8) : (Bl.piece t).length = 64 := by simp [Bl.piece]; omega
theorem piece_eq (t : List UInt8) : splice ((List.replicate 64 (0 : UInt8)).map u8v) 0 ((t.take 64).map u8v) = (Bl.piece t).map u8v := by
  have e : 64 - min 64 t.length = 64 - t.length := by omega
  have h : ∀ n : Nat, splice ((List.replicate n (0 : UInt8)).map u8v) 0 ((t.take n).map u8v) = (t.take n ++ List.replicate (n - min n t.length) 0).map u8v := by
    intro n
    simp [splice]
  rw [h 64, e]
  rfl
theorem Rd.srcs {w : World} {S : Nat → Prop} {A : Option Addr} {t : List UInt8} (h : Rd w S 1 A t.length (t.map u8v)) (k : Nat) (h0 : 0 < ((t.take k).map u8v).length) : ∃ ad, A = some ad ∧ ∀ j v, ((t.take k).map u8v)[j]? = some v → w.cell? (ad.add j) = some v := by
  obtain ⟨g, o, rfl, _, hc⟩ := h.2 (by rw [List.length_map, List.length_take] at h0; omega)
  refine ⟨_, rfl, fun j v hv => ?_⟩
  have hadd : (⟨g, o, none⟩ : Addr).add j = ⟨g, o + j, none⟩ := by unfold Addr.add; split <;> simp_all
  rw [hadd]
  refine hc j v ?_
  rw [List.map_take, List.getElem?_take] at hv
  split at hv
  · exact hv
  · cases hv
theorem copy_piece {S : Nat → Prop} {w : World} {ops : Array Oper} {rest : List Oper} {o : Oper} {a : Act} {Q : Exit → Act → World → Prop} (hgd : o.guard = none) (d s : Operand)
    (ho : o.op = .call { callee := .builtin .copy, args := #[d, s], argTypes := #[22, 22] }) (P : Nat) (T : TypeId) (A : Option Addr) (c : Nat) (t : List UInt8)
    (hd : a.eval d = .slice (some ⟨P, 0, none⟩) 64 64) (hs : a.eval s = .slice A t.length c) (hP : W8 w P T (List.replicate 64 0)) (hR : Rd w S 1 A t.length (t.map u8v)) (B : Nat) (w0 : World) (hb : Below B w0 w) (hBP : B ≤ P)
    (h : ∀ w', W8 w' P T (Bl.piece t) → Below B w0 w' → wpList Tryd.prog ops Q rest (a.put o.dst (.int .i64 ((min 64 t.length : Nat) : Int))) w') : wpList Tryd.prog ops Q (o :: rest) a w := by
  have hl : ((t.take 64).map u8v).length = min 64 t.length := by simp
  refine wpList_copy_splice hgd d s _ _ ho 5 Tryd.underlying22 (by kernel_rfl) _ _ 64 64 t.length c hd hs P 0 _ T hP ((t.take 64).map u8v) (hl.trans (Nat.min_comm _ _)) (fun h0 => ⟨rfl, hR.srcs 64 h0⟩) (by rw [hl]; simp; omega) (one_u8 _) B w0 hb hBP (fun w' h1 h2 => ?_)
  rw [hl]
  refine h w' ?_ h2
  have := h1.out
  rw [piece_eq] at this
  exact this
theorem KS.setH {w wr : World} {H : Nat} {h h' : List UInt32} (K : KS w H wr h) : KS w H (wr.setRow H (h'.map u32v).toArray) h' :=
  ⟨K.r.keep (setRow_other _ _ _ _ (by have := K.lt; omega)), setRow_heap _ _ _ _ _ _ K.h, below_setRow K.b (by have := K.lt; omega) _, K.lt⟩
theorem Bs.other {w : World} {g : Nat} {v : Value} {l : List UInt8} (h : Bs w (· ≠ g) v l) (cs : Array Value) : Bs (w.setRow g cs) (· ≠ g) v l := h.keep fun _ _ hk => setRow_other _ _ _ _ hk
theorem info_words : (Tryd.prog.info? 38).map (·.size) = some 8 := by kernel_rfl

theorem info_words_of {h : List UInt32} (hh : h.length = 8) : (Tryd.prog.info? 38).map (·.size) = some (h.map u32v).toArray.size := by
  rw [info_words]; simp [hh]
theorem take_at (h : List UInt32) (hh : h.length = 8) (g : Nat) (b : List UInt8) (hb : b.length = 64) (z : Int) (count : Nat) (hz : z = count) (last : Bool) (w : World) (hB : B8 w g b) (hG : Gl w) :
    Calls Tryd.prog 19 #[.agg (h.map u32v).toArray, .pointer (some ⟨g, 0, none⟩), .int .u64 z, .bool last] w
      fun e w' => e = .returned (.agg ((Bl.press h b count last).map u32v).toArray) ∧ Below w.heap.size w w' := by
  subst hz
  exact take_any h hh g b hb count last w hB hG

def outk (h : List UInt32) (k : Nat) : List UInt8 := Bl.out h k ++ List.replicate (32 - k) 0
theorem outk_len (h : List UInt32) (k : Nat) (hk : k ≤ 32) : (outk h k).length = 32 := by simp [outk, Bl.len_out]; omega
theorem outk_set (h : List UInt32) (k : Nat) (hk : k < 32) : (outk h k).set k (UInt8.ofNat ((h.getD (k / 4) 0).toNat / 2 ^ (8 * (k % 4)))) = outk h (k + 1) := by
  have hl := Bl.len_out h k
  unfold outk
  rw [List.set_append_right _ _ (by omega), hl, Nat.sub_self, show 32 - k = (32 - (k + 1)) + 1 by omega, List.replicate_succ, List.set_cons_zero]
  simp [Bl.out, List.range_succ]
theorem KS.far {w wr : World} {H : Nat} {h : List UInt32} (K : KS w H wr h) {p : Addr} (hp : H < p.block) (u : Value) : KS w H (wr.setCell p u) h :=
  ⟨K.r.far (by have := K.lt; omega) u, K.h.far (by omega) u, K.b.setCell (by have := K.lt; omega) u, K.lt⟩
theorem all_u8 (l : List UInt8) : (l.map u8v).toArray.all (·.oneCell') = true := by
  rw [List.all_toArray]; exact List.all_eq_true.2 (one_u8 l)
theorem info_hash : (Tryd.prog.info? 25).map (·.size) = some 32 := by kernel_rfl

def keyedPost (w : World) (out : List UInt8) (e : Ending) (w' : World) : Prop := e = .returned (.agg (out.map u8v).toArray) ∧ Below w.heap.size w w'

theorem info_hash_of {l : List UInt8} (hl : l.length = 32) : (Tryd.prog.info? 25).map (·.size) = some (l.map u8v).toArray.size := by rw [info_hash]; simp [hl]
def kk (key : List UInt8) : List UInt8 := if key.length ≤ 32 then key else Bl.sum key
theorem kk_len (key : List UInt8) : (kk key).length ≤ 32 := by
  unfold kk
  split
  · assumption
  · rw [Bl.len_sum]; omega
theorem keyed_kk (key b : List UInt8) : Bl.keyed key b = Bl.keyed32 (kk key) b := by unfold Bl.keyed kk; split <;> rfl

set_option maxRecDepth 100000 in
set_option maxHeartbeats 1000000 in
theorem keyed_gen {S S' : Nat → Prop} (kv bv : Value) (key b : List UInt8) (w : World) (hk : Bs w S kv key) (hb : Bs w S' bv b) (hbl : b.length ≤ 1000000000000) (hG : Gl w)
    (hsum : 32 < key.length → ∀ W, Bs W S kv key → Gl W → Calls Tryd.prog 8 #[kv] W (keyedPost W (Bl.sum key))) :
    Calls Tryd.prog 9 #[kv, bv] w (keyedPost w (Bl.keyed key b)) := by
  rw [keyed_kk]
  obtain ⟨Ak, ck, rfl, hck, hck2, hrk⟩ := hk.op
  obtain ⟨Ab, cb, rfl, hcb, hcb2, hrb⟩ := hb.op
  have HK := Lib.hid hrk
  have HB := Lib.hid hrb
  have HG := Lib.hid hG
  have HS := Lib.hid hsum
  clear hk hb hrk hrb hsum hG
  go_enter Tryd.func9, Tryd.ntmps9
  go_upto_if 15 with (fail)
  go_cut [0] (fun v wx => ∃ kv', v = kv' ∧ Bs wx (fun _ => True) kv' (kk key) ∧ W8 wx w.heap.size 25 (List.replicate 32 0) ∧ Below w.heap.size w wx)
  case first =>
    have hR : W8 (w.alloc (.cells #[.int .u8 0, .int .u8 0, .int .u8 0, .int .u8 0, .int .u8 0, .int .u8 0, .int .u8 0, .int .u8 0, .int .u8 0, .int .u8 0, .int .u8 0, .int .u8 0, .int .u8 0, .int .u8 0, .int .u8 0, .int .u8 0, .int .u8 0, .int .u8 0, .int .u8 0, .int .u8 0, .int .u8 0, .int .u8 0, .int .u8 0, .int .u8 0, .int .u8 0, .int .u8 0, .int .u8 0, .int .u8 0, .int .u8 0, .int .u8 0, .int .u8 0, .int .u8 0] 25)) w.heap.size 25 (List.replicate 32 0) := heap_alloc_new w _
    have hB : Below w.heap.size w (w.alloc (.cells #[.int .u8 0, .int .u8 0, .int .u8 0, .int .u8 0, .int .u8 0, .int .u8 0, .int .u8 0, .int .u8 0, .int .u8 0, .int .u8 0, .int .u8 0, .int .u8 0, .int .u8 0, .int .u8 0, .int .u8 0, .int .u8 0, .int .u8 0, .int .u8 0, .int .u8 0, .int .u8 0, .int .u8 0, .int .u8 0, .int .u8 0, .int .u8 0, .int .u8 0, .int .u8 0, .int .u8 0, .int .u8 0, .int .u8 0, .int .u8 0, .int .u8 0, .int .u8 0] 25)) := (Below.refl _ _).alloc (Nat.le_refl _) _
    generalize w.alloc (.cells #[.int .u8 0, .int .u8 0, .int .u8 0, .int .u8 0, .int .u8 0, .int .u8 0, .int .u8 0, .int .u8 0, .int .u8 0, .int .u8 0, .int .u8 0, .int .u8 0, .int .u8 0, .int .u8 0, .int .u8 0, .int .u8 0, .int .u8 0, .int .u8 0, .int .u8 0, .int .u8 0, .int .u8 0, .int .u8 0, .int .u8 0, .int .u8 0, .int .u8 0, .int .u8 0, .int .u8 0, .int .u8 0, .int .u8 0, .int .u8 0, .int .u8 0, .int .u8 0] 25) = w0 at hR hB ⊢
    have HR := Lib.hid hR
    have HB0 := Lib.hid hB
    clear hR hB
    by_cases hlong : key.length ≤ 32
    · have hd0 : decide (32 < key.length) = false := decide_eq_false (by omega)
      have hd1 : ¬ 32 < key.length := by omega
      have hd2 : ¬ (32 : Int) < (key.length : Int) := by omega
      go_wp2_with fail
      go_meet
      refine ⟨_, rfl, ?_, HR.out, HB0.out⟩
      rw [kk, if_pos hlong]
      exact Bs.mk ((HK.out.mono (fun _ _ _ => trivial)).below HB0.out (Nat.le_refl _)) hck hck2
    · have hd0 : decide (32 < key.length) = true := decide_eq_true (by omega)
      have hd1 : 32 < key.length := by omega
      have hd2 : (32 : Int) < (key.length : Int) := by omega
      have hbs : Bs w0 S (.slice Ak key.length ck) key := Bs.mk (HK.out.below HB0.out (Nat.le_refl _)) hck hck2
      have hg0 := HG.out.below HB0.out (Nat.le_refl _)
      have HBS := Lib.hid hbs
      have HG0 := Lib.hid hg0
      have HSL := Lib.hid (Bl.len_sum key)
      clear hbs hg0
      go_wp2_with (first
        | (go_at_call 8; refine (HS.out hd1 _ HBS.out HG0.out).mono ?_; rintro e w1 ⟨rfl, hb1⟩; have HB1 := Lib.hid hb1; clear hb1)
        | (refine wpList_store_row rfl _ (.tmp 5) (.tmp 17) rfl w1.heap.size ((Bl.sum key).map u8v).toArray rfl rfl _ _ (heap_alloc_new w1 _) (info_hash_of HSL.out) (by simp [HSL.out]) (all_u8 _) ?_))
      go_meet
      have hB1 : Below w0.heap.size w0 ((w1.alloc (.cells #[.int .u8 0, .int .u8 0, .int .u8 0, .int .u8 0, .int .u8 0, .int .u8 0, .int .u8 0, .int .u8 0, .int .u8 0, .int .u8 0, .int .u8 0, .int .u8 0, .int .u8 0, .int .u8 0, .int .u8 0, .int .u8 0, .int .u8 0, .int .u8 0, .int .u8 0, .int .u8 0, .int .u8 0, .int .u8 0, .int .u8 0, .int .u8 0, .int .u8 0, .int .u8 0, .int .u8 0, .int .u8 0, .int .u8 0, .int .u8 0, .int .u8 0, .int .u8 0] 25)).setRow w1.heap.size ((Bl.sum key).map u8v).toArray) := below_setRow (HB1.out.alloc HB1.out.size _) HB1.out.size _
      refine ⟨_, rfl, ?_, HR.out.keep (hB1.block _ HR.out.lt), HB0.out.trans (hB1.mono HB0.out.size)⟩
      rw [kk, if_neg hlong]
      refine Bs.mk ⟨by simp [HSL.out], fun _ => ⟨w1.heap.size, 0, rfl, ⟨by simp [World.setRow], trivial⟩, fun j u hu => ?_⟩⟩ (Nat.le_refl _) (by omega)
      rw [Nat.zero_add, cell_of_row _ _ _ _ _ _ (setRow_heap _ _ _ _ _ _ (heap_alloc_new w1 _))]
      simpa using hu
  case rest =>
    obtain ⟨kv', rfl, hbk, hR, hB⟩ := hcut
    obtain ⟨wk, rfl⟩ : ∃ wk, wk = wc := ⟨_, rfl⟩
    have hwk : w.heap.size < wk.heap.size := hR.lt
    have hkl := kk_len key
    generalize hkk : kk key = key at hbk hkl
    have HKK := Lib.hid hkk
    clear hkk
    clear HS HK
    obtain ⟨Ak, ck, rfl, hck, hck2, hrk⟩ := hbk.op
    have HK := Lib.hid hrk
    have HR := Lib.hid hR
    have HB0 := Lib.hid hB
    have hG := HG.out.below hB (Nat.le_refl _)
    clear hbk hrk hR hB
    obtain ⟨x0, e0, hc0⟩ : ∃ x, Hid (Bl.begins.getD 0 0 = x) ∧ wk.cell? ⟨0, 0, none⟩ = some (.int .u32 (x.toNat : Int)) := ⟨_, rfl, hG.begins 0 (by omega)⟩
    obtain ⟨x1, e1, hc1⟩ : ∃ x, Hid (Bl.begins.getD 1 0 = x) ∧ wk.cell? ⟨0, 1, none⟩ = some (.int .u32 (x.toNat : Int)) := ⟨_, rfl, hG.begins 1 (by omega)⟩
    obtain ⟨x2, e2, hc2⟩ : ∃ x, Hid (Bl.begins.getD 2 0 = x) ∧ wk.cell? ⟨0, 2, none⟩ = some (.int .u32 (x.toNat : Int)) := ⟨_, rfl, hG.begins 2 (by omega)⟩
    obtain ⟨x3, e3, hc3⟩ : ∃ x, Hid (Bl.begins.getD 3 0 = x) ∧ wk.cell? ⟨0, 3, none⟩ = some (.int .u32 (x.toNat : Int)) := ⟨_, rfl, hG.begins 3 (by omega)⟩
    obtain ⟨x4, e4, hc4⟩ : ∃ x, Hid (Bl.begins.getD 4 0 = x) ∧ wk.cell? ⟨0, 4, none⟩ = some (.int .u32 (x.toNat : Int)) := ⟨_, rfl, hG.begins 4 (by omega)⟩
    obtain ⟨x5, e5, hc5⟩ : ∃ x, Hid (Bl.begins.getD 5 0 = x) ∧ wk.cell? ⟨0, 5, none⟩ = some (.int .u32 (x.toNat : Int)) := ⟨_, rfl, hG.begins 5 (by omega)⟩
    obtain ⟨x6, e6, hc6⟩ : ∃ x, Hid (Bl.begins.getD 6 0 = x) ∧ wk.cell? ⟨0, 6, none⟩ = some (.int .u32 (x.toNat : Int)) := ⟨_, rfl, hG.begins 6 (by omega)⟩
    obtain ⟨x7, e7, hc7⟩ : ∃ x, Hid (Bl.begins.getD 7 0 = x) ∧ wk.cell? ⟨0, 7, none⟩ = some (.int .u32 (x.toNat : Int)) := ⟨_, rfl, hG.begins 7 (by omega)⟩
    have hgl := hG.lt.1
    have HGc := Lib.hid hG
    clear hG
    have hx := begun_eq key.length hkl
    generalize hz : xor32 (xor32 0x01010000 (UInt32.ofNat (256 * key.length))) 32 = z at hx
    have HBG : Hid (Bl.begun key.length = [xor32 x0 z, x1, x2, x3, x4, x5, x6, x7]) := by
      have a0 := e0.out; have a1 := e1.out; have a2 := e2.out; have a3 := e3.out; have a4 := e4.out; have a5 := e5.out; have a6 := e6.out; have a7 := e7.out
      subst hz a0 a1 a2 a3 a4 a5 a6 a7
      rfl
    clear hz e0 e1 e2 e3 e4 e5 e6 e7
    go_upto_if 33 with (fail)
    go_cut [7] (fun v wx => ∃ tv, v = tv ∧ KS w wk.heap.size wx (Bl.begun key.length) ∧ Bs wx (· ≠ wk.heap.size) tv (Bl.text key b))
    case first =>
      have hks : KS w wk.heap.size (wk.alloc (.cells #[.int .u32 ((xor32 x0 z).toNat : Int), .int .u32 (x1.toNat : Int), .int .u32 (x2.toNat : Int), .int .u32 (x3.toNat : Int), .int .u32 (x4.toNat : Int), .int .u32 (x5.toNat : Int), .int .u32 (x6.toNat : Int), .int .u32 (x7.toNat : Int)] 38)) (Bl.begun key.length) := by
        refine ⟨HR.out.keep (heap_alloc_old _ _ hwk), ?_, HB0.out.alloc HB0.out.size _, hwk⟩
        rw [HBG.out]
        exact heap_alloc_new wk _
      have hlt : wk.heap.size < (wk.alloc (.cells #[.int .u32 ((xor32 x0 z).toNat : Int), .int .u32 (x1.toNat : Int), .int .u32 (x2.toNat : Int), .int .u32 (x3.toNat : Int), .int .u32 (x4.toNat : Int), .int .u32 (x5.toNat : Int), .int .u32 (x6.toNat : Int), .int .u32 (x7.toNat : Int)] 38)).heap.size := by simp
      have hkb : ∀ g, g < wk.heap.size → (wk.alloc (.cells #[.int .u32 ((xor32 x0 z).toNat : Int), .int .u32 (x1.toNat : Int), .int .u32 (x2.toNat : Int), .int .u32 (x3.toNat : Int), .int .u32 (x4.toNat : Int), .int .u32 (x5.toNat : Int), .int .u32 (x6.toNat : Int), .int .u32 (x7.toNat : Int)] 38)).heap[g]? = wk.heap[g]? := fun g hg => heap_alloc_old _ _ hg
      generalize (wk.alloc (.cells #[.int .u32 ((xor32 x0 z).toNat : Int), .int .u32 (x1.toNat : Int), .int .u32 (x2.toNat : Int), .int .u32 (x3.toNat : Int), .int .u32 (x4.toNat : Int), .int .u32 (x5.toNat : Int), .int .u32 (x6.toNat : Int), .int .u32 (x7.toNat : Int)] 38)) = w0 at hks hlt hkb ⊢
      have HKB : Hid (∀ g, g < wk.heap.size → w0.heap[g]? = wk.heap[g]?) := hkb
      have HKS := Lib.hid hks
      clear hkb hks hc0 hc1 hc2 hc3 hc4 hc5 hc6 hc7 hx HBG
      by_cases hk0 : key.length = 0
      · have hd0 : decide (0 < key.length) = false := decide_eq_false (by omega)
        have hd1 : ¬ 0 < key.length := by omega
        have HT : Hid (Bl.text key b = b) := by unfold Bl.text; rw [if_pos hk0]; rfl
        clear hk0
        go_wp2_with fail
        go_meet
        refine ⟨_, rfl, HKS.out, ?_⟩
        rw [HT.out]
        exact Bs.mk ((HB.out.mono (S' := (· ≠ wk.heap.size)) (fun g hg _ => by omega)).below HKS.out.b (Nat.le_refl _)) hcb hcb2
      · have hd0 : decide (0 < key.length) = true := decide_eq_true (by omega)
        have HT : Hid (Bl.text key b = key ++ List.replicate (64 - key.length) 0 ++ b) := by unfold Bl.text; rw [if_neg hk0]; rfl
        have hk1 : 0 < key.length := by omega
        clear hk0
        have hmk := fun W => make_b W .i64 .i64 (64 + (b.length : Int)) (by omega) (by omega)
        have hmx : (64 + (b.length : Int)).toNat ≤ maxLen := by simp only [maxLen]; omega
        have hl1 : ([] : List UInt8).length + key.length ≤ 1099511627776 := by simp; omega
        have hl2 : key.length + (64 - key.length) ≤ 1099511627776 := by omega
        have hl3 : (key ++ List.replicate (64 - key.length) 0).length + b.length ≤ 1099511627776 := by simp; omega
        go_wp2_with (first
          | (at_builtin; refine app_b rfl (.tmp 37) (.tmp 38) rfl w0.heap.size _ [] rfl (made_own w0 _ _ (Nat.le_refl _) hmx) _ Ak key.length ck key rfl ((HK.out.keep (w' := w0) (fun g hg _ => HKB.out g hg)).alloc _) hl1 (by simp) ?_; intro v1 w1 ho1 hg1 _; have hb1 : Below w0.heap.size w0 w1 := ((Below.refl _ _).alloc (Nat.le_refl _) _).grown hg1 (by simp) (fun g hg => by cases hg; exact Nat.le_refl _); simp only [List.nil_append] at ho1; clear hg1)
          | (at_builtin; refine app_zeros rfl (.tmp 39) (.tmp 42) rfl w0.heap.size _ key rfl ho1 .i64 _ (64 - key.length) (by omega) rfl (by omega) hk1 hl2 hb1.size ?_; intro v2 w2 ho2 hg2 _; have hb2 : Below w0.heap.size w0 w2 := hb1.grown hg2 hb1.size (fun g hg => (ho1.lt g hg).1); clear hg2)
          | (at_builtin; refine app_b rfl (.tmp 43) (.tmp 44) rfl w0.heap.size _ _ rfl ho2 S' Ab b.length cb b rfl ((HB.out.below HKS.out.b (Nat.le_refl _)).below hb2 (Nat.le_refl _)) hl3 hb2.size ?_; intro v3 w3 ho3 hg3 _; have hb3 : Below w0.heap.size w0 w3 := hb2.grown hg3 hb2.size (fun g hg => (ho2.lt g hg).1); clear hg3))
        go_meet
        refine ⟨_, rfl, HKS.out.below hb3 hlt, ?_⟩
        rw [HT.out]
        exact ho3.bs.mono (fun g _ hg => by omega)
    case rest =>
      obtain ⟨tv, rfl, hks, ht⟩ := hcut
      have HKS := Lib.hid hks
      have HT := Lib.hid ht
      have HRES : Hid (Bl.keyed32 key b = Bl.out (Bl.absorb ((Bl.text key b).length + 1) (Bl.begun key.length) (Bl.text key b) 0) 32) := rfl
      generalize hR : Bl.absorb ((Bl.text key b).length + 1) (Bl.begun key.length) (Bl.text key b) 0 = R at HRES
      have HR := Lib.hid hR
      have htl : (Bl.text key b).length ≤ 1000000000064 := by
        unfold Bl.text
        split
        · omega
        · simp; omega
      clear hks ht hR hc0 hc1 hc2 hc3 hc4 hc5 hc6 hc7 hx HBG HK HB
      have hrl : R.length = 8 := by rw [← HR.out]; exact len_absorb _ _ _ _ (by simp [Bl.begun, Bl.begins])
      have HRL := Lib.hid hrl
      clear hrl
      go_upto_block 0 with (fail)
      go_cut [6] (fun v wx => v = .pointer (some ⟨wk.heap.size, 0, none⟩) ∧ KS w wk.heap.size wx R)
      case first =>
        go_wp2_with fail
        go_loopw [7, 8] (fun v7 v8 wr => ∃ (tv : Value) (t : List UInt8) (h : List UInt32) (c f : Nat), v7 = tv ∧ v8 = .int .u64 c ∧ KS w wk.heap.size wr h ∧ Bs wr (· ≠ wk.heap.size) tv t ∧ t.length < f ∧ Bl.absorb f h t c = R ∧ h.length = 8 ∧ c + t.length ≤ 1000000000064) (fun v7 _ _ => sliceLen v7)
        case atStart => exact ⟨_, _, _, 0, _, rfl, rfl, HKS.out, HT.out, Nat.lt_succ_self _, HR.out, by simp [Bl.begun, Bl.begins], by omega⟩
        case round =>
          clear HKS HT HR
          obtain ⟨tv, t, h, c, f, rfl, rfl, hks, ht, hf, hR, hh, hcl⟩ := hrel
          obtain ⟨A, cp, rfl, hcp, hcp2, hr⟩ := ht.op
          have HKS := Lib.hid hks
          have HT := Lib.hid hr
          have HR := Lib.hid hR
          have HH := Lib.hid hh
          have hsz : wk.heap.size < wr.heap.size := hks.h.lt
          clear ht hks hR hh hr
          have hP : W8 (wr.alloc (.cells #[.int .u8 0, .int .u8 0, .int .u8 0, .int .u8 0, .int .u8 0, .int .u8 0, .int .u8 0, .int .u8 0, .int .u8 0, .int .u8 0, .int .u8 0, .int .u8 0, .int .u8 0, .int .u8 0, .int .u8 0, .int .u8 0, .int .u8 0, .int .u8 0, .int .u8 0, .int .u8 0, .int .u8 0, .int .u8 0, .int .u8 0, .int .u8 0, .int .u8 0, .int .u8 0, .int .u8 0, .int .u8 0, .int .u8 0, .int .u8 0, .int .u8 0, .int .u8 0, .int .u8 0, .int .u8 0, .int .u8 0, .int .u8 0, .int .u8 0, .int .u8 0, .int .u8 0, .int .u8 0, .int .u8 0, .int .u8 0, .int .u8 0, .int .u8 0, .int .u8 0, .int .u8 0, .int .u8 0, .int .u8 0, .int .u8 0, .int .u8 0, .int .u8 0, .int .u8 0, .int .u8 0, .int .u8 0, .int .u8 0, .int .u8 0, .int .u8 0, .int .u8 0, .int .u8 0, .int .u8 0, .int .u8 0, .int .u8 0, .int .u8 0, .int .u8 0] 41)) wr.heap.size 41 (List.replicate 64 0) := heap_alloc_new wr _
          have hB : Below wr.heap.size wr (wr.alloc (.cells #[.int .u8 0, .int .u8 0, .int .u8 0, .int .u8 0, .int .u8 0, .int .u8 0, .int .u8 0, .int .u8 0, .int .u8 0, .int .u8 0, .int .u8 0, .int .u8 0, .int .u8 0, .int .u8 0, .int .u8 0, .int .u8 0, .int .u8 0, .int .u8 0, .int .u8 0, .int .u8 0, .int .u8 0, .int .u8 0, .int .u8 0, .int .u8 0, .int .u8 0, .int .u8 0, .int .u8 0, .int .u8 0, .int .u8 0, .int .u8 0, .int .u8 0, .int .u8 0, .int .u8 0, .int .u8 0, .int .u8 0, .int .u8 0, .int .u8 0, .int .u8 0, .int .u8 0, .int .u8 0, .int .u8 0, .int .u8 0, .int .u8 0, .int .u8 0, .int .u8 0, .int .u8 0, .int .u8 0, .int .u8 0, .int .u8 0, .int .u8 0, .int .u8 0, .int .u8 0, .int .u8 0, .int .u8 0, .int .u8 0, .int .u8 0, .int .u8 0, .int .u8 0, .int .u8 0, .int .u8 0, .int .u8 0, .int .u8 0, .int .u8 0, .int .u8 0] 41)) := (Below.refl _ _).alloc (Nat.le_refl _) _
          have HP := Lib.hid hP
          have HB := Lib.hid hB
          clear hP hB
          obtain ⟨n, hn, hn2, hn3⟩ : ∃ n : Nat, min 64 t.length = n ∧ n ≤ 64 ∧ n ≤ t.length := ⟨_, rfl, by omega, by omega⟩
          have HN := Lib.hid hn
          by_cases hlast : t.length ≤ 64
          · have hn4 : t.length ≤ n := by omega
            clear hn
            have hcn2 : (((t.length - n : Nat) : Int) == 0) = true := by rw [beq_iff_eq]; omega
            have hcn3 : t.length - n = 0 := by omega
            go_wp2_with (first
              | (refine copy_piece rfl (.tmp 46) (.tmp 47) rfl wr.heap.size _ A cp t rfl rfl HP.out (HT.out.alloc _) wr.heap.size wr HB.out (Nat.le_refl _) ?_; intro w1 hp1 hb1; have HP1 := Lib.hid hp1; have HB1 := Lib.hid hb1; clear hp1 hb1; rw [HN.out]; have HK1 := Lib.hid (HKS.out.below HB1.out hsz))
              | (refine wpList_load_row rfl _ (.tmp 6) rfl (wk.heap.size) rfl _ _ (0, 0) _ HK1.out.h Tryd.underlying38 rfl (info_words_of HH.out) ?_)
              | (go_at_call 19; refine (take_at h HH.out wr.heap.size (Bl.piece t) (len_piece t) _ (c + t.length) (by omega) true _ HP1.out.b8 (HG.out.below HK1.out.b (Nat.le_refl _))).mono ?_; rintro e w2 ⟨rfl, hb2⟩; have HB2 := Lib.hid hb2; clear hb2; have HK2 := Lib.hid (HK1.out.below HB2.out HK1.out.h.lt))
              | (refine wpList_store_row rfl _ (.tmp 6) (.tmp 61) rfl (wk.heap.size) ((Bl.press h (Bl.piece t) (c + t.length) true).map u32v).toArray rfl rfl _ _ HK2.out.h (info_words_of (len_press _ _ _ _)) (by simp [HH.out, len_press]) (all_u32 _) ?_))
            all_goals
              go_meet
              have hA := HR.out
              rw [absorb_last _ _ _ _ hlast (by omega)] at hA
              rw [← hA]
              exact ⟨rfl, HK2.out.setH⟩
          · have hn4 : 64 ≤ n := by omega
            clear hn
            have hcn : ¬ cp = n := by omega
            have hcn0 : 0 < t.length - n := by omega
            have hcn1 : ((t.length : Int) - (n : Int) == 0) = false := by rw [beq_eq_false_iff_ne]; omega
            have hcn2 : (((t.length - n : Nat) : Int) == 0) = false := by rw [beq_eq_false_iff_ne]; omega
            go_wp2_with (first
              | (refine copy_piece rfl (.tmp 46) (.tmp 47) rfl wr.heap.size _ A cp t rfl rfl HP.out (HT.out.alloc _) wr.heap.size wr HB.out (Nat.le_refl _) ?_; intro w1 hp1 hb1; have HP1 := Lib.hid hp1; have HB1 := Lib.hid hb1; clear hp1 hb1; rw [HN.out]; have HK1 := Lib.hid (HKS.out.below HB1.out hsz))
              | (refine wpList_load_row rfl _ (.tmp 6) rfl (wk.heap.size) rfl _ _ (0, 0) _ HK1.out.h Tryd.underlying38 rfl (info_words_of HH.out) ?_)
              | (go_at_call 19; refine (take_at h HH.out wr.heap.size (Bl.piece t) (len_piece t) _ (c + 64) (by omega) false _ HP1.out.b8 (HG.out.below HK1.out.b (Nat.le_refl _))).mono ?_; rintro e w2 ⟨rfl, hb2⟩; have HB2 := Lib.hid hb2; clear hb2; have HK2 := Lib.hid (HK1.out.below HB2.out HK1.out.h.lt))
              | (refine wpList_store_row rfl _ (.tmp 6) (.tmp 61) rfl (wk.heap.size) ((Bl.press h (Bl.piece t) (c + 64) false).map u32v).toArray rfl rfl _ _ HK2.out.h (info_words_of (len_press _ _ _ _)) (by simp [HH.out, len_press]) (all_u32 _) ?_))
            obtain ⟨f', rfl⟩ : ∃ f', f = f' + 1 := ⟨f - 1, by omega⟩
            have hA := HR.out
            rw [absorb_more _ _ _ _ hlast] at hA
            have hBs : Bs w2 (· ≠ wk.heap.size) (.slice (Option.map (fun x => x.add n) A) (t.length - n) (cp - n)) (t.drop 64) := by
              obtain rfl : n = 64 := by omega
              refine Bs.mk ?_ (by omega) (by omega)
              have := ((HT.out.below HB1.out (Nat.le_refl _)).below HB2.out (Nat.le_refl _)).cutv (a := 64) (m := t.length - 64) (by omega) (A' := Option.map (fun x => x.add 64) A) (fun _ => rfl)
              rwa [List.take_of_length_le (by simp)] at this
            refine ⟨⟨_, t.drop 64, Bl.press h (Bl.piece t) (c + 64) false, c + 64, f', rfl, ?_, HK2.out.setH, hBs.other _, ?_, hA, len_press _ _ _ _, ?_⟩, ?_⟩
            · obtain rfl : n = 64 := by omega
              go_num
            · simp; omega
            · simp; omega
            · simp only [sliceLen]; omega
      case rest =>
        obtain ⟨rfl, hks⟩ := hcut
        have HKR := Lib.hid hks
        clear hks HKS HT HR
        have hP : W8 (wc.alloc (.cells #[.int .u8 0, .int .u8 0, .int .u8 0, .int .u8 0, .int .u8 0, .int .u8 0, .int .u8 0, .int .u8 0, .int .u8 0, .int .u8 0, .int .u8 0, .int .u8 0, .int .u8 0, .int .u8 0, .int .u8 0, .int .u8 0, .int .u8 0, .int .u8 0, .int .u8 0, .int .u8 0, .int .u8 0, .int .u8 0, .int .u8 0, .int .u8 0, .int .u8 0, .int .u8 0, .int .u8 0, .int .u8 0, .int .u8 0, .int .u8 0, .int .u8 0, .int .u8 0] 25)) wc.heap.size 25 (outk R 0) := heap_alloc_new wc _
        have hK : KS w wk.heap.size (wc.alloc (.cells #[.int .u8 0, .int .u8 0, .int .u8 0, .int .u8 0, .int .u8 0, .int .u8 0, .int .u8 0, .int .u8 0, .int .u8 0, .int .u8 0, .int .u8 0, .int .u8 0, .int .u8 0, .int .u8 0, .int .u8 0, .int .u8 0, .int .u8 0, .int .u8 0, .int .u8 0, .int .u8 0, .int .u8 0, .int .u8 0, .int .u8 0, .int .u8 0, .int .u8 0, .int .u8 0, .int .u8 0, .int .u8 0, .int .u8 0, .int .u8 0, .int .u8 0, .int .u8 0] 25)) R := HKR.out.below ((Below.refl _ _).alloc (Nat.le_refl _) _) HKR.out.h.lt
        have hG1 : wk.heap.size < wc.heap.size := HKR.out.h.lt
        have HP := Lib.hid hP
        have HK := Lib.hid hK
        clear hP hK HKR
        go_wp2_with fail
        go_loopw [65] (fun i wr => ∃ k : Nat, k ≤ 32 ∧ i = .int .i64 k ∧ KS w wk.heap.size wr R ∧ W8 wr wc.heap.size 25 (outk R k)) (fun i _ => 32 - (intOf i).toNat)
        case atStart => exact ⟨0, by omega, rfl, HK.out, HP.out⟩
        case round =>
          clear HK HP
          obtain ⟨k, hk, rfl, hks, hp⟩ := hrel
          have HK := Lib.hid hks
          have HP := Lib.hid hp
          clear hks hp
          by_cases hlt : k < 32
          · have hi1 : (k : Int) < 32 := by omega
            obtain ⟨x, ex, hx, _⟩ := HK.out.h.get (i := k / 4) (by rw [HRL.out]; omega)
            have hxl := u32_lt x
            have hcell := HP.out.cell (i := k) (by rw [outk_len _ _ hk]; exact hlt)
            have hfro := HP.out.frozen k
            have hi2 : (k : Int) / 4 < 8 := by omega
            have hi3 : (0 : Int) ≤ (k : Int) / 4 := by omega
            have hi4 : ((k : Int) / 4).toNat = k / 4 := by omega
            go_wp2_with fail
            have e : ((x.toNat : Int) / 2 ^ (8 * (k % 4)) % 256 : Int) = ((UInt8.ofNat (x.toNat / 2 ^ (8 * (k % 4)))).toNat : Int) := u8_of (by simp)
            rw [e]
            refine ⟨⟨k + 1, by omega, by go_num, HK.out.far (p := ⟨wc.heap.size, k, none⟩) hG1 _, ?_⟩, by simp [intOf]; omega⟩
            rw [← outk_set _ _ hlt, ex.out]
            exact HP.out.set k _
          · obtain rfl : k = 32 := by omega
            rw [show ((32 : Nat) : Int) = 32 from rfl]
            have ho : outk R 32 = Bl.keyed32 key b := by rw [HRES.out]; simp [outk]
            have hol := outk_len R 32 (by omega)
            have hp := HP.out
            rw [ho] at hp hol
            generalize hres : Bl.keyed32 key b = out at hp hol
            have HRS := Lib.hid hres
            have HP2 := Lib.hid hp
            have HOL := Lib.hid hol
            have hin : (Tryd.prog.info? 25).map (·.size) = some ((out.map u8v).toArray).size := by rw [info_hash]; simp [hol]
            have HIN := Lib.hid hin
            clear ho hol hp hres hin HP HRES
            go_upto_region 22 with (fail)
            refine wp_region_lit ?_
            refine wpList_load_row rfl _ (.tmp 11) rfl wc.heap.size rfl _ _ (0, 0) _ HP2.out Tryd.underlying25 rfl HIN.out ?_
            refine wpList_store_row rfl _ (.tmp 4) (.tmp 80) rfl w.heap.size (out.map u8v).toArray rfl rfl _ _ HK.out.r HIN.out (by simp [HOL.out]) (all_u8 out) ?_
            go_frame
            go_wp2_with fail
            refine bodyPost_ret (results_cell_row (by rfl) _ _ w.heap.size _ (out.map u8v).toArray (0, 0) _ (by rfl) (setRow_heap _ _ _ _ _ _ HK.out.r) Tryd.underlying25 rfl HIN.out) rfl ?_
            exact ⟨by rw [HKK.out, HRS.out], below_setRow HK.out.b (Nat.le_refl _) _⟩

theorem keyed_nil {S : Nat → Prop} (bv : Value) (b : List UInt8) (w : World) (hb : Bs w S bv b) (hbl : b.length ≤ 1000000000000) (hG : Gl w) :
    Calls Tryd.prog 9 #[.slice none 0 0, bv] w (keyedPost w (Bl.sum b)) :=
  keyed_gen (S := fun _ => True) _ bv [] b w Bs.nil hb hbl hG (fun h => absurd h (by simp))

set_option maxHeartbeats 1000000 in
theorem sum_any {S : Nat → Prop} (bv : Value) (b : List UInt8) (w : World) (hb : Bs w S bv b) (hbl : b.length ≤ 1000000000000) (hG : Gl w) :
    Calls Tryd.prog 8 #[bv] w (keyedPost w (Bl.sum b)) := by
  have hR : W8 (w.alloc (.cells #[.int .u8 0, .int .u8 0, .int .u8 0, .int .u8 0, .int .u8 0, .int .u8 0, .int .u8 0, .int .u8 0, .int .u8 0, .int .u8 0, .int .u8 0, .int .u8 0, .int .u8 0, .int .u8 0, .int .u8 0, .int .u8 0, .int .u8 0, .int .u8 0, .int .u8 0, .int .u8 0, .int .u8 0, .int .u8 0, .int .u8 0, .int .u8 0, .int .u8 0, .int .u8 0, .int .u8 0, .int .u8 0, .int .u8 0, .int .u8 0, .int .u8 0, .int .u8 0] 25)) w.heap.size 25 (List.replicate 32 0) := heap_alloc_new w _
  have hB : Below w.heap.size w (w.alloc (.cells #[.int .u8 0, .int .u8 0, .int .u8 0, .int .u8 0, .int .u8 0, .int .u8 0, .int .u8 0, .int .u8 0, .int .u8 0, .int .u8 0, .int .u8 0, .int .u8 0, .int .u8 0, .int .u8 0, .int .u8 0, .int .u8 0, .int .u8 0, .int .u8 0, .int .u8 0, .int .u8 0, .int .u8 0, .int .u8 0, .int .u8 0, .int .u8 0, .int .u8 0, .int .u8 0, .int .u8 0, .int .u8 0, .int .u8 0, .int .u8 0, .int .u8 0, .int .u8 0] 25)) := (Below.refl _ _).alloc (Nat.le_refl _) _
  have HR := Lib.hid hR
  have HB := Lib.hid hB
  have HS := Lib.hid hb
  have HG := Lib.hid hG
  have HL := Lib.hid (Bl.len_sum b)
  clear hR hB hb hG
  go_enter Tryd.func8, Tryd.ntmps8
  go_wp2_with (first
    | (go_at_call 9; refine (keyed_nil bv b _ (HS.out.below HB.out (Nat.le_refl _)) hbl (HG.out.below HB.out (Nat.le_refl _))).mono ?_; rintro e w1 ⟨rfl, hb1⟩; have HB1 := Lib.hid hb1; clear hb1)
    | (refine wpList_store_row rfl _ (.tmp 2) (.tmp 4) rfl w.heap.size ((Bl.sum b).map u8v).toArray rfl rfl _ _ (HR.out.keep (HB1.out.block _ HR.out.lt)) (info_hash_of HL.out) (by simp [HL.out]) (all_u8 _) ?_))
  refine bodyPost_ret (results_cell_row (by rfl) _ _ w.heap.size _ ((Bl.sum b).map u8v).toArray (0, 0) _ (by rfl) (setRow_heap _ _ _ _ _ _ (HR.out.keep (HB1.out.block _ HR.out.lt))) Tryd.underlying25 rfl (info_hash_of HL.out)) rfl ?_
  exact ⟨rfl, below_setRow (HB.out.trans (HB1.out.mono HB.out.size)) (Nat.le_refl _) _⟩

theorem keyed_any {S S' : Nat → Prop} (kv bv : Value) (key b : List UInt8) (w : World) (hk : Bs w S kv key) (hb : Bs w S' bv b) (hkl : key.length ≤ 1000000000000) (hbl : b.length ≤ 1000000000000) (hG : Gl w) :
    Calls Tryd.prog 9 #[kv, bv] w (keyedPost w (Bl.keyed key b)) :=
  keyed_gen kv bv key b w hk hb hbl hG (fun _ W h g => sum_any kv key W h hkl g)
end Go.Proofs.YtdlbighnmbjofaaDoor
