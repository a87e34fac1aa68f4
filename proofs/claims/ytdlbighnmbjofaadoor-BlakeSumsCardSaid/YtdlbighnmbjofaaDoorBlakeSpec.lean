/- What the digests are, as plain functions on lists; words in memory. No program stands in this text. -/
import Derived.Test.YtdlbighnmbjofaaDoorWord
namespace Go.Proofs.YtdlbighnmbjofaaDoor
open Go Go.RowKit

namespace Bl
def h1 (s : List UInt32) (a b : Nat) (x : UInt32) : List UInt32 := s.set a (add32 (s.getD a 0) (add32 (s.getD b 0) x))
def h2 (s : List UInt32) (d a : Nat) (r : Nat) : List UInt32 := s.set d (ror (xor32 (s.getD d 0) (s.getD a 0)) r)
def h3 (s : List UInt32) (c d : Nat) : List UInt32 := s.set c (add32 (s.getD c 0) (s.getD d 0))
def half (s : List UInt32) (a b c d : Nat) (x : UInt32) (r q : Nat) : List UInt32 := h2 (h3 (h2 (h1 s a b x) d a r) c d) b c q
def stir (s : List UInt32) (a b c d : Nat) (x y : UInt32) : List UInt32 := half (half s a b c d x 16 12) a b c d y 8 7
def kstir (s m : List UInt32) (o : List Nat) (k : Nat) : List UInt32 :=
  stir s (k % 4) (4 + (k % 4 + k / 4) % 4) (8 + (k % 4 + 2 * (k / 4)) % 4) (12 + (k % 4 + 3 * (k / 4)) % 4) (m.getD (o.getD (2 * k) 0) 0) (m.getD (o.getD (2 * k + 1) 0) 0)
def round (s m : List UInt32) (o : List Nat) : Nat → List UInt32
  | 0 => s
  | k + 1 => kstir (round s m o k) m o k
def orders : List (List Nat) := [
  [0, 1, 2, 3, 4, 5, 6, 7, 8, 9, 10, 11, 12, 13, 14, 15],
  [14, 10, 4, 8, 9, 15, 13, 6, 1, 12, 0, 2, 11, 7, 5, 3],
  [11, 8, 12, 0, 5, 2, 15, 13, 10, 14, 3, 6, 7, 1, 9, 4],
  [7, 9, 3, 1, 13, 12, 11, 14, 2, 6, 5, 10, 4, 0, 15, 8],
  [9, 0, 5, 7, 2, 4, 10, 15, 14, 1, 11, 12, 6, 8, 3, 13],
  [2, 12, 6, 10, 0, 11, 8, 3, 4, 13, 7, 5, 15, 14, 1, 9],
  [12, 5, 1, 15, 14, 13, 4, 10, 0, 7, 6, 3, 9, 2, 8, 11],
  [13, 11, 7, 14, 12, 1, 3, 9, 5, 0, 15, 4, 8, 6, 2, 10],
  [6, 15, 14, 9, 11, 3, 0, 8, 12, 2, 13, 7, 1, 4, 10, 5],
  [10, 2, 8, 4, 7, 6, 1, 5, 15, 11, 9, 14, 3, 12, 13, 0]]
def rounds (s m : List UInt32) : Nat → List UInt32
  | 0 => s
  | k + 1 => round (rounds s m k) m (orders.getD k []) 8
def begins : List UInt32 := [0x6A09E667, 0xBB67AE85, 0x3C6EF372, 0xA54FF53A, 0x510E527F, 0x9B05688C, 0x1F83D9AB, 0x5BE0CD19]
/-- The words of a block. -/
def wordAt (b : List UInt8) (i : Nat) : UInt32 := le32 (b.getD (4 * i) 0) (b.getD (4 * i + 1) 0) (b.getD (4 * i + 2) 0) (b.getD (4 * i + 3) 0)
def words (b : List UInt8) (n : Nat) : List UInt32 := (List.range n).map (wordAt b)
/-- The state ahead of the rounds. -/
def start (h : List UInt32) (count : Nat) (last : Bool) : List UInt32 :=
  let s := h ++ begins
  let s := s.set 12 (xor32 (s.getD 12 0) (UInt32.ofNat count))
  let s := s.set 13 (xor32 (s.getD 13 0) (UInt32.ofNat (count / 4294967296)))
  if last then s.set 14 (not32 (s.getD 14 0)) else s
/-- Behind the rounds. -/
def fin (h s : List UInt32) (k : Nat) : List UInt32 := (List.range k).map fun i => xor32 (h.getD i 0) (xor32 (s.getD i 0) (s.getD (i + 8) 0))
def press (h : List UInt32) (b : List UInt8) (count : Nat) (last : Bool) : List UInt32 := fin h (rounds (start h count last) (words b 16) 10) 8
/-- A block: the next bytes, noughts behind them. -/
def piece (t : List UInt8) : List UInt8 := t.take 64 ++ List.replicate (64 - t.length) 0
def absorb : Nat → List UInt32 → List UInt8 → Nat → List UInt32
  | 0, h, _, _ => h
  | f + 1, h, t, c =>
    let c' := c + min 64 t.length
    let h' := press h (piece t) c' (decide (t.length ≤ 64))
    if t.length ≤ 64 then h' else absorb f h' (t.drop 64) c'
def begun (k : Nat) : List UInt32 := begins.set 0 (xor32 (begins.getD 0 0) (xor32 (xor32 0x01010000 (UInt32.ofNat (256 * k))) 32))
def text (key b : List UInt8) : List UInt8 := if key.length = 0 then b else key ++ List.replicate (64 - key.length) 0 ++ b
def out (h : List UInt32) (k : Nat) : List UInt8 := (List.range k).map fun i => UInt8.ofNat ((h.getD (i / 4) 0).toNat / 2 ^ (8 * (i % 4)))
/-- Under a key of at most 32 bytes. -/
def keyed32 (key b : List UInt8) : List UInt8 :=
  let t := text key b
  out (absorb (t.length + 1) (begun key.length) t 0) 32
def sum (b : List UInt8) : List UInt8 := keyed32 [] b
def keyed (key b : List UInt8) : List UInt8 := if key.length ≤ 32 then keyed32 key b else keyed32 (sum key) b
def tagged (tag b : List UInt8) : List UInt8 := sum (sum tag ++ b)

theorem len_h1 (s a b x) : (h1 s a b x).length = s.length := by simp [h1]
theorem len_h2 (s d a r) : (h2 s d a r).length = s.length := by simp [h2]
theorem len_h3 (s c d) : (h3 s c d).length = s.length := by simp [h3]
theorem len_half (s a b c d x r q) : (half s a b c d x r q).length = s.length := by simp [half, len_h1, len_h2, len_h3]
theorem len_stir (s a b c d x y) : (stir s a b c d x y).length = s.length := by simp [stir, len_half]
theorem len_kstir (s m o k) : (kstir s m o k).length = s.length := by simp [kstir, len_stir]
theorem len_round (s m o) : ∀ k, (round s m o k).length = s.length
  | 0 => rfl
  | k + 1 => by simp [round, len_kstir, len_round s m o k]
theorem len_rounds (s m) : ∀ k, (rounds s m k).length = s.length
  | 0 => rfl
  | k + 1 => by simp [rounds, len_round, len_rounds s m k]
theorem len_fin (h s k) : (fin h s k).length = k := by simp [fin]
theorem len_out (h k) : (out h k).length = k := by simp [out]
theorem len_keyed32 (key b) : (keyed32 key b).length = 32 := by simp [keyed32, len_out]
theorem len_sum (b) : (sum b).length = 32 := len_keyed32 _ _
theorem len_keyed (key b) : (keyed key b).length = 32 := by unfold keyed; split <;> exact len_keyed32 _ _
theorem len_tagged (t b) : (tagged t b).length = 32 := len_sum _
end Bl

example : Bl.sum [97, 98, 99] = [0x50, 0x8C, 0x5E, 0x8C, 0x32, 0x7C, 0x14, 0xE2, 0xE1, 0xA7, 0x2B, 0xA3, 0x4E, 0xEB, 0x45, 0x2F, 0x37, 0x45, 0x8B, 0x20, 0x9E, 0xD6, 0x3A, 0x29, 0x4D, 0x99, 0x9B, 0x4C, 0x86, 0x67, 0x59, 0x82] := by decide +kernel

/-- A block of words. -/
def W32 (w : World) (g : Nat) (t : TypeId) (s : List UInt32) : Prop := w.heap[g]? = some (.cells (s.map u32v).toArray t (0, 0))
section
variable {w w' : World} {g : Nat} {t : TypeId} {s : List UInt32}
theorem W32.lt (h : W32 w g t s) : g < w.heap.size := (Array.getElem?_eq_some_iff.1 h).1
theorem W32.cell (h : W32 w g t s) {i : Nat} (hi : i < s.length) : w.cell? ⟨g, i, none⟩ = some (.int .u32 ((s.getD i 0).toNat : Int)) := by
  rw [cell_of_row w g i _ t (0, 0) h]
  simp [hi]
theorem W32.frozen (h : W32 w g t s) (i : Nat) : w.frozen? ⟨g, i, none⟩ = false := frozen_of_row w g i _ t h
theorem W32.get (h : W32 w g t s) {i : Nat} (hi : i < s.length) : ∃ x, Hid (s.getD i 0 = x) ∧ w.cell? ⟨g, i, none⟩ = some (.int .u32 (x.toNat : Int)) ∧ w.frozen? ⟨g, i, none⟩ = false :=
  ⟨_, rfl, h.cell hi, h.frozen i⟩
theorem W32.set (h : W32 w g t s) (i : Nat) (x : UInt32) : W32 (w.setCell ⟨g, i, none⟩ (.int .u32 (x.toNat : Int))) g t (s.set i x) := by
  unfold W32 at h ⊢
  rw [heap_setCell_same w g i _ t _ h, List.map_set]
  simp
theorem W32.keep (h : W32 w g t s) (hk : w'.heap[g]? = w.heap[g]?) : W32 w' g t s := hk.trans h
theorem W32.fr {T : Nat → Prop} (h : W32 w g t s) (hf : Fr T w w') (ht : ¬ T g) : W32 w' g t s := (hf.block g h.lt ht).trans h
end
theorem Fr.setCell {w : World} {T : Nat → Prop} {p : Addr} (v : Value) (h : T p.block) : Fr T w (w.setCell p v) :=
  ⟨rfl, rfl, rfl, by simp [World.setCell], fun k _ hn => Below.heap_setCell _ _ _ _ (fun e => hn (e ▸ h))⟩
theorem Fr.alloc {w : World} {T : Nat → Prop} (o : Obj) : Fr T w (w.alloc o) := ⟨rfl, rfl, rfl, by simp, fun _ hk _ => heap_alloc_old w o hk⟩
theorem Fr.drew {w w' : World} {T : Nat → Prop} (h : Fr T w w') : Fr T w w'.drew := ⟨h.os, h.tape, h.output, h.size, h.block⟩
end Go.Proofs.YtdlbighnmbjofaaDoor
