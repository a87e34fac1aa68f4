/- The statements' own helpers of chapter 1: digests written as words; what each statement asks. -/
import Derived.Test.YtdlbighnmbjofaaDoorBlakeD
import Derived.Stop.BytesEq
import Derived.Lib.SlBytesConst
namespace Go.Proofs.YtdlbighnmbjofaaDoor
open Go Go.RowKit

theorem size_u8 (w : World) : (sizeOf 5).run Tryd.prog w = .ok 1 w := by
  obtain ⟨i, hi, _, hs, _⟩ := info_parts info_u8
  simp [sizeOf, typeInfo, hi, hs]
/-- Two digests, held against one another. -/
theorem eq_hash (a b : List UInt8) (ha : a.length = 32) (hb : b.length = 32) (w : World) : (Op.equalIn 10000 25 (.agg (a.map u8v).toArray) (.agg (b.map u8v).toArray)).run Tryd.prog w = .ok (a == b) w :=
  run_equalIn_bytes w 9998 25 5 32 Tryd.underlying25 Tryd.underlying5 size_u8 a b ha hb

/-- A digest out of eight words, the highest byte of each first. -/
def hashk (h : List UInt32) (k : Nat) : List UInt8 := (List.range k).map fun i => UInt8.ofNat ((h.getD (i / 4) 0).toNat / 2 ^ (24 - 8 * (i % 4)))
def hashOf (h : List UInt32) : List UInt8 := hashk h 32
def hashz (h : List UInt32) (k : Nat) : List UInt8 := hashk h k ++ List.replicate (32 - k) 0
theorem hashk_len (h : List UInt32) (k : Nat) : (hashk h k).length = k := by simp [hashk]
theorem hashOf_len (h : List UInt32) : (hashOf h).length = 32 := hashk_len h 32
theorem hashz_len (h : List UInt32) (k : Nat) (hk : k ≤ 32) : (hashz h k).length = 32 := by simp [hashz, hashk_len]; omega
theorem hashz_set (h : List UInt32) (k : Nat) (hk : k < 32) : (hashz h k).set k (UInt8.ofNat ((h.getD (k / 4) 0).toNat / 2 ^ (24 - 8 * (k % 4)))) = hashz h (k + 1) := by
  have hl := hashk_len h k
  unfold hashz
  rw [List.set_append_right _ _ (by omega), hl, Nat.sub_self, show 32 - k = (32 - (k + 1)) + 1 by omega, List.replicate_succ, List.set_cons_zero]
  simp [hashk, List.range_succ]

/-- The blocks of hash: the words, the result, the digest. -/
structure HS (w wr : World) (h : List UInt32) (l : List UInt8) : Prop where
  h : W32 wr w.heap.size 35 h
  r : W8 wr (w.heap.size + 1) 25 (List.replicate 32 0)
  o : W8 wr (w.heap.size + 1 + 1) 25 l
  b : Below w.heap.size w wr
theorem HS.set {w wr : World} {h : List UInt32} {l : List UInt8} (K : HS w wr h l) (i : Nat) (x : UInt8) : HS w (wr.setCell ⟨w.heap.size + 1 + 1, i, none⟩ (.int .u8 (x.toNat : Int))) h (l.set i x) :=
  ⟨K.h.far (p := ⟨w.heap.size + 1 + 1, i, none⟩) (by simp; omega) _, K.r.far (p := ⟨w.heap.size + 1 + 1, i, none⟩) (by simp) _, K.o.set i x, K.b.setCell (by simp; omega) _⟩

set_option maxRecDepth 100000 in
set_option maxHeartbeats 1000000 in
theorem hash_any (v : Value) (ws : List UInt32) (w : World) (hv : v = .agg (ws.map u32v).toArray) (hl : ws.length = 8) :
    Calls Tryd.prog 17 #[v] w (keyedPost w (hashOf ws)) := by
  subst hv
  have HL := Lib.hid hl
  obtain ⟨h0, h1, h2, h3, h4, h5, h6, h7, rfl⟩ : ∃ h0 h1 h2 h3 h4 h5 h6 h7, ws = [h0, h1, h2, h3, h4, h5, h6, h7] := by
    match ws, hl with
    | [h0, h1, h2, h3, h4, h5, h6, h7], _ => exact ⟨_, _, _, _, _, _, _, _, rfl⟩
  clear hl
  simp only [List.map_cons, List.map_nil]
  go_enter Tryd.func17, Tryd.ntmps17
  go_wp2
  go_loopw [4] (fun i wr => ∃ k : Nat, k ≤ 32 ∧ i = .int .i64 k ∧ HS w wr [h0, h1, h2, h3, h4, h5, h6, h7] (hashz [h0, h1, h2, h3, h4, h5, h6, h7] k)) (fun i _ => 32 - (intOf i).toNat)
  case atStart =>
    refine ⟨0, by omega, rfl, ?_, ?_, ?_, ?_⟩
    · exact (heap_alloc_old _ _ (by simp; omega)).trans ((heap_alloc_old _ _ (by simp)).trans (heap_alloc_new w _))
    · exact (heap_alloc_old _ _ (by simp)).trans (alloc_at _ _ (by simp))
    · exact alloc_at _ _ (by simp)
    · exact (((Below.refl _ _).alloc (Nat.le_refl _) _).alloc (by simp) _).alloc (by simp; omega) _
  case round =>
    obtain ⟨k, hk, rfl, hT⟩ := hrel
    have HT := Lib.hid hT
    clear hT
    by_cases hlt : k < 32
    · have hi1 : (k : Int) < 32 := by omega
      obtain ⟨x, ex, hx, _⟩ := HT.out.h.get (i := k / 4) (by rw [HL.out]; omega)
      have hxl := u32_lt x
      have hcell := HT.out.o.cell (i := k) (by rw [hashz_len _ _ hk]; exact hlt)
      have hfro := HT.out.o.frozen k
      have hi2 : (k : Int) / 4 < 8 := by omega
      have hi3 : (0 : Int) ≤ (k : Int) / 4 := by omega
      have hi4 : ((k : Int) / 4).toNat = k / 4 := by omega
      have hi5 : (0 : Int) ≤ 24 - 8 * ((k : Int) % 4) := by omega
      have hi6 : (24 - 8 * ((k : Int) % 4)).toNat = 24 - 8 * (k % 4) := by omega
      go_wp2_with fail
      have e : ((x.toNat : Int) / 2 ^ (24 - 8 * (k % 4)) % 256 : Int) = ((UInt8.ofNat (x.toNat / 2 ^ (24 - 8 * (k % 4)))).toNat : Int) := u8_of (by simp)
      rw [e]
      refine ⟨⟨k + 1, by omega, by go_num, ?_⟩, by simp [intOf]; omega⟩
      rw [← hashz_set _ _ hlt, ex.out]
      exact HT.out.set k _
    · obtain rfl : k = 32 := by omega
      rw [show ((32 : Nat) : Int) = 32 from rfl]
      have ho : hashz [h0, h1, h2, h3, h4, h5, h6, h7] 32 = hashOf [h0, h1, h2, h3, h4, h5, h6, h7] := by simp [hashz, hashOf]
      have hol := hashOf_len [h0, h1, h2, h3, h4, h5, h6, h7]
      have hp := HT.out
      rw [ho] at hp
      generalize hres : hashOf [h0, h1, h2, h3, h4, h5, h6, h7] = out at hp hol
      have HRS := Lib.hid hres
      have HP2 := Lib.hid hp
      have HOL := Lib.hid hol
      clear ho hol hp hres HT
      go_upto_region 6 with (fail)
      refine wp_region_lit ?_
      refine wpList_load_row rfl _ (.tmp 3) rfl (w.heap.size + 1 + 1) rfl _ _ (0, 0) _ HP2.out.o Tryd.underlying25 rfl (info_hash_of HOL.out) ?_
      refine wpList_store_row rfl _ (.tmp 2) (.tmp 22) rfl (w.heap.size + 1) (out.map u8v).toArray rfl rfl _ _ HP2.out.r (info_hash_of HOL.out) (by simp [HOL.out]) (all_u8 out) ?_
      go_frame
      go_wp2_with fail
      refine bodyPost_ret (results_cell_row (by rfl) _ _ (w.heap.size + 1) _ (out.map u8v).toArray (0, 0) _ (by rfl) (setRow_heap _ _ _ _ _ _ HP2.out.r) Tryd.underlying25 rfl (info_hash_of HOL.out)) rfl ?_
      exact ⟨by rw [HRS.out], below_setRow HP2.out.b (by omega) _⟩

/-- The published digest of abc. -/
def abcW : List UInt32 := [0x508C5E8C, 0x327C14E2, 0xE1A72BA3, 0x4EEB452F, 0x37458B20, 0x9ED63A29, 0x4D999B4C, 0x86675982]
theorem abc_eq : Bl.sum [97, 98, 99] = hashOf abcW := by decide +kernel

def RetT (w : World) (e : Ending) (w' : World) : Prop := e = .returned (.bool true) ∧ Below w.heap.size w w'
theorem Rd.lits {w : World} (l : List UInt8) (t : TypeId) (fr : Nat × Nat) : Rd (w.alloc (.cells (l.map u8v).toArray t fr)) (w.heap.size ≤ ·) 1 (some ⟨w.heap.size, 0, none⟩) l.length (l.map u8v) := by
  refine ⟨by simp, fun _ => ⟨_, 0, rfl, ⟨by simp, Nat.le_refl _⟩, fun j u hu => ?_⟩⟩
  rw [cell_of_row _ _ _ _ _ _ (heap_alloc_new w _), Nat.zero_add]
  simpa using hu

set_option maxHeartbeats 1000000 in
theorem works_any (w : World) (hG : Gl w) : Calls Tryd.prog 7 #[] w (RetT w) := by
  have hb : Bs (w.alloc (.cells #[.int .u8 97, .int .u8 98, .int .u8 99] 5 (3, 4))) (w.heap.size ≤ ·) (.slice (some ⟨w.heap.size, 0, none⟩) 3 3) [97, 98, 99] := Bs.mk (Rd.lits [97, 98, 99] _ _) (by omega) (by omega)
  have hB : Below w.heap.size w (w.alloc (.cells #[.int .u8 97, .int .u8 98, .int .u8 99] 5 (3, 4))) := (Below.refl _ _).alloc (Nat.le_refl _) _
  have HS := Lib.hid hb
  have HB := Lib.hid hB
  have HG := Lib.hid hG
  have heq : ∀ W, (Op.equalIn 10000 25 (.agg ((Bl.sum [97, 98, 99]).map u8v).toArray) (.agg ((hashOf abcW).map u8v).toArray)).run Tryd.prog W = .ok true W := fun W => by
    rw [eq_hash _ _ (Bl.len_sum _) (hashOf_len _), abc_eq]; simp
  have kc := fun (w : World) (C : Array Value) (n c : Nat) => Lib.run_convert_bytes_const (P := Tryd.prog) w 22 5 C n c Tryd.underlying22 Tryd.underlying5
  clear hb hB hG
  go_enter Tryd.func7, Tryd.ntmps7
  go_wp2_with (first
    | (go_at_call 8; refine (sum_any _ [97, 98, 99] _ HS.out (by simp) (HG.out.below HB.out (Nat.le_refl _))).mono ?_; rintro e w1 ⟨rfl, hb1⟩; have HB1 := Lib.hid hb1; clear hb1)
    | (go_at_call 17; refine (hash_any _ abcW _ (by kernel_rfl) rfl).mono ?_; rintro e w2 ⟨rfl, hb2⟩; have HB2 := Lib.hid hb2; clear hb2))
  go_ret
  exact ⟨rfl, (HB.out.trans (HB1.out.mono HB.out.size)).trans (HB2.out.mono (Nat.le_trans HB.out.size HB1.out.size))⟩
end Go.Proofs.YtdlbighnmbjofaaDoor
