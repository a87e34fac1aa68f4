/- Texts of this claim, laid together: OBlakeE, OBlakeKeysW, OBlakeSumsW, OBlakeTagsW. -/
import Derived.Test.YtdalmmkjmfpffaaDoorMO
import Derived.Stop.BytesEq
import Derived.Lib.SlBytesConst
import Derived.Deep.RegionHeld3
import Derived.Deep.DrawnRows
import Derived.WalkLawsBesides
set_option linter.unusedVariables false
set_option linter.unusedSimpArgs false

namespace Go.Proofs.YtdalmmkjmfpffaaDoor.Old
open Go Go.RowKit

theorem size_u8 (w : World) : (sizeOf 5).run Tryd.prog w = .ok 1 w := by
  obtain ⟨i, hi, _, hs, _⟩ := info_parts info_u8
  simp [sizeOf, typeInfo, hi, hs]
/-- Two digests, held against one another. -/
theorem eq_hash (a b : List UInt8) (ha : a.length = 32) (hb : b.length = 32) (w : World) : (Op.equalIn 10000 24 (.agg (a.map u8v).toArray) (.agg (b.map u8v).toArray)).run Tryd.prog w = .ok (a == b) w :=
  run_equalIn_bytes w 9998 24 5 32 Tryd.underlying24 Tryd.underlying5 size_u8 a b ha hb

/-- A digest out of eight words, the highest byte of each first. -/
def hashk (h : List UInt32) (k : Nat) : List UInt8 := (List.range k).map fun i => UInt8.ofNat ((h.getD (i / 4) 0).toNat / 2 ^ (24 - 8 * (i % 4)))
def hashOf (h : List UInt32) : List UInt8 := hashk h 32
def hashz (h : List UInt32) (k : Nat) : List UInt8 := hashk h k ++ List.replicate (32 - k) 0
theorem hashk_len (h : List UInt32) (k : Nat) : (hashk h k).length = k := by simp [hashk]
theorem hashOf_len (h : List UInt32) : (hashOf h).length = 32 := hashk_len h 32
theorem hashz_len (h : List UInt32) (k : Nat) (hk : k ≤ 32) : (hashz h k).length = 32 := by simp [hashz, hashk_len]; omega
theorem hashz_set (h : List UInt32) (k : Nat) (hk : k < 32) : (hashz h k).set k (UInt8.ofNat ((h.getD (k / 4) 0).toNat / 2 ^ (24 - 8 * (k % 4)))) = hashz h (k + 1) := by
  have hl := hashk_len h k
  unfold hashz
  rw [List.set_append_right _ _ (by omega), hl, Nat.sub_self, show 32 - k = (32 - (k + 1)) + 1 by omega, List.replicate_succ, List.set_cons_zero]
  simp [hashk, List.range_succ]

/-- The blocks of hash: the words, the result, the digest. -/
structure HS (w wr : World) (h : List UInt32) (l : List UInt8) : Prop where
  h : W32 wr w.heap.size 27 h
  r : W8 wr (w.heap.size + 1) 24 (List.replicate 32 0)
  o : W8 wr (w.heap.size + 1 + 1) 24 l
  b : Below w.heap.size w wr
theorem HS.set {w wr : World} {h : List UInt32} {l : List UInt8} (K : HS w wr h l) (i : Nat) (x : UInt8) : HS w (wr.setCell ⟨w.heap.size + 1 + 1, i, none⟩ (.int .u8 (x.toNat : Int))) h (l.set i x) :=
  ⟨K.h.far (p := ⟨w.heap.size + 1 + 1, i, none⟩) (by simp; omega) _, K.r.far (p := ⟨w.heap.size + 1 + 1, i, none⟩) (by simp) _, K.o.set i x, K.b.setCell (by simp; omega) _⟩

set_option maxRecDepth 100000 in
set_option maxHeartbeats 1000000 in
theorem hash_any (v : Value) (ws : List UInt32) (w : World) (hv : v = .agg (ws.map u32v).toArray) (hl : ws.length = 8) :
    Calls Tryd.prog 7 #[v] w (keyedPost w (hashOf ws)) := by
  subst hv
  have HL := Lib.hid hl
  obtain ⟨h0, h1, h2, h3, h4, h5, h6, h7, rfl⟩ : ∃ h0 h1 h2 h3 h4 h5 h6 h7, ws = [h0, h1, h2, h3, h4, h5, h6, h7] := by
    match ws, hl with
    | [h0, h1, h2, h3, h4, h5, h6, h7], _ => exact ⟨_, _, _, _, _, _, _, _, rfl⟩
  clear hl
  simp only [List.map_cons, List.map_nil]
  go_enter Tryd.func7, Tryd.ntmps7
  go_wp2
  go_loopw [4] (fun i wr => ∃ k : Nat, k ≤ 32 ∧ i = .int .i64 k ∧ HS w wr [h0, h1, h2, h3, h4, h5, h6, h7] (hashz [h0, h1, h2, h3, h4, h5, h6, h7] k)) (fun i _ => 32 - (intOf i).toNat)
  case atStart =>
    refine ⟨0, by omega, rfl, ?_, ?_, ?_, ?_⟩
    · exact (heap_alloc_old _ _ (by simp; omega)).trans ((heap_alloc_old _ _ (by simp)).trans (heap_alloc_new w _))
    · exact (heap_alloc_old _ _ (by simp)).trans (alloc_at _ _ (by simp))
    · exact alloc_at _ _ (by simp)
    · exact (((Below.refl _ _).alloc (Nat.le_refl _) _).alloc (by simp) _).alloc (by simp; omega) _
  case round =>
    obtain ⟨k, hk, rfl, hT⟩ := hrel
    have HT := Lib.hid hT
    clear hT
    by_cases hlt : k < 32
    · have hi1 : (k : Int) < 32 := by omega
      obtain ⟨x, ex, hx, _⟩ := HT.out.h.get (i := k / 4) (by rw [HL.out]; omega)
      have hxl := u32_lt x
      have hcell := HT.out.o.cell (i := k) (by rw [hashz_len _ _ hk]; exact hlt)
      have hfro := HT.out.o.frozen k
      have hi2 : (k : Int) / 4 < 8 := by omega
      have hi3 : (0 : Int) ≤ (k : Int) / 4 := by omega
      have hi4 : ((k : Int) / 4).toNat = k / 4 := by omega
      have hi5 : (0 : Int) ≤ 24 - 8 * ((k : Int) % 4) := by omega
      have hi6 : (24 - 8 * ((k : Int) % 4)).toNat = 24 - 8 * (k % 4) := by omega
      go_wp2_with fail
      have e : ((x.toNat : Int) / 2 ^ (24 - 8 * (k % 4)) % 256 : Int) = ((UInt8.ofNat (x.toNat / 2 ^ (24 - 8 * (k % 4)))).toNat : Int) := u8_of (by simp)
      rw [e]
      refine ⟨⟨k + 1, by omega, by go_num, ?_⟩, by simp [intOf]; omega⟩
      rw [← hashz_set _ _ hlt, ex.out]
      exact HT.out.set k _
    · obtain rfl : k = 32 := by omega
      rw [show ((32 : Nat) : Int) = 32 from rfl]
      have ho : hashz [h0, h1, h2, h3, h4, h5, h6, h7] 32 = hashOf [h0, h1, h2, h3, h4, h5, h6, h7] := by simp [hashz, hashOf]
      have hol := hashOf_len [h0, h1, h2, h3, h4, h5, h6, h7]
      have hp := HT.out
      rw [ho] at hp
      generalize hres : hashOf [h0, h1, h2, h3, h4, h5, h6, h7] = out at hp hol
      have HRS := Lib.hid hres
      have HP2 := Lib.hid hp
      have HOL := Lib.hid hol
      clear ho hol hp hres HT
      go_upto_region 6 with (fail)
      refine wp_region_lit ?_
      refine wpList_load_row rfl _ (.tmp 3) rfl (w.heap.size + 1 + 1) rfl _ _ (0, 0) _ HP2.out.o Tryd.underlying24 rfl (info_hash_of HOL.out) ?_
      refine wpList_store_row rfl _ (.tmp 2) (.tmp 22) rfl (w.heap.size + 1) (out.map u8v).toArray rfl rfl _ _ HP2.out.r (info_hash_of HOL.out) (by simp [HOL.out]) (all_u8 out) ?_
      go_frame
      go_wp2_with fail
      refine bodyPost_ret (results_cell_row (by rfl) _ _ (w.heap.size + 1) _ (out.map u8v).toArray (0, 0) _ (by rfl) (setRow_heap _ _ _ _ _ _ HP2.out.r) Tryd.underlying24 rfl (info_hash_of HOL.out)) rfl ?_
      exact ⟨by rw [HRS.out], below_setRow HP2.out.b (by omega) _⟩

/-- The published digest of abc. -/
def abcW : List UInt32 := [0x508C5E8C, 0x327C14E2, 0xE1A72BA3, 0x4EEB452F, 0x37458B20, 0x9ED63A29, 0x4D999B4C, 0x86675982]
theorem abc_eq : Bl.sum [97, 98, 99] = hashOf abcW := by decide +kernel

def RetT (w : World) (e : Ending) (w' : World) : Prop := e = .returned (.bool true) ∧ Below w.heap.size w w'
theorem Rd.lits {w : World} (l : List UInt8) (t : TypeId) (fr : Nat × Nat) : Rd (w.alloc (.cells (l.map u8v).toArray t fr)) (w.heap.size ≤ ·) 1 (some ⟨w.heap.size, 0, none⟩) l.length (l.map u8v) := by
  refine ⟨by simp, fun _ => ⟨_, 0, rfl, ⟨by simp, Nat.le_refl _⟩, fun j u hu => ?_⟩⟩
  rw [cell_of_row _ _ _ _ _ _ (heap_alloc_new w _), Nat.zero_add]
  simpa using hu

set_option maxHeartbeats 1000000 in
theorem works_any (w : World) (hG : Gl w) : Calls Tryd.prog 14 #[] w (RetT w) := by
  have hb : Bs (w.alloc (.cells #[.int .u8 97, .int .u8 98, .int .u8 99] 5 (3, 4))) (w.heap.size ≤ ·) (.slice (some ⟨w.heap.size, 0, none⟩) 3 3) [97, 98, 99] := Bs.mk (Rd.lits [97, 98, 99] _ _) (by omega) (by omega)
  have hB : Below w.heap.size w (w.alloc (.cells #[.int .u8 97, .int .u8 98, .int .u8 99] 5 (3, 4))) := (Below.refl _ _).alloc (Nat.le_refl _) _
  have HS := Lib.hid hb
  have HB := Lib.hid hB
  have HG := Lib.hid hG
  have heq : ∀ W, (Op.equalIn 10000 24 (.agg ((Bl.sum [97, 98, 99]).map u8v).toArray) (.agg ((hashOf abcW).map u8v).toArray)).run Tryd.prog W = .ok true W := fun W => by
    rw [eq_hash _ _ (Bl.len_sum _) (hashOf_len _), abc_eq]; simp
  have kc := fun (w : World) (C : Array Value) (n c : Nat) => Lib.run_convert_bytes_const (P := Tryd.prog) w 22 5 C n c Tryd.underlying22 Tryd.underlying5
  clear hb hB hG
  go_enter Tryd.func14, Tryd.ntmps14
  go_wp2_with (first
    | (go_at_call 8; refine (sum_any _ [97, 98, 99] _ HS.out (by simp) (HG.out.below HB.out (Nat.le_refl _))).mono ?_; rintro e w1 ⟨rfl, hb1⟩; have HB1 := Lib.hid hb1; clear hb1)
    | (go_at_call 7; refine (hash_any _ abcW _ (by kernel_rfl) rfl).mono ?_; rintro e w2 ⟨rfl, hb2⟩; have HB2 := Lib.hid hb2; clear hb2))
  go_ret
  exact ⟨rfl, (HB.out.trans (HB1.out.mono HB.out.size)).trans (HB2.out.mono (Nat.le_trans HB.out.size HB1.out.size))⟩
end Go.Proofs.YtdalmmkjmfpffaaDoor.Old

namespace Go.Proofs.YtdalmmkjmfpffaaDoor.Old
open Go Go.RowKit
attribute [local go_sem ↓] Go.wp_at_zero Go.wp_at_succ

theorem kk_sum (key : List UInt8) (h : 32 < key.length) : kk (Bl.sum key) = kk key := by
  have h1 : ¬ key.length ≤ 32 := by omega
  unfold kk
  rw [if_neg h1, if_pos (by rw [Bl.len_sum]; omega)]
theorem keyed_sum (key b : List UInt8) (h : 32 < key.length) : Bl.keyed key b = Bl.keyed (Bl.sum key) b := by
  rw [keyed_kk, keyed_kk, kk_sum key h]

/-- What lies in memory as the call begins, in every later world. -/
def Lies (w : World) (S S' : Nat → Prop) (kv bv : Value) (key b : List UInt8) : Prop := ∀ W, Below w.heap.size w W → Bs W S kv key ∧ Bs W S' bv b ∧ Gl W

theorem W8.bs {w : World} {g : Nat} {t : TypeId} {l : List UInt8} (h : W8 w g t l) {n : Nat} (hn : l.length = n) (hl : n ≤ 9223372036854775807) : Bs w (fun _ => True) (.slice (some ⟨g, 0, none⟩) n n) l := by
  subst hn
  refine Bs.mk ⟨by simp, fun _ => ⟨g, 0, rfl, ⟨h.lt, trivial⟩, fun j u hu => ?_⟩⟩ (Nat.le_refl _) hl
  rw [Nat.zero_add, cell_of_row _ _ _ _ _ _ h]
  simpa using hu

/-- What the drawn region needs of its worlds. -/
def SS (wc : World) (g : Nat) (s : List UInt8) (W : World) : Prop := Below wc.heap.size wc W ∧ W8 W g 24 s
theorem SS.step {wc W W' : World} {g : Nat} {s : List UInt8} (h : SS wc g s W) (hb : Below W.heap.size W W') : SS wc g s W' :=
  ⟨h.1.trans (hb.mono h.1.size), h.2.keep (hb.block _ h.2.lt)⟩

set_option maxRecDepth 100000 in
set_option maxHeartbeats 2000000 in
theorem keys_any {S S' : Nat → Prop} (kv bv : Value) (key b : List UInt8) (w : World) (hk : Bs w S kv key) (hb : Bs w S' bv b) (hG : Gl w) :
    Calls Tryd.prog 12 #[kv, bv] w (RetT w) := by
  have HL : Hid (Lies w S S' kv bv key b) := fun W hW => ⟨hk.below hW (Nat.le_refl _), hb.below hW (Nat.le_refl _), hG.below hW (Nat.le_refl _)⟩
  have hkl := hk.len
  have hbl := hb.len
  obtain ⟨Ak, ck, rfl, hck, hck2, _⟩ := hk.op
  obtain ⟨Ab, cb, rfl, hcb, hcb2, _⟩ := hb.op
  have HG := Lib.hid hG
  clear hk hb hG
  by_cases hbig : 4096 < max key.length b.length
  · have hb1 : (4096 : Int) < max (key.length : Int) (b.length : Int) := by omega
    go_enter Tryd.func12, Tryd.ntmps12
    go_wp2_with (first
      | (go_at_call 14; refine (works_any _ HG.out).mono ?_; rintro e w1 ⟨rfl, hb1⟩; have HB1 := Lib.hid hb1; clear hb1))
    all_goals
      go_ret
      exact ⟨rfl, HB1.out⟩
  · have hb1 : ¬ (4096 : Int) < max (key.length : Int) (b.length : Int) := by omega
    have hk1 : key.length ≤ 4096 := by omega
    have hb2 : b.length ≤ 4096 := by omega
    have HSL := Lib.hid (Bl.len_sum key)
    go_enter Tryd.func12, Tryd.ntmps12
    go_upto_region 1 with (fail)
    go_cut [11] (fun v wx => v = .bool false ∧ wx = w)
    case first =>
      go_wp2_with fail
      all_goals
        go_meet
        exact ⟨congrArg Value.bool (decide_eq_false (by omega)), rfl⟩
    case rest =>
      obtain ⟨rfl, rfl⟩ := hcut
      obtain ⟨w, rfl⟩ : ∃ w, w = wc := ⟨_, rfl⟩
      go_upto_region 4 with (first
        | (go_at_call 8; refine (sum_any _ key _ (HL.out _ (Below.refl _ _)).1 (by omega) HG.out).mono ?_; rintro e w1 ⟨rfl, hb1⟩; have HB1 := Lib.hid hb1; clear hb1)
        | (refine wpList_store_row rfl _ (.tmp 5) (.tmp 14) rfl w1.heap.size ((Bl.sum key).map u8v).toArray rfl rfl _ _ (heap_alloc_new w1 _) (info_hash_of HSL.out) (by simp [HSL.out]) (all_u8 _) ?_))
      have hw2 : W8 ((w1.alloc (.cells #[.int .u8 0, .int .u8 0, .int .u8 0, .int .u8 0, .int .u8 0, .int .u8 0, .int .u8 0, .int .u8 0, .int .u8 0, .int .u8 0, .int .u8 0, .int .u8 0, .int .u8 0, .int .u8 0, .int .u8 0, .int .u8 0, .int .u8 0, .int .u8 0, .int .u8 0, .int .u8 0, .int .u8 0, .int .u8 0, .int .u8 0, .int .u8 0, .int .u8 0, .int .u8 0, .int .u8 0, .int .u8 0, .int .u8 0, .int .u8 0, .int .u8 0, .int .u8 0] 24)).setRow w1.heap.size ((Bl.sum key).map u8v).toArray) w1.heap.size 24 (Bl.sum key) := setRow_heap _ _ _ _ _ _ (heap_alloc_new w1 _)
      have hb2 : Below w.heap.size w ((w1.alloc (.cells #[.int .u8 0, .int .u8 0, .int .u8 0, .int .u8 0, .int .u8 0, .int .u8 0, .int .u8 0, .int .u8 0, .int .u8 0, .int .u8 0, .int .u8 0, .int .u8 0, .int .u8 0, .int .u8 0, .int .u8 0, .int .u8 0, .int .u8 0, .int .u8 0, .int .u8 0, .int .u8 0, .int .u8 0, .int .u8 0, .int .u8 0, .int .u8 0, .int .u8 0, .int .u8 0, .int .u8 0, .int .u8 0, .int .u8 0, .int .u8 0, .int .u8 0, .int .u8 0] 24)).setRow w1.heap.size ((Bl.sum key).map u8v).toArray) := below_setRow (HB1.out.alloc HB1.out.size _) HB1.out.size _
      generalize (w1.alloc (.cells #[.int .u8 0, .int .u8 0, .int .u8 0, .int .u8 0, .int .u8 0, .int .u8 0, .int .u8 0, .int .u8 0, .int .u8 0, .int .u8 0, .int .u8 0, .int .u8 0, .int .u8 0, .int .u8 0, .int .u8 0, .int .u8 0, .int .u8 0, .int .u8 0, .int .u8 0, .int .u8 0, .int .u8 0, .int .u8 0, .int .u8 0, .int .u8 0, .int .u8 0, .int .u8 0, .int .u8 0, .int .u8 0, .int .u8 0, .int .u8 0, .int .u8 0, .int .u8 0] 24)).setRow w1.heap.size ((Bl.sum key).map u8v).toArray = w2 at hw2 hb2 ⊢
      generalize w1.heap.size = g at hw2 ⊢
      have HW2 := Lib.hid hw2
      have HB2 := Lib.hid hb2
      clear hw2 hb2 HB1
      go_frame
      go_cut [26] (fun v wx => v = .bool false ∧ Below w.heap.size w wx)
      case first =>
        by_cases hlong : 32 < key.length
        · have hd0 : decide (32 < key.length) = true := decide_eq_true hlong
          have hd2 : decide ((32 : Int) < (key.length : Int)) = true := decide_eq_true (by omega)
          have heq : ∀ W, (Op.equalIn 10000 24 (.agg ((Bl.keyed key b).map u8v).toArray) (.agg ((Bl.keyed (Bl.sum key) b).map u8v).toArray)).run Tryd.prog W = .ok true W := fun W => by
            rw [eq_hash _ _ (Bl.len_keyed _ _) (Bl.len_keyed _ _), keyed_sum key b hlong]; simp
          have hs2 : SS w g (Bl.sum key) w2.drew := ⟨below_drew HB2.out, HW2.out⟩
          go_region_held3 (fun W => SS w g (Bl.sum key) W) (first | assumption)
            (first
              | (go_at_call_of 9 (Value.slice Ak key.length ck); refine (keyed_any _ _ key b _ (HL.out _ hs2.1).1 (HL.out _ hs2.1).2.1 (by omega) (by omega) (HL.out _ hs2.1).2.2).mono ?_; rintro e w3 ⟨rfl, hb3⟩; have hs3 := hs2.step hb3; have HB3 := Lib.hid hb3; clear hb3)
              | (go_at_call 9; refine (keyed_any _ _ (Bl.sum key) b _ (hs3.2.bs HSL.out (by omega)) (HL.out _ hs3.1).2.1 (by rw [HSL.out]; omega) (by omega) (HL.out _ hs3.1).2.2).mono ?_; rintro e w4 ⟨rfl, hb4⟩; have hs4 := hs3.step hb4; have HB4 := Lib.hid hb4; clear hb4))
          all_goals
            go_wp2_with fail
            go_meet
            exact ⟨rfl, hs4.1⟩
        · have hd0 : decide (32 < key.length) = false := decide_eq_false hlong
          have hd2 : decide ((32 : Int) < (key.length : Int)) = false := decide_eq_false (by omega)
          go_quiet (fail)
          go_wp2_with fail
          go_meet
          exact ⟨rfl, below_drewN' HB2.out _⟩
      case rest =>
        obtain ⟨rfl, hb3⟩ := hcut
        have HB3 := Lib.hid hb3
        have heq : ∀ W, (Op.equalIn 10000 24 (.agg ((Bl.sum b).map u8v).toArray) (.agg ((Bl.sum b).map u8v).toArray)).run Tryd.prog W = .ok true W := fun W => by
          rw [eq_hash _ _ (Bl.len_sum _) (Bl.len_sum _)]; simp
        clear hb3 HW2 HB2
        go_wp2_with (first
          | (go_at_call_of 9 (Value.slice none 0 0); refine (keyed_nil _ b _ (HL.out _ HB3.out).2.1 (by omega) (HL.out _ HB3.out).2.2).mono ?_; rintro e w4 ⟨rfl, hb4⟩; have HB4 := Lib.hid (HB3.out.trans (hb4.mono HB3.out.size)); clear hb4)
          | (go_at_call 9; refine (keyed_any _ _ [] b _ (Bs.mk (l := []) (S := fun _ => True) Rd.nil (Nat.le_refl _) (by omega)) (HL.out _ (HB5.out.alloc HB5.out.size _)).2.1 (by simp) (by omega) (HL.out _ (HB5.out.alloc HB5.out.size _)).2.2).mono ?_; rintro e w6 ⟨rfl, hb6⟩; have HB6 := Lib.hid ((HB5.out.alloc HB5.out.size _).trans (hb6.mono (HB5.out.alloc HB5.out.size _).size)); rw [show Bl.keyed [] b = Bl.sum b from rfl]; clear hb6 HB5)
          | (go_at_call 8; refine (sum_any _ b _ (HL.out _ HB6.out).2.1 (by omega) (HL.out _ HB6.out).2.2).mono ?_; rintro e w7 ⟨rfl, hb7⟩; have HB7 := Lib.hid (HB6.out.trans (hb7.mono HB6.out.size)); clear hb7)
          | (go_at_call 8; refine (sum_any _ b _ (HL.out _ HB4.out).2.1 (by omega) (HL.out _ HB4.out).2.2).mono ?_; rintro e w5 ⟨rfl, hb5⟩; have HB5 := Lib.hid (HB4.out.trans (hb5.mono HB4.out.size)); clear hb5)
          | (go_at_call 14; refine (works_any _ (HL.out _ HB7.out).2.2).mono ?_; rintro e w8 ⟨rfl, hb8⟩; have HB8 := Lib.hid (HB7.out.trans (hb8.mono HB7.out.size)); clear hb8))
        go_ret
        exact ⟨rfl, HB8.out⟩
end Go.Proofs.YtdalmmkjmfpffaaDoor.Old

namespace Go.Proofs.YtdalmmkjmfpffaaDoor.Old
open Go Go.RowKit
attribute [local go_sem ↓] Go.wp_at_zero Go.wp_at_succ

set_option maxHeartbeats 1000000 in
theorem sum_ref {S : Nat → Prop} (bv : Value) (b : List UInt8) (w : World) (hb : Bs w S bv b) (hbl : b.length ≤ 1000000000000) :
    Calls Tryd.prog 33 #[bv] w (keyedPost w (Bl.sum b)) := by
  have hR : W8 (w.alloc (.cells #[.int .u8 0, .int .u8 0, .int .u8 0, .int .u8 0, .int .u8 0, .int .u8 0, .int .u8 0, .int .u8 0, .int .u8 0, .int .u8 0, .int .u8 0, .int .u8 0, .int .u8 0, .int .u8 0, .int .u8 0, .int .u8 0, .int .u8 0, .int .u8 0, .int .u8 0, .int .u8 0, .int .u8 0, .int .u8 0, .int .u8 0, .int .u8 0, .int .u8 0, .int .u8 0, .int .u8 0, .int .u8 0, .int .u8 0, .int .u8 0, .int .u8 0, .int .u8 0] 24)) w.heap.size 24 (List.replicate 32 0) := heap_alloc_new w _
  have hB : Below w.heap.size w (w.alloc (.cells #[.int .u8 0, .int .u8 0, .int .u8 0, .int .u8 0, .int .u8 0, .int .u8 0, .int .u8 0, .int .u8 0, .int .u8 0, .int .u8 0, .int .u8 0, .int .u8 0, .int .u8 0, .int .u8 0, .int .u8 0, .int .u8 0, .int .u8 0, .int .u8 0, .int .u8 0, .int .u8 0, .int .u8 0, .int .u8 0, .int .u8 0, .int .u8 0, .int .u8 0, .int .u8 0, .int .u8 0, .int .u8 0, .int .u8 0, .int .u8 0, .int .u8 0, .int .u8 0] 24)) := (Below.refl _ _).alloc (Nat.le_refl _) _
  have HR := Lib.hid hR
  have HB := Lib.hid hB
  have HS := Lib.hid hb
  have HL := Lib.hid (Bl.len_sum b)
  clear hR hB hb
  go_enter Tryd.func33, Tryd.ntmps33
  go_wp2_with (first
    | (go_at_call 32; refine (keyed_nil_ref bv b _ (HS.out.below HB.out (Nat.le_refl _)) hbl).mono ?_; rintro e w1 ⟨rfl, hb1⟩; have HB1 := Lib.hid hb1; clear hb1)
    | (refine wpList_store_row rfl _ (.tmp 2) (.tmp 4) rfl w.heap.size ((Bl.sum b).map u8v).toArray rfl rfl _ _ (HR.out.keep (HB1.out.block _ HR.out.lt)) (info_hash_of HL.out) (by simp [HL.out]) (all_u8 _) ?_))
  refine bodyPost_ret (results_cell_row (by rfl) _ _ w.heap.size _ ((Bl.sum b).map u8v).toArray (0, 0) _ (by rfl) (setRow_heap _ _ _ _ _ _ (HR.out.keep (HB1.out.block _ HR.out.lt))) Tryd.underlying24 rfl (info_hash_of HL.out)) rfl ?_
  exact ⟨rfl, below_setRow (HB.out.trans (HB1.out.mono HB.out.size)) (Nat.le_refl _) _⟩

set_option maxRecDepth 100000 in
set_option maxHeartbeats 1000000 in
theorem tagged_ref {S : Nat → Prop} (s : ByteArray) (bv : Value) (b : List UInt8) (w : World) (hb : Bs w S bv b) (hs : s.size ≤ 1000000000) (hbl : b.length ≤ 1000000000) :
    Calls Tryd.prog 34 #[.string s, bv] w (keyedPost w (Bl.tagged s.data.toList b)) := by
  have hR : W8 (w.alloc (.cells #[.int .u8 0, .int .u8 0, .int .u8 0, .int .u8 0, .int .u8 0, .int .u8 0, .int .u8 0, .int .u8 0, .int .u8 0, .int .u8 0, .int .u8 0, .int .u8 0, .int .u8 0, .int .u8 0, .int .u8 0, .int .u8 0, .int .u8 0, .int .u8 0, .int .u8 0, .int .u8 0, .int .u8 0, .int .u8 0, .int .u8 0, .int .u8 0, .int .u8 0, .int .u8 0, .int .u8 0, .int .u8 0, .int .u8 0, .int .u8 0, .int .u8 0, .int .u8 0] 24)) w.heap.size 24 (List.replicate 32 0) := heap_alloc_new w _
  have hK0 : KR w (w.alloc (.cells #[.int .u8 0, .int .u8 0, .int .u8 0, .int .u8 0, .int .u8 0, .int .u8 0, .int .u8 0, .int .u8 0, .int .u8 0, .int .u8 0, .int .u8 0, .int .u8 0, .int .u8 0, .int .u8 0, .int .u8 0, .int .u8 0, .int .u8 0, .int .u8 0, .int .u8 0, .int .u8 0, .int .u8 0, .int .u8 0, .int .u8 0, .int .u8 0, .int .u8 0, .int .u8 0, .int .u8 0, .int .u8 0, .int .u8 0, .int .u8 0, .int .u8 0, .int .u8 0] 24)) := ⟨hR, (Below.refl _ _).alloc (Nat.le_refl _) _⟩
  obtain ⟨Ab, cb, rfl, hcb, hcb2, hrb⟩ := hb.op
  have hsl : s.data.toList.length ≤ 1000000000000 := by simp; omega
  have HS := Lib.hid hrb
  have HL := Lib.hid (Bl.len_sum s.data.toList)
  have HT := Lib.hid (Bl.len_tagged s.data.toList b)
  have kc := fun (W : World) => Lib.run_convert_string_bytes (P := Tryd.prog) W 9 22 5 s Tryd.underlying9 Tryd.underlying22 Tryd.underlying5
  go_enter Tryd.func34, Tryd.ntmps34
  go_upto_region 1 with (fail)
  generalize w.alloc (.cells #[.int .u8 0, .int .u8 0, .int .u8 0, .int .u8 0, .int .u8 0, .int .u8 0, .int .u8 0, .int .u8 0, .int .u8 0, .int .u8 0, .int .u8 0, .int .u8 0, .int .u8 0, .int .u8 0, .int .u8 0, .int .u8 0, .int .u8 0, .int .u8 0, .int .u8 0, .int .u8 0, .int .u8 0, .int .u8 0, .int .u8 0, .int .u8 0, .int .u8 0, .int .u8 0, .int .u8 0, .int .u8 0, .int .u8 0, .int .u8 0, .int .u8 0, .int .u8 0] 24) = w0 at hK0 ⊢
  have HC := Lib.hid (bytes_bs w0 s (by omega))
  have HKC := Lib.hid (hK0.below (bytes_below w0 s) hK0.lt)
  clear hR hb hrb hK0
  go_upto_region 2 with (first
    | (go_at_call 33; refine (sum_ref _ s.data.toList _ HC.out hsl).mono ?_; rintro e w1 ⟨rfl, hb1⟩; have HK1 := Lib.hid (HKC.out.below hb1 HKC.out.lt); clear hb1 HC HKC)
    | (refine wpList_store_row rfl _ (.tmp 5) (.tmp 9) rfl w1.heap.size ((Bl.sum s.data.toList).map u8v).toArray rfl rfl _ _ (heap_alloc_new w1 _) (info_hash_of HL.out) (by simp [HL.out]) (all_u8 _) ?_))
  have hw2 : W8 ((w1.alloc (.cells #[.int .u8 0, .int .u8 0, .int .u8 0, .int .u8 0, .int .u8 0, .int .u8 0, .int .u8 0, .int .u8 0, .int .u8 0, .int .u8 0, .int .u8 0, .int .u8 0, .int .u8 0, .int .u8 0, .int .u8 0, .int .u8 0, .int .u8 0, .int .u8 0, .int .u8 0, .int .u8 0, .int .u8 0, .int .u8 0, .int .u8 0, .int .u8 0, .int .u8 0, .int .u8 0, .int .u8 0, .int .u8 0, .int .u8 0, .int .u8 0, .int .u8 0, .int .u8 0] 24)).setRow w1.heap.size ((Bl.sum s.data.toList).map u8v).toArray) w1.heap.size 24 (Bl.sum s.data.toList) := setRow_heap _ _ _ _ _ _ (heap_alloc_new w1 _)
  have hb2 : Below w1.heap.size w1 ((w1.alloc (.cells #[.int .u8 0, .int .u8 0, .int .u8 0, .int .u8 0, .int .u8 0, .int .u8 0, .int .u8 0, .int .u8 0, .int .u8 0, .int .u8 0, .int .u8 0, .int .u8 0, .int .u8 0, .int .u8 0, .int .u8 0, .int .u8 0, .int .u8 0, .int .u8 0, .int .u8 0, .int .u8 0, .int .u8 0, .int .u8 0, .int .u8 0, .int .u8 0, .int .u8 0, .int .u8 0, .int .u8 0, .int .u8 0, .int .u8 0, .int .u8 0, .int .u8 0, .int .u8 0] 24)).setRow w1.heap.size ((Bl.sum s.data.toList).map u8v).toArray) := below_setRow ((Below.refl _ _).alloc (Nat.le_refl _) _) (Nat.le_refl _) _
  generalize (w1.alloc (.cells #[.int .u8 0, .int .u8 0, .int .u8 0, .int .u8 0, .int .u8 0, .int .u8 0, .int .u8 0, .int .u8 0, .int .u8 0, .int .u8 0, .int .u8 0, .int .u8 0, .int .u8 0, .int .u8 0, .int .u8 0, .int .u8 0, .int .u8 0, .int .u8 0, .int .u8 0, .int .u8 0, .int .u8 0, .int .u8 0, .int .u8 0, .int .u8 0, .int .u8 0, .int .u8 0, .int .u8 0, .int .u8 0, .int .u8 0, .int .u8 0, .int .u8 0, .int .u8 0] 24)).setRow w1.heap.size ((Bl.sum s.data.toList).map u8v).toArray = w2 at hw2 hb2 ⊢
  generalize w1.heap.size = g at hw2 ⊢
  have HK2 := Lib.hid (HK1.out.below hb2 HK1.out.lt)
  have HW2 := Lib.hid hw2
  clear hw2 hb2 HK1
  have hl1 : ([] : List UInt8).length + 32 ≤ 1099511627776 := by decide
  have hl2 : (Bl.sum s.data.toList).length + b.length ≤ 1099511627776 := by rw [HL.out]; omega
  go_wp2_with (first
    | (at_builtin; refine app_b rfl (.tmp 10) (.tmp 11) rfl (w.heap.size + 1) _ [] rfl (OwnB.nil _ _) (fun _ => True) (some ⟨g, 0, none⟩) 32 32 (Bl.sum s.data.toList) rfl (HW2.out.rd HL.out) hl1 HK2.out.lt ?_; intro v3 w3 ho3 hg3 _; simp only [List.nil_append] at ho3; have HO3 := Lib.hid ho3; have HK3 := Lib.hid (HK2.out.grown hg3 (fun k hk => by cases hk)); clear ho3 hg3)
    | (at_builtin; refine app_b rfl (.tmp 13) (.tmp 14) rfl (w.heap.size + 1) _ (Bl.sum s.data.toList) rfl HO3.out S Ab b.length cb b rfl (HS.out.below HK3.out.b (Nat.le_refl _)) hl2 HK3.out.lt ?_; intro v4 w4 ho4 hg4 _; have HO4 := Lib.hid ho4.bs; have HK4 := Lib.hid (HK3.out.grown hg4 (fun k hk => (HO3.out.lt k hk).1)); clear ho4 hg4)
    | (go_at_call 33; refine (sum_ref _ (Bl.sum s.data.toList ++ b) _ HO4.out (by rw [List.length_append, HL.out]; omega)).mono ?_; rintro e w5 ⟨rfl, hb5⟩; have HK5 := Lib.hid (HK4.out.below hb5 HK4.out.lt); clear hb5; rw [show Bl.sum (Bl.sum s.data.toList ++ b) = Bl.tagged s.data.toList b from rfl])
    | (refine wpList_store_row rfl _ (.tmp 4) (.tmp 16) rfl w.heap.size ((Bl.tagged s.data.toList b).map u8v).toArray rfl rfl _ _ HK5.out.r (info_hash_of HT.out) (by simp [HT.out]) (all_u8 _) ?_))
  refine bodyPost_ret (results_cell_row (by rfl) _ _ w.heap.size _ ((Bl.tagged s.data.toList b).map u8v).toArray (0, 0) _ (by rfl) (setRow_heap _ _ _ _ _ _ HK5.out.r) Tryd.underlying24 rfl (info_hash_of HT.out)) rfl ?_
  exact ⟨rfl, below_setRow HK5.out.b (Nat.le_refl _) _⟩

/-- What lies in memory, in every later world. -/
def LiesS (w : World) (S S' : Nat → Prop) (kv bv : Value) (key b : List UInt8) : Prop := ∀ W, Below w.heap.size w W → Bs W S kv key ∧ Bs W S' bv b ∧ Gl W
def Lies4 (w : World) (xv yv kv bv : Value) (x y key b : List UInt8) : Prop := ∀ W, Below w.heap.size w W → (Bs W (fun _ => True) xv x ∧ Bs W (fun _ => True) yv y) ∧ Bs W (fun _ => True) kv key ∧ Bs W (fun _ => True) bv b ∧ Gl W

/-- The head of a row that was lent. -/
theorem Bs.head {w : World} {S : Nat → Prop} {A : Option Addr} {c n k : Nat} {l r : List UInt8} (h : Bs w S (.slice A n c) (l ++ r)) (hk : l.length = k) : Bs w S (.slice A k c) l := by
  subst hk
  obtain ⟨A', c', e, h1, h2, h3⟩ := h.op
  cases e
  rw [List.length_append] at h1 h3
  refine Bs.mk ?_ (by omega) h2
  have := h3.cutv (a := 0) (m := l.length) (by omega) (A' := A) (fun _ => by cases A <;> simp [Addr.add])
  rwa [List.drop_zero, List.take_append_of_le_length (Nat.le_refl _), List.take_of_length_le (Nat.le_refl _)] at this

set_option maxRecDepth 100000 in
set_option maxHeartbeats 4000000 in
theorem sums_any {S S' : Nat → Prop} (kv bv : Value) (key b : List UInt8) (s : ByteArray) (w : World) (hk : Bs w S kv key) (hb : Bs w S' bv b) (hG : Gl w) :
    Calls Tryd.prog 10 #[kv, bv, .string s] w (RetT w) := by
  have HL : Hid (LiesS w S S' kv bv key b) := fun W hW => ⟨hk.below hW (Nat.le_refl _), hb.below hW (Nat.le_refl _), hG.below hW (Nat.le_refl _)⟩
  have hkl := hk.len
  have hbl := hb.len
  obtain ⟨Ak, ck, rfl, hck, hck2, _⟩ := hk.op
  obtain ⟨Ab, cb, rfl, hcb, hcb2, _⟩ := hb.op
  have HG := Lib.hid hG
  clear hk hb hG
  by_cases hbig : 4096 < max (max key.length b.length) s.size
  · have hb1 : (4096 : Int) < max (max (key.length : Int) (b.length : Int)) (s.size : Int) := by omega
    obtain ⟨m, hm, hm4⟩ : ∃ m : Int, (if (s.size : Int) > (if (b.length : Int) > (key.length : Int) then (b.length : Int) else (key.length : Int)) then (s.size : Int) else (if (b.length : Int) > (key.length : Int) then (b.length : Int) else (key.length : Int))) = m ∧ 4096 < m := ⟨_, rfl, by split <;> (try split) <;> omega⟩
    clear hbig
    go_enter Tryd.func10, Tryd.ntmps10
    go_wp2_with (first
      | (go_at_call 14; refine (works_any _ HG.out).mono ?_; rintro e w1 ⟨rfl, hb1⟩; have HB1 := Lib.hid hb1; clear hb1))
    all_goals
      go_ret
      exact ⟨rfl, HB1.out⟩
  · have hb1 : ¬ (4096 : Int) < max (max (key.length : Int) (b.length : Int)) (s.size : Int) := by omega
    have hk1 : key.length ≤ 4096 := by omega
    have hb2 : b.length ≤ 4096 := by omega
    have hs2 : s.size ≤ 4096 := by omega
    go_enter Tryd.func10, Tryd.ntmps10
    go_upto_region 1 with (fail)
    go_cut [18] (fun v wx => v = .bool false ∧ wx = w)
    case first =>
      obtain ⟨m, hm, hm4⟩ : ∃ m : Int, (if (s.size : Int) > (if (b.length : Int) > (key.length : Int) then (b.length : Int) else (key.length : Int)) then (s.size : Int) else (if (b.length : Int) > (key.length : Int) then (b.length : Int) else (key.length : Int))) = m ∧ ¬ 4096 < m := ⟨_, rfl, by split <;> (try split) <;> omega⟩
      clear hbig
      go_wp2_with fail
      all_goals
        go_meet
        exact ⟨congrArg Value.bool (decide_eq_false (by omega)), rfl⟩
    case rest =>
      obtain ⟨rfl, rfl⟩ := hcut
      obtain ⟨w, rfl⟩ : ∃ w, w = wc := ⟨_, rfl⟩
      have hmax : ∀ l : List UInt8, (l ++ marks 5).length = l.length + 5 := fun l => by rw [List.length_append, marks_len]
      have HMX := Lib.hid hmax
      clear hmax hbig hb1
      go_wp2_with fail
      refine (lentBytes _ key _ (HL.out _ (Below.refl _ _)).1 (by omega)).mono ?_
      rintro e w1 ⟨v1, rfl, ho1, hb1⟩
      obtain ⟨A1, c1, rfl, hc11, hc12⟩ := ho1.form
      rw [HMX.out] at hc11
      rw [HMX.out]
      have HX1 := Lib.hid ho1.bs
      have HB1 := Lib.hid hb1
      clear ho1 hb1
      go_wp2_with fail
      refine (lentBytes _ b _ (HL.out _ HB1.out).2.1 (by omega)).mono ?_
      rintro e w2 ⟨v2, rfl, ho2, hb2⟩
      obtain ⟨A2, c2, rfl, hc21, hc22⟩ := ho2.form
      rw [HMX.out] at hc21
      rw [HMX.out]
      have hx1 := HX1.out.below hb2 (Nat.le_refl _)
      have hx2 := ho2.bs
      rw [HMX.out] at hx1 hx2
      have HB2 := Lib.hid (HB1.out.trans (hb2.mono HB1.out.size))
      have HL4 : Hid (Lies4 w2 (.slice A1 (key.length + 5) c1) (.slice A2 (b.length + 5) c2) (.slice A1 key.length c1) (.slice A2 b.length c2) (key ++ marks 5) (b ++ marks 5) key b) := fun W hW =>
        ⟨⟨(hx1.below hW (Nat.le_refl _)).mono (fun _ _ _ => trivial), (hx2.below hW (Nat.le_refl _)).mono (fun _ _ _ => trivial)⟩, ((hx1.below hW (Nat.le_refl _)).mono (fun _ _ _ => trivial)).head rfl, ((hx2.below hW (Nat.le_refl _)).mono (fun _ _ _ => trivial)).head rfl, (HL.out _ (HB2.out.trans (hW.mono HB2.out.size))).2.2⟩
      have hla : key.length ≤ c1 := by omega
      have hlb : b.length ≤ c2 := by omega
      have HR2 : Hid (Below w2.heap.size w2 w2) := Below.refl _ _
      clear hx1 hx2 ho2 hb2 HX1 HB1
      have heq1 : ∀ W, (Op.equalIn 10000 24 (.agg ((Bl.keyed key b).map u8v).toArray) (.agg ((Bl.keyed key b).map u8v).toArray)).run Tryd.prog W = .ok true W := fun W => by
        rw [eq_hash _ _ (Bl.len_keyed _ _) (Bl.len_keyed _ _)]; simp
      have heq2 : ∀ W, (Op.equalIn 10000 24 (.agg ((Bl.sum b).map u8v).toArray) (.agg ((Bl.sum b).map u8v).toArray)).run Tryd.prog W = .ok true W := fun W => by
        rw [eq_hash _ _ (Bl.len_sum _) (Bl.len_sum _)]; simp
      have heq3 : ∀ W, (Op.equalIn 10000 24 (.agg ((Bl.tagged s.data.toList b).map u8v).toArray) (.agg ((Bl.tagged s.data.toList b).map u8v).toArray)).run Tryd.prog W = .ok true W := fun W => by
        rw [eq_hash _ _ (Bl.len_tagged _ _) (Bl.len_tagged _ _)]; simp
      have hdk : decide (key ++ marks 5 = key ++ marks 5) = true := by simp
      have hdb : decide (b ++ marks 5 = b ++ marks 5) = true := by simp
      go_wp2_with (first
        | (go_at_call 9; refine (keyed_any _ _ key b _ (HL4.out _ HR2.out).2.1 (HL4.out _ HR2.out).2.2.1 (by omega) (by omega) (HL4.out _ HR2.out).2.2.2).mono ?_; rintro e w3 ⟨rfl, hb3⟩; have HB3 := Lib.hid (HR2.out.trans (hb3.mono HR2.out.size)); clear hb3)
        | (go_at_call 32; refine (keyed_ref _ _ key b _ (HL.out _ (HB2.out.trans (HB3.out.mono HB2.out.size))).1 (HL.out _ (HB2.out.trans (HB3.out.mono HB2.out.size))).2.1 (by omega) (by omega)).mono ?_; rintro e w4 ⟨rfl, hb4⟩; have HB4 := Lib.hid (HB3.out.trans (hb4.mono HB3.out.size)); clear hb4)
        | (go_at_call 8; refine (sum_any _ b _ (HL4.out _ HB4.out).2.2.1 (by omega) (HL4.out _ HB4.out).2.2.2).mono ?_; rintro e w5 ⟨rfl, hb5⟩; have HB5 := Lib.hid (HB4.out.trans (hb5.mono HB4.out.size)); clear hb5)
        | (go_at_call 33; refine (sum_ref _ b _ (HL.out _ (HB2.out.trans (HB5.out.mono HB2.out.size))).2.1 (by omega)).mono ?_; rintro e w6 ⟨rfl, hb6⟩; have HB6 := Lib.hid (HB5.out.trans (hb6.mono HB5.out.size)); clear hb6)
        | (go_at_call 29; refine (tagged_any s _ b _ (HL4.out _ HB6.out).2.2.1 (by omega) (by omega) (HL4.out _ HB6.out).2.2.2).mono ?_; rintro e w7 ⟨rfl, hb7⟩; have HB7 := Lib.hid (HB6.out.trans (hb7.mono HB6.out.size)); clear hb7)
        | (go_at_call 34; refine (tagged_ref s _ b _ (HL.out _ (HB2.out.trans (HB7.out.mono HB2.out.size))).2.1 (by omega) (by omega)).mono ?_; rintro e w8 ⟨rfl, hb8⟩; have HB8 := Lib.hid (HB7.out.trans (hb8.mono HB7.out.size)); clear hb8)
        | (go_at_call 35; refine (keptBytes _ _ (key ++ marks 5) key _ (HL4.out _ HB8.out).1.1 (HL.out _ (HB2.out.trans (HB8.out.mono HB2.out.size))).1 (by omega)).mono ?_; rintro e w9 ⟨rfl, hb9⟩; have HB9 := Lib.hid (HB8.out.trans (hb9.mono HB8.out.size)); clear hb9 HB8)
        | (go_at_call 35; refine (keptBytes _ _ (b ++ marks 5) b _ (HL4.out _ HB9.out).1.2 (HL.out _ (HB2.out.trans (HB9.out.mono HB2.out.size))).2.1 (by omega)).mono ?_; rintro e w10 ⟨rfl, hb10⟩; have HB10 := Lib.hid (HB9.out.trans (hb10.mono HB9.out.size)); clear hb10)
        | (go_at_call 14; refine (works_any _ (HL4.out _ HB10.out).2.2.2).mono ?_; rintro e w11 ⟨rfl, hb11⟩; have HB11 := Lib.hid (HB10.out.trans (hb11.mono HB10.out.size)); clear hb11))
      go_ret
      exact ⟨rfl, HB2.out.trans (HB11.out.mono HB2.out.size)⟩
end Go.Proofs.YtdalmmkjmfpffaaDoor.Old

namespace Go.Proofs.YtdalmmkjmfpffaaDoor.Old
open Go Go.RowKit
attribute [local go_sem ↓] Go.wp_at_zero Go.wp_at_succ

/-- append onto a row of the call's own, at a step of a region that draws its order. -/
theorem step_app_b {w : World} {ops : Array Oper} {o : Oper} {a : Act} {K : Act → World → Prop} {Q : Exit → Act → World → Prop} {E : Prop} (hgd : o.guard = none) (s x : Operand)
    (ho : o.op = .call { callee := .builtin .append, args := #[s, x], argTypes := #[22, 22] })
    (base : Nat) (v : Value) (l : List UInt8) (hs : a.eval s = v) (hown : OwnB w base v l)
    (S : Nat → Prop) (A : Option Addr) (m c : Nat) (r : List UInt8) (hx : a.eval x = .slice A m c) (hr : Rd w S 1 A m (r.map u8v))
    (hlen : l.length + m ≤ 1099511627776) (hbase : base ≤ w.heap.size)
    (h : ∀ v' w', OwnB w' base v' (l ++ r) → w.grownBy w' v.ownBlock → (v'.ownBlock = v.ownBlock ∨ v'.ownBlock = some w.heap.size) → K (a.put o.dst v') w') :
    if Region.wanted o (yielded ops a.tmps) = true then Oper.wp Tryd.prog o a w K Q else E := by
  have hw : Region.wanted o (yielded ops a.tmps) = true := by simp [Region.wanted, hgd]
  rw [if_pos hw]
  obtain ⟨i0, hi, hz0, hz1, hz2⟩ := info_parts info_u8
  refine wp_app w s x _ ho base _ i0 _ 1 1 Tryd.underlying22 hi hz0 hz1 hz2 rfl (by omega) v l.length _ hs hown S A m c (r.map u8v) hx hr (one_u8 r) (by simp only [maxLen]; omega) (by omega) hbase fun v' w' h2 h3 h4 => h v' w' ?_ h3 h4
  have hm : r.length = m := by simpa using hr.1
  subst hm
  unfold OwnB
  simpa using h2

theorem SS.grown {wc W W' : World} {g : Nat} {s : List UInt8} {row : Option Nat} (h : SS wc g s W) (hg : g < wc.heap.size) (hgr : W.grownBy W' row) (hr : ∀ k, row = some k → wc.heap.size ≤ k) : SS wc g s W' :=
  ⟨h.1.grown hgr h.1.size hr, h.2.keep ((h.1.grown hgr h.1.size hr).block g hg |>.trans (h.1.block g hg).symm)⟩

/-- What lies in memory as the call begins, in every later world. -/
def LiesC (w : World) (S : Nat → Prop) (cv : Value) (c : List UInt8) : Prop := ∀ W, Below w.heap.size w W → Bs W S cv c ∧ Gl W

set_option maxRecDepth 100000 in
set_option maxHeartbeats 4000000 in
theorem tags_any {S : Nat → Prop} (a b : ByteArray) (cv : Value) (c : List UInt8) (w : World) (hc : Bs w S cv c) (hG : Gl w) :
    Calls Tryd.prog 13 #[.string a, .string b, cv] w (RetT w) := by
  have HL : Hid (LiesC w S cv c) := fun W hW => ⟨hc.below hW (Nat.le_refl _), hG.below hW (Nat.le_refl _)⟩
  have hcl := hc.len
  obtain ⟨Ac, cc, rfl, hcc, hcc2, hrc⟩ := hc.op
  have HRC := Lib.hid hrc
  have HG := Lib.hid hG
  clear hc hG hrc
  by_cases hbig : 4096 < max (max a.size b.size) c.length
  · have hb1 : (4096 : Int) < max (max (a.size : Int) (b.size : Int)) (c.length : Int) := by omega
    obtain ⟨m, hm, hm4⟩ : ∃ m : Int, (if (c.length : Int) > (if (b.size : Int) > (a.size : Int) then (b.size : Int) else (a.size : Int)) then (c.length : Int) else (if (b.size : Int) > (a.size : Int) then (b.size : Int) else (a.size : Int))) = m ∧ 4096 < m := ⟨_, rfl, by split <;> (try split) <;> omega⟩
    clear hbig
    go_enter Tryd.func13, Tryd.ntmps13
    go_wp2_with (first
      | (go_at_call 14; refine (works_any _ HG.out).mono ?_; rintro e w1 ⟨rfl, hb1⟩; have HB1 := Lib.hid hb1; clear hb1))
    all_goals
      go_ret
      exact ⟨rfl, HB1.out⟩
  · have hb1 : ¬ (4096 : Int) < max (max (a.size : Int) (b.size : Int)) (c.length : Int) := by omega
    have ha1 : a.size ≤ 4096 := by omega
    have hb2 : b.size ≤ 4096 := by omega
    have hc2 : c.length ≤ 4096 := by omega
    have HSA := Lib.hid (Bl.len_sum a.data.toList)
    have HSB := Lib.hid (Bl.len_sum b.data.toList)
    have kca := fun (W : World) => Lib.run_convert_string_bytes (P := Tryd.prog) W 9 22 5 a Tryd.underlying9 Tryd.underlying22 Tryd.underlying5
    have kcb := fun (W : World) => Lib.run_convert_string_bytes (P := Tryd.prog) W 9 22 5 b Tryd.underlying9 Tryd.underlying22 Tryd.underlying5
    have hsla : a.data.toList.length ≤ 1000000000000 := by simp; omega
    have hslb : b.data.toList.length ≤ 1000000000000 := by simp; omega
    go_enter Tryd.func13, Tryd.ntmps13
    go_upto_region 1 with (fail)
    go_cut [16] (fun v wx => v = .bool false ∧ wx = w)
    case first =>
      obtain ⟨m, hm, hm4⟩ : ∃ m : Int, (if (c.length : Int) > (if (b.size : Int) > (a.size : Int) then (b.size : Int) else (a.size : Int)) then (c.length : Int) else (if (b.size : Int) > (a.size : Int) then (b.size : Int) else (a.size : Int))) = m ∧ ¬ 4096 < m := ⟨_, rfl, by split <;> (try split) <;> omega⟩
      clear hbig
      go_wp2_with fail
      all_goals
        go_meet
        exact ⟨congrArg Value.bool (decide_eq_false (by omega)), rfl⟩
    case rest =>
      obtain ⟨rfl, rfl⟩ := hcut
      obtain ⟨w, rfl⟩ : ∃ w, w = wc := ⟨_, rfl⟩
      have HCA := Lib.hid (bytes_bs w a (by omega))
      go_upto_region 4 with (first
        | (go_at_call 8; refine (sum_any _ a.data.toList _ HCA.out hsla (HG.out.below (bytes_below w a) (Nat.le_refl _))).mono ?_; rintro e w1 ⟨rfl, hb1⟩; have HB1 := Lib.hid ((bytes_below w a).trans (hb1.mono (bytes_below w a).size)); clear hb1 HCA)
        | (refine wpList_store_row rfl _ (.tmp 7) (.tmp 20) rfl w1.heap.size ((Bl.sum a.data.toList).map u8v).toArray rfl rfl _ _ (heap_alloc_new w1 _) (info_hash_of HSA.out) (by simp [HSA.out]) (all_u8 _) ?_))
      have hw2 : W8 ((w1.alloc (.cells #[.int .u8 0, .int .u8 0, .int .u8 0, .int .u8 0, .int .u8 0, .int .u8 0, .int .u8 0, .int .u8 0, .int .u8 0, .int .u8 0, .int .u8 0, .int .u8 0, .int .u8 0, .int .u8 0, .int .u8 0, .int .u8 0, .int .u8 0, .int .u8 0, .int .u8 0, .int .u8 0, .int .u8 0, .int .u8 0, .int .u8 0, .int .u8 0, .int .u8 0, .int .u8 0, .int .u8 0, .int .u8 0, .int .u8 0, .int .u8 0, .int .u8 0, .int .u8 0] 24)).setRow w1.heap.size ((Bl.sum a.data.toList).map u8v).toArray) w1.heap.size 24 (Bl.sum a.data.toList) := setRow_heap _ _ _ _ _ _ (heap_alloc_new w1 _)
      have hb2 : Below w.heap.size w ((w1.alloc (.cells #[.int .u8 0, .int .u8 0, .int .u8 0, .int .u8 0, .int .u8 0, .int .u8 0, .int .u8 0, .int .u8 0, .int .u8 0, .int .u8 0, .int .u8 0, .int .u8 0, .int .u8 0, .int .u8 0, .int .u8 0, .int .u8 0, .int .u8 0, .int .u8 0, .int .u8 0, .int .u8 0, .int .u8 0, .int .u8 0, .int .u8 0, .int .u8 0, .int .u8 0, .int .u8 0, .int .u8 0, .int .u8 0, .int .u8 0, .int .u8 0, .int .u8 0, .int .u8 0] 24)).setRow w1.heap.size ((Bl.sum a.data.toList).map u8v).toArray) := below_setRow (HB1.out.alloc HB1.out.size _) HB1.out.size _
      generalize (w1.alloc (.cells #[.int .u8 0, .int .u8 0, .int .u8 0, .int .u8 0, .int .u8 0, .int .u8 0, .int .u8 0, .int .u8 0, .int .u8 0, .int .u8 0, .int .u8 0, .int .u8 0, .int .u8 0, .int .u8 0, .int .u8 0, .int .u8 0, .int .u8 0, .int .u8 0, .int .u8 0, .int .u8 0, .int .u8 0, .int .u8 0, .int .u8 0, .int .u8 0, .int .u8 0, .int .u8 0, .int .u8 0, .int .u8 0, .int .u8 0, .int .u8 0, .int .u8 0, .int .u8 0] 24)).setRow w1.heap.size ((Bl.sum a.data.toList).map u8v).toArray = w2 at hw2 hb2 ⊢
      generalize w1.heap.size = g at hw2 ⊢
      have HW2 := Lib.hid hw2
      have HB2 := Lib.hid hb2
      clear hw2 hb2 HB1
      have HCB := Lib.hid (bytes_bs w2 b (by omega))
      have HBB := Lib.hid (HB2.out.trans ((bytes_below w2 b).mono HB2.out.size))
      have HW3 := Lib.hid (HW2.out.keep ((bytes_below w2 b).block _ HW2.out.lt))
      go_frame
      go_upto_region 5 with (first
        | (go_at_call 8; refine (sum_any _ b.data.toList _ HCB.out hslb (HL.out _ HBB.out).2).mono ?_; rintro e w3 ⟨rfl, hb3⟩; have HB3 := Lib.hid (HBB.out.trans (hb3.mono HBB.out.size)); have HW4 := Lib.hid (HW3.out.keep (hb3.block _ HW3.out.lt)); clear hb3 HCB HBB HW3)
        | (refine wpList_store_row rfl _ (.tmp 8) (.tmp 23) rfl w3.heap.size ((Bl.sum b.data.toList).map u8v).toArray rfl rfl _ _ (heap_alloc_new w3 _) (info_hash_of HSB.out) (by simp [HSB.out]) (all_u8 _) ?_))
      have hw2 : W8 ((w3.alloc (.cells #[.int .u8 0, .int .u8 0, .int .u8 0, .int .u8 0, .int .u8 0, .int .u8 0, .int .u8 0, .int .u8 0, .int .u8 0, .int .u8 0, .int .u8 0, .int .u8 0, .int .u8 0, .int .u8 0, .int .u8 0, .int .u8 0, .int .u8 0, .int .u8 0, .int .u8 0, .int .u8 0, .int .u8 0, .int .u8 0, .int .u8 0, .int .u8 0, .int .u8 0, .int .u8 0, .int .u8 0, .int .u8 0, .int .u8 0, .int .u8 0, .int .u8 0, .int .u8 0] 24)).setRow w3.heap.size ((Bl.sum b.data.toList).map u8v).toArray) w3.heap.size 24 (Bl.sum b.data.toList) := setRow_heap _ _ _ _ _ _ (heap_alloc_new w3 _)
      have hb3 : Below w3.heap.size w3 ((w3.alloc (.cells #[.int .u8 0, .int .u8 0, .int .u8 0, .int .u8 0, .int .u8 0, .int .u8 0, .int .u8 0, .int .u8 0, .int .u8 0, .int .u8 0, .int .u8 0, .int .u8 0, .int .u8 0, .int .u8 0, .int .u8 0, .int .u8 0, .int .u8 0, .int .u8 0, .int .u8 0, .int .u8 0, .int .u8 0, .int .u8 0, .int .u8 0, .int .u8 0, .int .u8 0, .int .u8 0, .int .u8 0, .int .u8 0, .int .u8 0, .int .u8 0, .int .u8 0, .int .u8 0] 24)).setRow w3.heap.size ((Bl.sum b.data.toList).map u8v).toArray) := below_setRow ((Below.refl _ _).alloc (Nat.le_refl _) _) (Nat.le_refl _) _
      generalize (w3.alloc (.cells #[.int .u8 0, .int .u8 0, .int .u8 0, .int .u8 0, .int .u8 0, .int .u8 0, .int .u8 0, .int .u8 0, .int .u8 0, .int .u8 0, .int .u8 0, .int .u8 0, .int .u8 0, .int .u8 0, .int .u8 0, .int .u8 0, .int .u8 0, .int .u8 0, .int .u8 0, .int .u8 0, .int .u8 0, .int .u8 0, .int .u8 0, .int .u8 0, .int .u8 0, .int .u8 0, .int .u8 0, .int .u8 0, .int .u8 0, .int .u8 0, .int .u8 0, .int .u8 0] 24)).setRow w3.heap.size ((Bl.sum b.data.toList).map u8v).toArray = w4 at hw2 hb3 ⊢
      generalize w3.heap.size = gb at hw2 ⊢
      have HB4 := Lib.hid (HB3.out.trans (hb3.mono HB3.out.size))
      have HWA := Lib.hid (HW4.out.keep (hb3.block _ HW4.out.lt))
      have HWB := Lib.hid hw2
      clear hw2 hb3 HB3 HW4 HW2 HB2
      go_frame
      go_cut [35] (fun v wx => v = .bool false ∧ Below w.heap.size w wx ∧ W8 wx g 24 (Bl.sum a.data.toList))
      case first =>
        by_cases hxy : Bl.sum a.data.toList = Bl.sum b.data.toList
        · have heq : ∀ W, (Op.equalIn 10000 24 (.agg ((Bl.sum a.data.toList).map u8v).toArray) (.agg ((Bl.sum b.data.toList).map u8v).toArray)).run Tryd.prog W = .ok true W := fun W => by
            rw [eq_hash _ _ HSA.out HSB.out, hxy]; simp
          have heq2 : ∀ W, (Op.equalIn 10000 24 (.agg ((Bl.tagged a.data.toList c).map u8v).toArray) (.agg ((Bl.tagged b.data.toList c).map u8v).toArray)).run Tryd.prog W = .ok true W := fun W => by
            rw [eq_hash _ _ (Bl.len_tagged _ _) (Bl.len_tagged _ _)]; simp [Bl.tagged, hxy]
          clear hxy
          go_wp2_with (first
            | (refine wpList_load_row rfl _ (.tmp 7) rfl g rfl _ _ (0, 0) _ HWA.out Tryd.underlying24 rfl (info_hash_of HSA.out) ?_)
            | (refine wpList_load_row rfl _ (.tmp 8) rfl gb rfl _ _ (0, 0) _ HWB.out Tryd.underlying24 rfl (info_hash_of HSB.out) ?_)
            | (go_at_call_of 29 (Value.string a); refine (tagged_any a _ c _ (HL.out _ HB4.out).1 (by omega) (by omega) (HL.out _ HB4.out).2).mono ?_; rintro e w5 ⟨rfl, hb5⟩; have HB5 := Lib.hid (HB4.out.trans (hb5.mono HB4.out.size)); have HW5 := Lib.hid (HWA.out.keep (hb5.block _ HWA.out.lt)); clear hb5)
            | (go_at_call 29; refine (tagged_any b _ c _ (HL.out _ HB5.out).1 (by omega) (by omega) (HL.out _ HB5.out).2).mono ?_; rintro e w6 ⟨rfl, hb6⟩; have HB6 := Lib.hid (HB5.out.trans (hb6.mono HB5.out.size)); have HW6 := Lib.hid (HW5.out.keep (hb6.block _ HW5.out.lt)); clear hb6))
          all_goals
            go_meet
            exact ⟨rfl, HB6.out, HW6.out⟩
        · have heq : ∀ W, (Op.equalIn 10000 24 (.agg ((Bl.sum a.data.toList).map u8v).toArray) (.agg ((Bl.sum b.data.toList).map u8v).toArray)).run Tryd.prog W = .ok false W := fun W => by
            rw [eq_hash _ _ HSA.out HSB.out]; simp [hxy]
          clear hxy
          go_wp2_with (first
            | (refine wpList_load_row rfl _ (.tmp 7) rfl g rfl _ _ (0, 0) _ HWA.out Tryd.underlying24 rfl (info_hash_of HSA.out) ?_)
            | (refine wpList_load_row rfl _ (.tmp 8) rfl gb rfl _ _ (0, 0) _ HWB.out Tryd.underlying24 rfl (info_hash_of HSB.out) ?_))
          all_goals
            go_meet
            exact ⟨rfl, HB4.out, HWA.out⟩
      case rest =>
        obtain ⟨rfl, hb5, hw5⟩ := hcut
        clear HB4 HWA HWB
        have heq : ∀ W, (Op.equalIn 10000 24 (.agg ((Bl.tagged a.data.toList c).map u8v).toArray) (.agg ((Bl.sum (Bl.sum a.data.toList ++ c)).map u8v).toArray)).run Tryd.prog W = .ok true W := fun W => by
          rw [eq_hash _ _ (Bl.len_tagged _ _) (Bl.len_sum _)]; simp [Bl.tagged]
        have HB5 := Lib.hid hb5
        have hgl := hw5.lt
        have hs : SS wc g (Bl.sum a.data.toList) wc.drew := ⟨below_drew (Below.refl _ _), hw5⟩
        clear hb5 hw5
        go_wp2_with fail
        go_region_held3 (fun W => SS wc g (Bl.sum a.data.toList) W) (first | exact hs)
          (first
            | (go_at_call 29; refine (tagged_any a _ c _ (HL.out _ (HB5.out.trans (hs.1.mono HB5.out.size))).1 (by omega) (by omega) (HL.out _ (HB5.out.trans (hs.1.mono HB5.out.size))).2).mono ?_; rintro e wt ⟨rfl, hbt⟩; replace hs := hs.step hbt; (try replace ho := OwnB.below ho hbt (Nat.le_refl _)); (try replace ho2 := OwnB.below ho2 hbt (Nat.le_refl _)); clear hbt)
            | (go_at_call 23; refine (copyBytes _ (Bl.sum a.data.toList) _ (hs.2.bs HSA.out (by omega)) (by rw [HSA.out]; omega)).mono ?_; rintro e w1 ⟨v1, rfl, ho, hbc⟩; replace ho := OwnB.low ho hs.1.size; replace hs := hs.step hbc; clear hbc)
            | (refine step_app_b rfl (.tmp 40) (.tmp 41) rfl wc.heap.size _ (Bl.sum a.data.toList) rfl ho _ Ac c.length cc c rfl ((HRC.out.below (HB5.out.trans (hs.1.mono HB5.out.size)) (Nat.le_refl _))) (by rw [HSA.out]; omega) hs.1.size ?_; intro v2 w2 ho2 hgr _; replace hs := hs.grown hgl hgr (fun k hk => (ho.lt k hk).1); clear hgr ho)
            | (go_at_call 8; refine (sum_any _ (Bl.sum a.data.toList ++ c) _ ho2.bs (by rw [List.length_append, HSA.out]; omega) (HL.out _ (HB5.out.trans (hs.1.mono HB5.out.size))).2).mono ?_; rintro e w3 ⟨rfl, hbs⟩; replace hs := hs.step hbs; clear hbs ho2)
            | (go_at_call 14; refine (works_any _ (HL.out _ (HB5.out.trans (hs.1.mono HB5.out.size))).2).mono ?_; rintro e w8 ⟨rfl, hb8⟩; replace hs := hs.step hb8; clear hb8))
        all_goals
          go_wp2_with fail
          go_ret
          exact ⟨rfl, HB5.out.trans (hs.1.mono HB5.out.size)⟩
end Go.Proofs.YtdalmmkjmfpffaaDoor.Old
