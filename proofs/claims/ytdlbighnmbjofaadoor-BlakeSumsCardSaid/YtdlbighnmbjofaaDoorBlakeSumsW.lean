/- The reference's digests under a tag; the statement BlakeSums, walked. -/
import Derived.Test.YtdlbighnmbjofaaDoorRefD
import Derived.Test.YtdlbighnmbjofaaDoorBlakeKeysW
namespace Go.Proofs.YtdlbighnmbjofaaDoor
open Go Go.RowKit
attribute [local go_sem ↓] Go.wp_at_zero Go.wp_at_succ

set_option maxRecDepth 100000 in
set_option maxHeartbeats 1000000 in
theorem tagged_ref {S : Nat → Prop} (s : ByteArray) (bv : Value) (b : List UInt8) (w : World) (hb : Bs w S bv b) (hs : s.size ≤ 1000000000) (hbl : b.length ≤ 1000000000) :
    Calls Tryd.prog 14 #[.string s, bv] w (keyedPost w (Bl.tagged s.data.toList b)) := by
  have hR : W8 (w.alloc (.cells #[.int .u8 0, .int .u8 0, .int .u8 0, .int .u8 0, .int .u8 0, .int .u8 0, .int .u8 0, .int .u8 0, .int .u8 0, .int .u8 0, .int .u8 0, .int .u8 0, .int .u8 0, .int .u8 0, .int .u8 0, .int .u8 0, .int .u8 0, .int .u8 0, .int .u8 0, .int .u8 0, .int .u8 0, .int .u8 0, .int .u8 0, .int .u8 0, .int .u8 0, .int .u8 0, .int .u8 0, .int .u8 0, .int .u8 0, .int .u8 0, .int .u8 0, .int .u8 0] 25)) w.heap.size 25 (List.replicate 32 0) := heap_alloc_new w _
  have hK0 : KR w (w.alloc (.cells #[.int .u8 0, .int .u8 0, .int .u8 0, .int .u8 0, .int .u8 0, .int .u8 0, .int .u8 0, .int .u8 0, .int .u8 0, .int .u8 0, .int .u8 0, .int .u8 0, .int .u8 0, .int .u8 0, .int .u8 0, .int .u8 0, .int .u8 0, .int .u8 0, .int .u8 0, .int .u8 0, .int .u8 0, .int .u8 0, .int .u8 0, .int .u8 0, .int .u8 0, .int .u8 0, .int .u8 0, .int .u8 0, .int .u8 0, .int .u8 0, .int .u8 0, .int .u8 0] 25)) := ⟨hR, (Below.refl _ _).alloc (Nat.le_refl _) _⟩
  obtain ⟨Ab, cb, rfl, hcb, hcb2, hrb⟩ := hb.op
  have hsl : s.data.toList.length ≤ 1000000000000 := by simp; omega
  have HS := Lib.hid hrb
  have HL := Lib.hid (Bl.len_sum s.data.toList)
  have HT := Lib.hid (Bl.len_tagged s.data.toList b)
  have kc := fun (W : World) => Lib.run_convert_string_bytes (P := Tryd.prog) W 9 22 5 s Tryd.underlying9 Tryd.underlying22 Tryd.underlying5
  go_enter Tryd.func14, Tryd.ntmps14
  go_upto_region 1 with (fail)
  generalize w.alloc (.cells #[.int .u8 0, .int .u8 0, .int .u8 0, .int .u8 0, .int .u8 0, .int .u8 0, .int .u8 0, .int .u8 0, .int .u8 0, .int .u8 0, .int .u8 0, .int .u8 0, .int .u8 0, .int .u8 0, .int .u8 0, .int .u8 0, .int .u8 0, .int .u8 0, .int .u8 0, .int .u8 0, .int .u8 0, .int .u8 0, .int .u8 0, .int .u8 0, .int .u8 0, .int .u8 0, .int .u8 0, .int .u8 0, .int .u8 0, .int .u8 0, .int .u8 0, .int .u8 0] 25) = w0 at hK0 ⊢
  have HC := Lib.hid (bytes_bs w0 s (by omega))
  have HKC := Lib.hid (hK0.below (bytes_below w0 s) hK0.lt)
  clear hR hb hrb hK0
  go_upto_region 2 with (first
    | (go_at_call 12; refine (sum_ref _ s.data.toList _ HC.out hsl).mono ?_; rintro e w1 ⟨rfl, hb1⟩; have HK1 := Lib.hid (HKC.out.below hb1 HKC.out.lt); clear hb1 HC HKC)
    | (refine wpList_store_row rfl _ (.tmp 5) (.tmp 9) rfl w1.heap.size ((Bl.sum s.data.toList).map u8v).toArray rfl rfl _ _ (heap_alloc_new w1 _) (info_hash_of HL.out) (by simp [HL.out]) (all_u8 _) ?_))
  have hw2 : W8 ((w1.alloc (.cells #[.int .u8 0, .int .u8 0, .int .u8 0, .int .u8 0, .int .u8 0, .int .u8 0, .int .u8 0, .int .u8 0, .int .u8 0, .int .u8 0, .int .u8 0, .int .u8 0, .int .u8 0, .int .u8 0, .int .u8 0, .int .u8 0, .int .u8 0, .int .u8 0, .int .u8 0, .int .u8 0, .int .u8 0, .int .u8 0, .int .u8 0, .int .u8 0, .int .u8 0, .int .u8 0, .int .u8 0, .int .u8 0, .int .u8 0, .int .u8 0, .int .u8 0, .int .u8 0] 25)).setRow w1.heap.size ((Bl.sum s.data.toList).map u8v).toArray) w1.heap.size 25 (Bl.sum s.data.toList) := setRow_heap _ _ _ _ _ _ (heap_alloc_new w1 _)
  have hb2 : Below w1.heap.size w1 ((w1.alloc (.cells #[.int .u8 0, .int .u8 0, .int .u8 0, .int .u8 0, .int .u8 0, .int .u8 0, .int .u8 0, .int .u8 0, .int .u8 0, .int .u8 0, .int .u8 0, .int .u8 0, .int .u8 0, .int .u8 0, .int .u8 0, .int .u8 0, .int .u8 0, .int .u8 0, .int .u8 0, .int .u8 0, .int .u8 0, .int .u8 0, .int .u8 0, .int .u8 0, .int .u8 0, .int .u8 0, .int .u8 0, .int .u8 0, .int .u8 0, .int .u8 0, .int .u8 0, .int .u8 0] 25)).setRow w1.heap.size ((Bl.sum s.data.toList).map u8v).toArray) := below_setRow ((Below.refl _ _).alloc (Nat.le_refl _) _) (Nat.le_refl _) _
  generalize (w1.alloc (.cells #[.int .u8 0, .int .u8 0, .int .u8 0, .int .u8 0, .int .u8 0, .int .u8 0, .int .u8 0, .int .u8 0, .int .u8 0, .int .u8 0, .int .u8 0, .int .u8 0, .int .u8 0, .int .u8 0, .int .u8 0, .int .u8 0, .int .u8 0, .int .u8 0, .int .u8 0, .int .u8 0, .int .u8 0, .int .u8 0, .int .u8 0, .int .u8 0, .int .u8 0, .int .u8 0, .int .u8 0, .int .u8 0, .int .u8 0, .int .u8 0, .int .u8 0, .int .u8 0] 25)).setRow w1.heap.size ((Bl.sum s.data.toList).map u8v).toArray = w2 at hw2 hb2 ⊢
  generalize w1.heap.size = g at hw2 ⊢
  have HK2 := Lib.hid (HK1.out.below hb2 HK1.out.lt)
  have HW2 := Lib.hid hw2
  clear hw2 hb2 HK1
  have hl1 : ([] : List UInt8).length + 32 ≤ 1099511627776 := by decide
  have hl2 : (Bl.sum s.data.toList).length + b.length ≤ 1099511627776 := by rw [HL.out]; omega
  go_wp2_with (first
    | (at_builtin; refine app_b rfl (.tmp 10) (.tmp 11) rfl (w.heap.size + 1) _ [] rfl (OwnB.nil _ _) (fun _ => True) (some ⟨g, 0, none⟩) 32 32 (Bl.sum s.data.toList) rfl (HW2.out.rd HL.out) hl1 HK2.out.lt ?_; intro v3 w3 ho3 hg3 _; simp only [List.nil_append] at ho3; have HO3 := Lib.hid ho3; have HK3 := Lib.hid (HK2.out.grown hg3 (fun k hk => by cases hk)); clear ho3 hg3)
    | (at_builtin; refine app_b rfl (.tmp 13) (.tmp 14) rfl (w.heap.size + 1) _ (Bl.sum s.data.toList) rfl HO3.out S Ab b.length cb b rfl (HS.out.below HK3.out.b (Nat.le_refl _)) hl2 HK3.out.lt ?_; intro v4 w4 ho4 hg4 _; have HO4 := Lib.hid ho4.bs; have HK4 := Lib.hid (HK3.out.grown hg4 (fun k hk => (HO3.out.lt k hk).1)); clear ho4 hg4)
    | (go_at_call 12; refine (sum_ref _ (Bl.sum s.data.toList ++ b) _ HO4.out (by rw [List.length_append, HL.out]; omega)).mono ?_; rintro e w5 ⟨rfl, hb5⟩; have HK5 := Lib.hid (HK4.out.below hb5 HK4.out.lt); clear hb5; rw [show Bl.sum (Bl.sum s.data.toList ++ b) = Bl.tagged s.data.toList b from rfl])
    | (refine wpList_store_row rfl _ (.tmp 4) (.tmp 16) rfl w.heap.size ((Bl.tagged s.data.toList b).map u8v).toArray rfl rfl _ _ HK5.out.r (info_hash_of HT.out) (by simp [HT.out]) (all_u8 _) ?_))
  refine bodyPost_ret (results_cell_row (by rfl) _ _ w.heap.size _ ((Bl.tagged s.data.toList b).map u8v).toArray (0, 0) _ (by rfl) (setRow_heap _ _ _ _ _ _ HK5.out.r) Tryd.underlying25 rfl (info_hash_of HT.out)) rfl ?_
  exact ⟨rfl, below_setRow HK5.out.b (Nat.le_refl _) _⟩

/-- What lies in memory, in every later world. -/
def LiesS (w : World) (S S' : Nat → Prop) (kv bv : Value) (key b : List UInt8) : Prop := ∀ W, Below w.heap.size w W → Bs W S kv key ∧ Bs W S' bv b ∧ Gl W
def Lies4 (w : World) (xv yv kv bv : Value) (x y key b : List UInt8) : Prop := ∀ W, Below w.heap.size w W → (Bs W (fun _ => True) xv x ∧ Bs W (fun _ => True) yv y) ∧ Bs W (fun _ => True) kv key ∧ Bs W (fun _ => True) bv b ∧ Gl W

/-- The head of a row that was lent. -/
theorem Bs.head {w : World} {S : Nat → Prop} {A : Option Addr} {c n k : Nat} {l r : List UInt8} (h : Bs w S (.slice A n c) (l ++ r)) (hk : l.length = k) : Bs w S (.slice A k c) l := by
  subst hk
  obtain ⟨A', c', e, h1, h2, h3⟩ := h.op
  cases e
  rw [List.length_append] at h1 h3
  refine Bs.mk ?_ (by omega) h2
  have := h3.cutv (a := 0) (m := l.length) (by omega) (A' := A) (fun _ => by cases A <;> simp [Addr.add])
  rwa [List.drop_zero, List.take_append_of_le_length (Nat.le_refl _), List.take_of_length_le (Nat.le_refl _)] at this

set_option maxRecDepth 100000 in
set_option maxHeartbeats 4000000 in
theorem sums_any {S S' : Nat → Prop} (kv bv : Value) (key b : List UInt8) (s : ByteArray) (w : World) (hk : Bs w S kv key) (hb : Bs w S' bv b) (hG : Gl w) :
    Calls Tryd.prog 4 #[kv, bv, .string s] w (RetT w) := by
  have HL : Hid (LiesS w S S' kv bv key b) := fun W hW => ⟨hk.below hW (Nat.le_refl _), hb.below hW (Nat.le_refl _), hG.below hW (Nat.le_refl _)⟩
  have hkl := hk.len
  have hbl := hb.len
  obtain ⟨Ak, ck, rfl, hck, hck2, _⟩ := hk.op
  obtain ⟨Ab, cb, rfl, hcb, hcb2, _⟩ := hb.op
  have HG := Lib.hid hG
  clear hk hb hG
  by_cases hbig : 4096 < max (max key.length b.length) s.size
  · have hb1 : (4096 : Int) < max (max (key.length : Int) (b.length : Int)) (s.size : Int) := by omega
    obtain ⟨m, hm, hm4⟩ : ∃ m : Int, (if (s.size : Int) > (if (b.length : Int) > (key.length : Int) then (b.length : Int) else (key.length : Int)) then (s.size : Int) else (if (b.length : Int) > (key.length : Int) then (b.length : Int) else (key.length : Int))) = m ∧ 4096 < m := ⟨_, rfl, by split <;> (try split) <;> omega⟩
    clear hbig
    go_enter Tryd.func4, Tryd.ntmps4
    go_wp2_with (first
      | (go_at_call 7; refine (works_any _ HG.out).mono ?_; rintro e w1 ⟨rfl, hb1⟩; have HB1 := Lib.hid hb1; clear hb1))
    all_goals
      go_ret
      exact ⟨rfl, HB1.out⟩
  · have hb1 : ¬ (4096 : Int) < max (max (key.length : Int) (b.length : Int)) (s.size : Int) := by omega
    have hk1 : key.length ≤ 4096 := by omega
    have hb2 : b.length ≤ 4096 := by omega
    have hs2 : s.size ≤ 4096 := by omega
    go_enter Tryd.func4, Tryd.ntmps4
    go_upto_region 1 with (fail)
    go_cut [18] (fun v wx => v = .bool false ∧ wx = w)
    case first =>
      obtain ⟨m, hm, hm4⟩ : ∃ m : Int, (if (s.size : Int) > (if (b.length : Int) > (key.length : Int) then (b.length : Int) else (key.length : Int)) then (s.size : Int) else (if (b.length : Int) > (key.length : Int) then (b.length : Int) else (key.length : Int))) = m ∧ ¬ 4096 < m := ⟨_, rfl, by split <;> (try split) <;> omega⟩
      clear hbig
      go_wp2_with fail
      all_goals
        go_meet
        exact ⟨congrArg Value.bool (decide_eq_false (by omega)), rfl⟩
    case rest =>
      obtain ⟨rfl, rfl⟩ := hcut
      obtain ⟨w, rfl⟩ : ∃ w, w = wc := ⟨_, rfl⟩
      have hmax : ∀ l : List UInt8, (l ++ marks 5).length = l.length + 5 := fun l => by rw [List.length_append, marks_len]
      have HMX := Lib.hid hmax
      clear hmax hbig hb1
      go_wp2_with fail
      refine (lentBytes _ key _ (HL.out _ (Below.refl _ _)).1 (by omega)).mono ?_
      rintro e w1 ⟨v1, rfl, ho1, hb1⟩
      obtain ⟨A1, c1, rfl, hc11, hc12⟩ := ho1.form
      rw [HMX.out] at hc11
      rw [HMX.out]
      have HX1 := Lib.hid ho1.bs
      have HB1 := Lib.hid hb1
      clear ho1 hb1
      go_wp2_with fail
      refine (lentBytes _ b _ (HL.out _ HB1.out).2.1 (by omega)).mono ?_
      rintro e w2 ⟨v2, rfl, ho2, hb2⟩
      obtain ⟨A2, c2, rfl, hc21, hc22⟩ := ho2.form
      rw [HMX.out] at hc21
      rw [HMX.out]
      have hx1 := HX1.out.below hb2 (Nat.le_refl _)
      have hx2 := ho2.bs
      rw [HMX.out] at hx1 hx2
      have HB2 := Lib.hid (HB1.out.trans (hb2.mono HB1.out.size))
      have HL4 : Hid (Lies4 w2 (.slice A1 (key.length + 5) c1) (.slice A2 (b.length + 5) c2) (.slice A1 key.length c1) (.slice A2 b.length c2) (key ++ marks 5) (b ++ marks 5) key b) := fun W hW =>
        ⟨⟨(hx1.below hW (Nat.le_refl _)).mono (fun _ _ _ => trivial), (hx2.below hW (Nat.le_refl _)).mono (fun _ _ _ => trivial)⟩, ((hx1.below hW (Nat.le_refl _)).mono (fun _ _ _ => trivial)).head rfl, ((hx2.below hW (Nat.le_refl _)).mono (fun _ _ _ => trivial)).head rfl, (HL.out _ (HB2.out.trans (hW.mono HB2.out.size))).2.2⟩
      have hla : key.length ≤ c1 := by omega
      have hlb : b.length ≤ c2 := by omega
      have HR2 : Hid (Below w2.heap.size w2 w2) := Below.refl _ _
      clear hx1 hx2 ho2 hb2 HX1 HB1
      have heq1 : ∀ W, (Op.equalIn 10000 25 (.agg ((Bl.keyed key b).map u8v).toArray) (.agg ((Bl.keyed key b).map u8v).toArray)).run Tryd.prog W = .ok true W := fun W => by
        rw [eq_hash _ _ (Bl.len_keyed _ _) (Bl.len_keyed _ _)]; simp
      have heq2 : ∀ W, (Op.equalIn 10000 25 (.agg ((Bl.sum b).map u8v).toArray) (.agg ((Bl.sum b).map u8v).toArray)).run Tryd.prog W = .ok true W := fun W => by
        rw [eq_hash _ _ (Bl.len_sum _) (Bl.len_sum _)]; simp
      have heq3 : ∀ W, (Op.equalIn 10000 25 (.agg ((Bl.tagged s.data.toList b).map u8v).toArray) (.agg ((Bl.tagged s.data.toList b).map u8v).toArray)).run Tryd.prog W = .ok true W := fun W => by
        rw [eq_hash _ _ (Bl.len_tagged _ _) (Bl.len_tagged _ _)]; simp
      have hdk : decide (key ++ marks 5 = key ++ marks 5) = true := by simp
      have hdb : decide (b ++ marks 5 = b ++ marks 5) = true := by simp
      go_wp2_with (first
        | (go_at_call 9; refine (keyed_any _ _ key b _ (HL4.out _ HR2.out).2.1 (HL4.out _ HR2.out).2.2.1 (by omega) (by omega) (HL4.out _ HR2.out).2.2.2).mono ?_; rintro e w3 ⟨rfl, hb3⟩; have HB3 := Lib.hid (HR2.out.trans (hb3.mono HR2.out.size)); clear hb3)
        | (go_at_call 11; refine (keyed_ref _ _ key b _ (HL.out _ (HB2.out.trans (HB3.out.mono HB2.out.size))).1 (HL.out _ (HB2.out.trans (HB3.out.mono HB2.out.size))).2.1 (by omega) (by omega)).mono ?_; rintro e w4 ⟨rfl, hb4⟩; have HB4 := Lib.hid (HB3.out.trans (hb4.mono HB3.out.size)); clear hb4)
        | (go_at_call 8; refine (sum_any _ b _ (HL4.out _ HB4.out).2.2.1 (by omega) (HL4.out _ HB4.out).2.2.2).mono ?_; rintro e w5 ⟨rfl, hb5⟩; have HB5 := Lib.hid (HB4.out.trans (hb5.mono HB4.out.size)); clear hb5)
        | (go_at_call 12; refine (sum_ref _ b _ (HL.out _ (HB2.out.trans (HB5.out.mono HB2.out.size))).2.1 (by omega)).mono ?_; rintro e w6 ⟨rfl, hb6⟩; have HB6 := Lib.hid (HB5.out.trans (hb6.mono HB5.out.size)); clear hb6)
        | (go_at_call 13; refine (tagged_any s _ b _ (HL4.out _ HB6.out).2.2.1 (by omega) (by omega) (HL4.out _ HB6.out).2.2.2).mono ?_; rintro e w7 ⟨rfl, hb7⟩; have HB7 := Lib.hid (HB6.out.trans (hb7.mono HB6.out.size)); clear hb7)
        | (go_at_call 14; refine (tagged_ref s _ b _ (HL.out _ (HB2.out.trans (HB7.out.mono HB2.out.size))).2.1 (by omega) (by omega)).mono ?_; rintro e w8 ⟨rfl, hb8⟩; have HB8 := Lib.hid (HB7.out.trans (hb8.mono HB7.out.size)); clear hb8)
        | (go_at_call 15; refine (keptBytes _ _ (key ++ marks 5) key _ (HL4.out _ HB8.out).1.1 (HL.out _ (HB2.out.trans (HB8.out.mono HB2.out.size))).1 (by omega)).mono ?_; rintro e w9 ⟨rfl, hb9⟩; have HB9 := Lib.hid (HB8.out.trans (hb9.mono HB8.out.size)); clear hb9 HB8)
        | (go_at_call 15; refine (keptBytes _ _ (b ++ marks 5) b _ (HL4.out _ HB9.out).1.2 (HL.out _ (HB2.out.trans (HB9.out.mono HB2.out.size))).2.1 (by omega)).mono ?_; rintro e w10 ⟨rfl, hb10⟩; have HB10 := Lib.hid (HB9.out.trans (hb10.mono HB9.out.size)); clear hb10)
        | (go_at_call 7; refine (works_any _ (HL4.out _ HB10.out).2.2.2).mono ?_; rintro e w11 ⟨rfl, hb11⟩; have HB11 := Lib.hid (HB10.out.trans (hb11.mono HB10.out.size)); clear hb11))
      go_ret
      exact ⟨rfl, HB2.out.trans (HB11.out.mono HB2.out.size)⟩
end Go.Proofs.YtdlbighnmbjofaaDoor
