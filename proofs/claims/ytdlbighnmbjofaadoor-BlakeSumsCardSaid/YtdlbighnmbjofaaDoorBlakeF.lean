/- Digests under a tag; append onto a slice with no room; a string's bytes in new memory. -/
import Derived.Test.YtdlbighnmbjofaaDoorBlakeD
import Derived.Lib.ConvBytes
import Derived.Deep.AppendSrc
namespace Go.Proofs.YtdlbighnmbjofaaDoor
open Go Go.RowKit

/-- A new row of bytes with spare places, read. -/
theorem Rd.fresh {w : World} {cs : Array Value} {t : TypeId} {fr : Nat × Nat} {g : Nat} (l : List UInt8) (hg : w.heap[g]? = some (.cells cs t fr)) (hc : ∃ tl, cs.toList = l.map u8v ++ tl) {S : Nat → Prop} (hS : S g) {n : Nat} (hn : l.length = n) : Rd w S 1 (some ⟨g, 0, none⟩) n (l.map u8v) := by
  subst hn
  refine ⟨by simp, fun _ => ⟨g, 0, rfl, ⟨(Array.getElem?_eq_some_iff.1 hg).1, hS⟩, fun j u hu => ?_⟩⟩
  obtain ⟨tl, ht⟩ := hc
  rw [Nat.zero_add, cell_of_row _ _ _ _ _ _ hg, ← Array.getElem?_toList, ht, List.getElem?_append_left (List.getElem?_eq_some_iff.1 hu).1]
  exact hu

theorem first_of {w : World} {S : Nat → Prop} {A : Option Addr} {n c : Nat} {l : List UInt8} (hl : Rd w S 1 A n (l.map u8v)) : (Builtin.firstCells 1 n (.slice A n c)).run Tryd.prog w = .ok (l.map u8v).toArray w := by
  have hn := hl.blen
  rcases A with _ | ad
  · by_cases h0 : 0 < n
    · obtain ⟨g, o, h, _⟩ := hl.2 h0
      cases h
    · obtain rfl : l = [] := List.eq_nil_of_length_eq_zero (by omega)
      exact run_firstCells_none w 1 n n c
  · refine run_firstCells_some w 1 n ad n c (l.map u8v) (by simp [hn]) (fun j v hv => ?_)
    have hj : j < l.length := by simpa using (List.getElem?_eq_some_iff.1 hv).1
    obtain ⟨g, o, h, _, hc⟩ := hl.2 (by omega)
    cases h
    rw [show (⟨g, o, none⟩ : Addr).add j = ⟨g, o + j, none⟩ by unfold Addr.add; split <;> simp_all]
    exact hc j v hv

/-- append onto a slice with no room: nothing old is written. -/
theorem run_full {S S' : Nat → Prop} (w : World) (ty : TypeId) (A B : Option Addr) (n k m c : Nat) (l r : List UInt8) (hl : Rd w S 1 A n (l.map u8v)) (hr : Rd w S' 1 B m (r.map u8v)) (hk : k = n) (hlen : n + m ≤ 1099511627776) :
    ∃ v' w', (Builtin.append_ #[22, 22] ty #[.slice A n k, .slice B m c]).run Tryd.prog w = .ok v' w' ∧ Bs w' (fun _ => True) v' (l ++ r) ∧ Below w.heap.size w w' := by
  subst hk
  obtain ⟨i, hi, hz, hs1, hb1⟩ := info_parts info_u8
  have hln : l.length = k := hl.blen
  have hrm : r.length = m := hr.blen
  by_cases h0 : m = 0
  · subst h0
    obtain rfl : r = [] := List.eq_nil_of_length_eq_zero hrm
    refine ⟨.slice A k k, w, ?_, ?_, Below.refl _ _⟩
    · rcases A with _ | ad <;> rcases B with _ | bd <;> simp [Builtin.append_, run_underlying Tryd.underlying22, sizeOf, typeInfo, hi, Builtin.lenOf, Builtin.firstCells, storeCells, loadCells, loadCellsFrom]
    · rw [List.append_nil]
      exact Bs.mk (hl.mono (fun _ _ _ => trivial)) (Nat.le_refl _) (by omega)
  · obtain ⟨g, o, rfl, _, hc⟩ := hr.2 (by omega)
    have hsrc : Src Tryd.prog i.size 22 (.slice (some ⟨g, o, none⟩) m c) m (r.map u8v) w := by
      rw [hs1]
      refine Src.ofSlice w Tryd.underlying22 ⟨g, o, none⟩ m c (r.map u8v) (by simp [hrm]) (fun j u hu => ?_) (one_u8 r)
      rw [show (⟨g, o, none⟩ : Addr).add j = ⟨g, o + j, none⟩ by unfold Addr.add; split <;> simp_all]
      exact hc j u hu
    have hold : (Builtin.firstCells i.size k (.slice A k k)).run Tryd.prog w.drew = .ok (l.map u8v).toArray w.drew := by
      rw [hs1]
      exact first_of (hl.drewN 1)
    have hrun := run_append_grow_src (P := Tryd.prog) w 22 22 ty 5 i (.int .u8 0) Tryd.underlying22 hi hz A k k (l.map u8v) hold (.slice (some ⟨g, o, none⟩) m c) m (r.map u8v) hsrc (by omega) (by omega) (by rw [hb1]; exact growslice_fits (by omega) (by omega))
    refine ⟨_, _, hrun, ?_, ⟨rfl, rfl, rfl, by simp, fun j hj => heap_alloc_old w.drew _ hj⟩⟩
    have hge := grownCap_ge w (k + m) k 5
    have hcm := grownCap_le_maxLen w (k + m) k 5 (by simp only [maxLen]; omega)
    unfold maxLen at hcm
    refine Bs.mk (Rd.fresh (l ++ r) (heap_alloc_new w.drew _) ⟨(Builtin.zeroCells (Value.int .u8 0).cells (grownCap w (k + m) k 5 - (k + m))).toList, by simp⟩ trivial (by simp [hln, hrm])) hge hcm

theorem app_full {S S' : Nat → Prop} {w : World} {ops : Array Oper} {rest : List Oper} {o : Oper} {a : Act} {Q : Exit → Act → World → Prop} (hgd : o.guard = none) (s x : Operand)
    (ho : o.op = .call { callee := .builtin .append, args := #[s, x], argTypes := #[22, 22] })
    (A B : Option Addr) (n k m c : Nat) (l r : List UInt8) (hs : a.eval s = .slice A n k) (hx : a.eval x = .slice B m c) (hl : Rd w S 1 A n (l.map u8v)) (hr : Rd w S' 1 B m (r.map u8v)) (hk : k = n) (hlen : n + m ≤ 1099511627776)
    (h : ∀ v' w', Bs w' (fun _ => True) v' (l ++ r) → Below w.heap.size w w' → wpList Tryd.prog ops Q rest (a.put o.dst v') w') :
    wpList Tryd.prog ops Q (o :: rest) a w := by
  refine wpList_plain hgd fun K hK => ?_
  obtain ⟨v', w', hrun, h2, h3⟩ := run_full w o.type A B n k m c l r hl hr hk hlen
  unfold Oper.wp execOp
  simp only [ho, resolve, invoke, builtin, Sem.run_bind, Sem.run_pure, Result.andThen_ok, List.map_toArray, List.map_cons, List.map_nil, hs, hx, hrun]
  exact hK _ _ (h v' w' h2 h3)

/-- A string's bytes in new memory. -/
theorem bytes_bs (w : World) (s : ByteArray) (hs : s.size ≤ 1099511627776) : Bs (Lib.bytesWorld w 5 s) (w.heap.size ≤ ·) (.slice (some ⟨w.heap.size, 0, none⟩) s.size (grownCap w s.size 0 5)) s.data.toList := by
  have hge := grownCap_ge w s.size 0 5
  have hcm := grownCap_le_maxLen w s.size 0 5 (by simp only [maxLen]; omega)
  unfold maxLen at hcm
  exact Bs.mk (Rd.fresh s.data.toList (Lib.bytesWorld_at_new w _ s) ⟨(Array.replicate (grownCap w s.size 0 5 - s.size) (Value.int .u8 0)).toList, by simp [Lib.bytesCells]⟩ (Nat.le_refl _) (by simp)) hge hcm
theorem bytes_below (w : World) (s : ByteArray) : Below w.heap.size w (Lib.bytesWorld w 5 s) :=
  ⟨rfl, rfl, rfl, by rw [Lib.bytesWorld_size]; omega, fun j hj => Lib.bytesWorld_at_old w _ s j hj⟩

theorem W8.rd {w : World} {g : Nat} {t : TypeId} {l : List UInt8} (h : W8 w g t l) {n : Nat} (hn : l.length = n) : Rd w (fun _ => True) 1 (some ⟨g, 0, none⟩) n (l.map u8v) :=
  Rd.fresh l h ⟨[], by simp⟩ trivial hn

set_option maxRecDepth 100000 in
set_option maxHeartbeats 1000000 in
theorem tagged_any {S : Nat → Prop} (s : ByteArray) (bv : Value) (b : List UInt8) (w : World) (hb : Bs w S bv b) (hs : s.size ≤ 1000000000) (hbl : b.length ≤ 1000000000) (hG : Gl w) :
    Calls Tryd.prog 13 #[.string s, bv] w (keyedPost w (Bl.tagged s.data.toList b)) := by
  have hR : W8 (w.alloc (.cells #[.int .u8 0, .int .u8 0, .int .u8 0, .int .u8 0, .int .u8 0, .int .u8 0, .int .u8 0, .int .u8 0, .int .u8 0, .int .u8 0, .int .u8 0, .int .u8 0, .int .u8 0, .int .u8 0, .int .u8 0, .int .u8 0, .int .u8 0, .int .u8 0, .int .u8 0, .int .u8 0, .int .u8 0, .int .u8 0, .int .u8 0, .int .u8 0, .int .u8 0, .int .u8 0, .int .u8 0, .int .u8 0, .int .u8 0, .int .u8 0, .int .u8 0, .int .u8 0] 25)) w.heap.size 25 (List.replicate 32 0) := heap_alloc_new w _
  have hB : Below w.heap.size w (w.alloc (.cells #[.int .u8 0, .int .u8 0, .int .u8 0, .int .u8 0, .int .u8 0, .int .u8 0, .int .u8 0, .int .u8 0, .int .u8 0, .int .u8 0, .int .u8 0, .int .u8 0, .int .u8 0, .int .u8 0, .int .u8 0, .int .u8 0, .int .u8 0, .int .u8 0, .int .u8 0, .int .u8 0, .int .u8 0, .int .u8 0, .int .u8 0, .int .u8 0, .int .u8 0, .int .u8 0, .int .u8 0, .int .u8 0, .int .u8 0, .int .u8 0, .int .u8 0, .int .u8 0] 25)) := (Below.refl _ _).alloc (Nat.le_refl _) _
  obtain ⟨Ab, cb, rfl, hcb, hcb2, hrb⟩ := hb.op
  have hsl : s.data.toList.length ≤ 1000000000000 := by simp; omega
  generalize hw0 : w.alloc (.cells #[.int .u8 0, .int .u8 0, .int .u8 0, .int .u8 0, .int .u8 0, .int .u8 0, .int .u8 0, .int .u8 0, .int .u8 0, .int .u8 0, .int .u8 0, .int .u8 0, .int .u8 0, .int .u8 0, .int .u8 0, .int .u8 0, .int .u8 0, .int .u8 0, .int .u8 0, .int .u8 0, .int .u8 0, .int .u8 0, .int .u8 0, .int .u8 0, .int .u8 0, .int .u8 0, .int .u8 0, .int .u8 0, .int .u8 0, .int .u8 0, .int .u8 0, .int .u8 0] 25) = w0 at hR hB
  have HW0 := Lib.hid hw0
  have HR := Lib.hid hR
  have HB := Lib.hid hB
  have HS := Lib.hid hrb
  have HG := Lib.hid hG
  have HL := Lib.hid (Bl.len_sum s.data.toList)
  have HT := Lib.hid (Bl.len_tagged s.data.toList b)
  have kc := fun (W : World) => Lib.run_convert_string_bytes (P := Tryd.prog) W 9 22 5 s Tryd.underlying9 Tryd.underlying22 Tryd.underlying5
  have HC := Lib.hid (bytes_bs w0 s (by omega))
  have HCB := Lib.hid (HB.out.trans ((bytes_below w0 s).mono HB.out.size))
  have HR2 := Lib.hid (HR.out.keep ((bytes_below w0 s).block _ HR.out.lt))
  clear hR hB hb hG hrb hw0 HR
  go_enter Tryd.func13, Tryd.ntmps13
  go_upto_region 1 with (fail)
  rw [HW0.out]
  go_upto_region 2 with (first
    | (go_at_call 8; refine (sum_any _ s.data.toList _ HC.out hsl (HG.out.below HCB.out (Nat.le_refl _))).mono ?_; rintro e w1 ⟨rfl, hb1⟩; have HB1 := Lib.hid (HCB.out.trans (hb1.mono HCB.out.size)); have HR3 := Lib.hid (HR2.out.keep (hb1.block _ HR2.out.lt)); clear hb1 HC HCB HR2)
    | (refine wpList_store_row rfl _ (.tmp 5) (.tmp 8) rfl w1.heap.size ((Bl.sum s.data.toList).map u8v).toArray rfl rfl _ _ (heap_alloc_new w1 _) (info_hash_of HL.out) (by simp [HL.out]) (all_u8 _) ?_))
  have hw2 : W8 ((w1.alloc (.cells #[.int .u8 0, .int .u8 0, .int .u8 0, .int .u8 0, .int .u8 0, .int .u8 0, .int .u8 0, .int .u8 0, .int .u8 0, .int .u8 0, .int .u8 0, .int .u8 0, .int .u8 0, .int .u8 0, .int .u8 0, .int .u8 0, .int .u8 0, .int .u8 0, .int .u8 0, .int .u8 0, .int .u8 0, .int .u8 0, .int .u8 0, .int .u8 0, .int .u8 0, .int .u8 0, .int .u8 0, .int .u8 0, .int .u8 0, .int .u8 0, .int .u8 0, .int .u8 0] 25)).setRow w1.heap.size ((Bl.sum s.data.toList).map u8v).toArray) w1.heap.size 25 (Bl.sum s.data.toList) := setRow_heap _ _ _ _ _ _ (heap_alloc_new w1 _)
  have hb2 : Below w1.heap.size w1 ((w1.alloc (.cells #[.int .u8 0, .int .u8 0, .int .u8 0, .int .u8 0, .int .u8 0, .int .u8 0, .int .u8 0, .int .u8 0, .int .u8 0, .int .u8 0, .int .u8 0, .int .u8 0, .int .u8 0, .int .u8 0, .int .u8 0, .int .u8 0, .int .u8 0, .int .u8 0, .int .u8 0, .int .u8 0, .int .u8 0, .int .u8 0, .int .u8 0, .int .u8 0, .int .u8 0, .int .u8 0, .int .u8 0, .int .u8 0, .int .u8 0, .int .u8 0, .int .u8 0, .int .u8 0] 25)).setRow w1.heap.size ((Bl.sum s.data.toList).map u8v).toArray) := below_setRow ((Below.refl _ _).alloc (Nat.le_refl _) _) (Nat.le_refl _) _
  generalize (w1.alloc (.cells #[.int .u8 0, .int .u8 0, .int .u8 0, .int .u8 0, .int .u8 0, .int .u8 0, .int .u8 0, .int .u8 0, .int .u8 0, .int .u8 0, .int .u8 0, .int .u8 0, .int .u8 0, .int .u8 0, .int .u8 0, .int .u8 0, .int .u8 0, .int .u8 0, .int .u8 0, .int .u8 0, .int .u8 0, .int .u8 0, .int .u8 0, .int .u8 0, .int .u8 0, .int .u8 0, .int .u8 0, .int .u8 0, .int .u8 0, .int .u8 0, .int .u8 0, .int .u8 0] 25)).setRow w1.heap.size ((Bl.sum s.data.toList).map u8v).toArray = w2 at hw2 hb2 ⊢
  generalize w1.heap.size = g at hw2 ⊢
  have HB2 := Lib.hid (HB1.out.trans (hb2.mono HB1.out.size))
  have HR4 := Lib.hid (HR3.out.keep (hb2.block _ HR3.out.lt))
  have HW2 := Lib.hid hw2
  clear hw2 hb2 HB1 HR3
  go_wp2_with (first
    | (at_builtin; refine app_full rfl (.tmp 9) (.tmp 10) rfl (some ⟨g, 0, none⟩) Ab 32 32 b.length cb (Bl.sum s.data.toList) b rfl rfl (HW2.out.rd HL.out) (HS.out.below HB2.out (Nat.le_refl _)) rfl (by omega) ?_; intro v3 w3 hs3 hb3; have HS3 := Lib.hid hs3; have HB3 := Lib.hid (HB2.out.trans (hb3.mono HB2.out.size)); have HR5 := Lib.hid (HR4.out.keep (hb3.block _ HR4.out.lt)); clear hs3 hb3 HR4)
    | (go_at_call 8; refine (sum_any _ (Bl.sum s.data.toList ++ b) _ HS3.out (by rw [List.length_append, HL.out]; omega) (HG.out.below HB3.out (Nat.le_refl _))).mono ?_; rintro e w4 ⟨rfl, hb4⟩; have HB4 := Lib.hid (HB3.out.trans (hb4.mono HB3.out.size)); have HR6 := Lib.hid (HR5.out.keep (hb4.block _ HR5.out.lt)); clear hb4 HS3; rw [show Bl.sum (Bl.sum s.data.toList ++ b) = Bl.tagged s.data.toList b from rfl])
    | (refine wpList_store_row rfl _ (.tmp 4) (.tmp 12) rfl w.heap.size ((Bl.tagged s.data.toList b).map u8v).toArray rfl rfl _ _ HR6.out (info_hash_of HT.out) (by simp [HT.out]) (all_u8 _) ?_))
  refine bodyPost_ret (results_cell_row (by rfl) _ _ w.heap.size _ ((Bl.tagged s.data.toList b).map u8v).toArray (0, 0) _ (by rfl) (setRow_heap _ _ _ _ _ _ HR6.out) Tryd.underlying25 rfl (info_hash_of HT.out)) rfl ?_
  exact ⟨rfl, below_setRow HB4.out (Nat.le_refl _) _⟩
end Go.Proofs.YtdlbighnmbjofaaDoor
