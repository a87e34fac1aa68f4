/- The reference's digests: the tables; rows of words of the call's own. -/
import Derived.Test.YtdlbighnmbjofaaDoorRefA
import Derived.Test.YtdlbighnmbjofaaDoorBlakeD
namespace Go.Proofs.YtdlbighnmbjofaaDoor
open Go Go.RowKit
attribute [local go_sem high] bop_add32 bop_xor32 bop_or32 uop_not32

/-- So many new blocks. -/
def allocs (w : World) : List Obj → World
  | [] => w
  | o :: os => allocs (w.alloc o) os
theorem allocs_size : ∀ (os : List Obj) (w : World), (allocs w os).heap.size = w.heap.size + os.length
  | [], _ => rfl
  | o :: os, w => by rw [allocs, allocs_size os]; simp; omega
theorem allocs_old : ∀ (os : List Obj) (w : World) (g : Nat), g < w.heap.size → (allocs w os).heap[g]? = w.heap[g]?
  | [], _, _, _ => rfl
  | o :: os, w, g, h => by rw [allocs, allocs_old os _ g (by simp; omega)]; exact heap_alloc_old w o h
theorem allocs_get : ∀ (os : List Obj) (w : World) (k : Nat) (o : Obj), os[k]? = some o → (allocs w os).heap[w.heap.size + k]? = some o
  | [], _, _, _, h => by simp at h
  | p :: os, w, 0, o, h => by
    obtain rfl : p = o := by simpa using h
    rw [allocs, Nat.add_zero, allocs_old os _ _ (by simp)]
    exact heap_alloc_new w p
  | p :: os, w, k + 1, o, h => by
    have := allocs_get os (w.alloc p) k o (by simpa using h)
    rw [allocs, ← this]
    congr 1
    simp; omega
theorem allocs_below : ∀ (os : List Obj) (w w0 : World) (B : Nat), Below B w0 w → B ≤ w.heap.size → Below B w0 (allocs w os)
  | [], _, _, _, h, _ => h
  | o :: os, w, w0, B, h, hB => allocs_below os (w.alloc o) w0 B (h.alloc hB o) (by simp; omega)

/-- A table of rows of numbers. -/
def Rw2 (w : World) (B : Nat) (v : Value) (ll : List (List Nat)) : Prop :=
  ∃ g c, v = .slice (some ⟨g, 0, none⟩) ll.length c ∧ B ≤ g ∧ g < w.heap.size ∧
    ∀ k l, ll[k]? = some l → ∃ q, B ≤ q ∧ q < w.heap.size ∧ w.cell? ⟨g, k, none⟩ = some (.slice (some ⟨q, 0, none⟩) l.length l.length) ∧ w.heap[q]? = some (.cells (l.map fun (x : Nat) => Value.int .i64 (x : Int)).toArray 3 (0, 0))
theorem Rw2.keep {w w' : World} {B : Nat} {v : Value} {ll : List (List Nat)} (h : Rw2 w B v ll) (hk : ∀ g, g < w.heap.size → B ≤ g → w'.heap[g]? = w.heap[g]?) : Rw2 w' B v ll := by
  obtain ⟨g, c, hv, hb, hlt, hr⟩ := h
  refine ⟨g, c, hv, hb, lt_of_block hlt (hk g hlt hb), fun k l hl => ?_⟩
  obtain ⟨q, h1, h2, h3, h4⟩ := hr k l hl
  exact ⟨q, h1, lt_of_block h2 (hk q h2 h1), (World.cell?_of_block (a := ⟨g, k, none⟩) (hk g hlt hb)).trans h3, (hk q h2 h1).trans h4⟩

def rowObj (l : List Nat) : Obj := .cells (l.map fun (x : Nat) => Value.int .i64 (x : Int)).toArray 3 (0, 0)
def headObj (N : Nat) (ll : List (List Nat)) : Obj := .cells ((List.range ll.length).map fun k => Value.slice (some ⟨N + k, 0, none⟩) (ll.getD k []).length (ll.getD k []).length).toArray 36 (0, 0)
theorem rw2_mk (w : World) (ll : List (List Nat)) : Rw2 (allocs w (ll.map rowObj ++ [headObj w.heap.size ll])) w.heap.size (.slice (some ⟨w.heap.size + ll.length, 0, none⟩) ll.length ll.length) ll := by
  refine ⟨_, _, rfl, by omega, by rw [allocs_size]; simp, fun k l hl => ?_⟩
  have hk : k < ll.length := (List.getElem?_eq_some_iff.1 hl).1
  refine ⟨w.heap.size + k, by omega, by rw [allocs_size]; simp; omega, ?_, ?_⟩
  · have h1 := allocs_get (ll.map rowObj ++ [headObj w.heap.size ll]) w ll.length (headObj w.heap.size ll) (by simp)
    rw [cell_of_row _ _ _ _ _ _ h1]
    have e : ll[k] = l := Option.some.inj ((List.getElem?_eq_getElem hk).symm.trans hl)
    simp [hk, e]
  · exact allocs_get _ w k (rowObj l) (by rw [List.getElem?_append_left (by simpa using hk), List.getElem?_map, hl]; rfl)

set_option maxRecDepth 100000 in
set_option maxHeartbeats 2000000 in
theorem orders_ref (w : World) : Calls Tryd.prog 25 #[] w fun e w' => ∃ v, e = .returned v ∧ Rw2 w' w.heap.size v Bl.orders ∧ Below w.heap.size w w' := by
  go_enter Tryd.func25, Tryd.ntmps25
  go_wp2
  go_ret
  exact ⟨_, rfl, rw2_mk w Bl.orders, allocs_below (Bl.orders.map rowObj ++ [headObj w.heap.size Bl.orders]) w w _ (Below.refl _ _) (Nat.le_refl _)⟩

def placesL : List (List Nat) := [[0, 4, 8, 12], [1, 5, 9, 13], [2, 6, 10, 14], [3, 7, 11, 15], [0, 5, 10, 15], [1, 6, 11, 12], [2, 7, 8, 13], [3, 4, 9, 14]]
set_option maxHeartbeats 2000000 in
theorem places_ref (w : World) : Calls Tryd.prog 26 #[] w fun e w' => ∃ v, e = .returned v ∧ Rw2 w' w.heap.size v placesL ∧ Below w.heap.size w w' := by
  go_enter Tryd.func26, Tryd.ntmps26
  go_wp2
  go_ret
  exact ⟨_, rfl, rw2_mk w placesL, allocs_below (placesL.map rowObj ++ [headObj w.heap.size placesL]) w w _ (Below.refl _ _) (Nat.le_refl _)⟩
theorem places_at : ∀ k, k < 8 → placesL[k]? = some [k % 4, 4 + (k % 4 + k / 4) % 4, 8 + (k % 4 + 2 * (k / 4)) % 4, 12 + (k % 4 + 3 * (k / 4)) % 4] := by decide

theorem info_u32 : (Tryd.prog.info? 34).map (fun i => (i.zero, i.size, i.bytes)) = some (some (.int .u32 0), 1, 4) := by kernel_rfl
/-- A row of words of the call's own. -/
def OwnW (w : World) (base : Nat) (v : Value) (l : List UInt32) : Prop := w.ownsRow base 34 1 v l.length (l.map u32v)
section
variable {w w' : World} {base : Nat} {v : Value} {l : List UInt32}
theorem OwnW.nil (w : World) (base : Nat) : OwnW w base (.slice none 0 0) [] := World.ownsRow_nil _ _ _ _
theorem OwnW.keep (h : OwnW w base v l) (hk : ∀ g, v.ownBlock = some g → w'.heap[g]? = w.heap[g]?) : OwnW w' base v l := ownsRow_keep h hk
theorem OwnW.lt (h : OwnW w base v l) : ∀ g, v.ownBlock = some g → base ≤ g ∧ g < w.heap.size := World.ownsRow.lt h
theorem OwnW.below {B : Nat} (h : OwnW w base v l) (hb : Below B w w') (hB : w.heap.size ≤ B) : OwnW w' base v l :=
  h.keep fun g e => hb.block g (by have := (h.lt g e).2; omega)
theorem OwnW.fr {T : Nat → Prop} (h : OwnW w base v l) (hg : Fr T w w') (hne : ∀ g, v.ownBlock = some g → ¬ T g) : OwnW w' base v l :=
  h.keep fun g e => hg.block g (h.lt g e).2 (hne g e)
theorem OwnW.alloc (h : OwnW w base v l) (o : Obj) : OwnW (w.alloc o) base v l := World.ownsRow.alloc h o
theorem OwnW.low {base' : Nat} (h : OwnW w base v l) (hk : base' ≤ base) : OwnW w base' v l := ownsRow_base h hk
theorem OwnW.drew (h : OwnW w base v l) : OwnW w.drew base v l := h
/-- At its block. -/
theorem OwnW.at_ (h : OwnW w base v l) (hn : 0 < l.length) : ∃ g c, v = .slice (some ⟨g, 0, none⟩) l.length c ∧ base ≤ g ∧ g < w.heap.size ∧ R32 w g l ∧ l.length ≤ c ∧ c ≤ 9223372036854775807 := by
  rcases h.2 with ⟨_, h0⟩ | ⟨g, cap, cur, hv, hb, hg, h1, h2, _, ht⟩
  · omega
  · refine ⟨g, cap, hv, hb, (Array.getElem?_eq_some_iff.1 hg).1, ⟨cur, hg, by simpa using ht⟩, h1, by simpa [maxLen] using h2⟩
theorem R32.rd {g : Nat} (h : R32 w g l) {S : Nat → Prop} (hS : S g) {n : Nat} (hn : l.length = n) : Rd w S 1 (some ⟨g, 0, none⟩) n (l.map u32v) := by
  subst hn
  refine ⟨by simp, fun _ => ⟨g, 0, rfl, ⟨h.lt, hS⟩, fun j u hu => ?_⟩⟩
  obtain ⟨cur, hg, ht⟩ := h
  have hj : j < l.length := by simpa using (List.getElem?_eq_some_iff.1 hu).1
  rw [Nat.zero_add, cell_of_row _ _ _ _ _ _ hg, ← Array.getElem?_toList, ← List.getElem?_take_of_lt hj, ht]
  exact hu
end

/-- append onto a row of words of the call's own. -/
theorem app_w {w : World} {ops : Array Oper} {rest : List Oper} {o : Oper} {a : Act} {Q : Exit → Act → World → Prop} (hgd : o.guard = none) (s x : Operand)
    (ho : o.op = .call { callee := .builtin .append, args := #[s, x], argTypes := #[45, 45] })
    (base : Nat) (v : Value) (l : List UInt32) (hs : a.eval s = v) (hown : OwnW w base v l)
    (S : Nat → Prop) (A : Option Addr) (m c : Nat) (r : List UInt32) (hx : a.eval x = .slice A m c) (hr : Rd w S 1 A m (r.map u32v))
    (hlen : l.length + m ≤ 1099511627776) (hbase : base ≤ w.heap.size)
    (h : ∀ v' w', OwnW w' base v' (l ++ r) → w.grownBy w' v.ownBlock → (v'.ownBlock = v.ownBlock ∨ v'.ownBlock = some w.heap.size) → wpList Tryd.prog ops Q rest (a.put o.dst v') w') :
    wpList Tryd.prog ops Q (o :: rest) a w := by
  obtain ⟨i0, hi, hz0, hz1, hz2⟩ := info_parts info_u32
  refine wpList_plain hgd fun _ hK => wp_app w s x _ ho base _ i0 _ 1 4 Tryd.underlying45 hi hz0 hz1 hz2 rfl (by omega) v l.length _ hs hown S A m c (r.map u32v) hx hr (one_u32 r) (by simp only [maxLen]; omega) (by omega) hbase fun v' w' h2 h3 h4 => hK _ _ (h v' w' ?_ h3 h4)
  have hm : r.length = m := by simpa using hr.1
  subst hm
  unfold OwnW
  simpa using h2

theorem Rd.oneW {w : World} (b : UInt32) (t : TypeId) : Rd (w.alloc (.cells #[.int .u32 (b.toNat : Int)] t)) (w.heap.size ≤ ·) 1 (some ⟨w.heap.size, 0, none⟩) 1 ([b].map u32v) := by
  refine ⟨rfl, fun _ => ⟨_, 0, rfl, ⟨by simp, Nat.le_refl _⟩, fun j u hu => ?_⟩⟩
  rw [cell_of_row _ _ _ _ _ _ (heap_alloc_new w _)]
  rcases j with _ | j
  · simpa using hu
  · simp at hu

/-- What a function gives that hands a new row of words back. -/
def RetW (w : World) (l : List UInt32) (e : Ending) (w' : World) : Prop := ∃ v, e = .returned v ∧ OwnW w' w.heap.size v l ∧ Below w.heap.size w w'
theorem begins_ref (w : World) : Calls Tryd.prog 21 #[] w (RetW w Bl.begins) := by
  go_enter Tryd.func21, Tryd.ntmps21
  go_wp2
  go_ret
  refine ⟨_, rfl, ⟨rfl, .inr ⟨w.heap.size, 8, _, rfl, Nat.le_refl _, heap_alloc_new w _, by simp [Bl.begins], by simp [maxLen], rfl, rfl⟩⟩, (Below.refl _ _).alloc (Nat.le_refl _) _⟩

theorem le_sum {a b c d : UInt8} {z : Int} (h : z = (a.toNat : Int) + (b.toNat : Int) * 256 + (c.toNat : Int) * 65536 + (d.toNat : Int) * 16777216) : z = ((le32 a b c d).toNat : Int) := by
  have h1 := u8_lt a; have h2 := u8_lt b; have h3 := u8_lt c; have h4 := u8_lt d
  unfold le32
  rw [UInt32.toNat_ofNat', h]
  omega
end Go.Proofs.YtdlbighnmbjofaaDoor
