/- Arguments, opened: what reads as what, shape by shape. No program stands in this text. -/
import Derived.Test.YtejaohlijaodjaaDoorVQ
import Derived.Deep.Slices
import Derived.OpenShut
import Derived.WideShapes
import Derived.ChangeSlices
namespace Go.Proofs.YtejaohlijaodjaaDoor
open Go Go.RowKit Go.WideShapes Go.ChangeShapes Go.Deep

/-- How cells read as a datum; what they lead to lies in blocks of S. -/
abbrev Rep (α : Type) := World → (Nat → Prop) → List Value → α → Prop
def RI : Rep Int := fun _ _ cs n => cs = [.int .i64 n] ∧ -9223372036854775808 ≤ n ∧ n ≤ 9223372036854775807
def RA (m : Nat) : Rep (List UInt8) := fun _ _ cs l => cs = l.map u8v ∧ l.length = m
def RB : Rep (List UInt8) := fun W S cs l => ∃ v, cs = [v] ∧ Bs W S v l
def RL {α : Type} (s : Nat) (R : Rep α) : Rep (List α) := fun W S cs l => ∃ A c xs, cs = [.slice A l.length c] ∧ l.length ≤ c ∧ c ≤ 9223372036854775807 ∧ Rd W S s A l.length xs ∧ ∀ (i : Nat) (x : α), l[i]? = some x → R W S (sub xs (i * s) s) x
def Keeps {α : Type} (R : Rep α) : Prop := ∀ (W W' : World) (S : Nat → Prop) (cs : List Value) (a : α), R W S cs a → (∀ g, g < W.heap.size → S g → W'.heap[g]? = W.heap[g]?) → R W' S cs a
theorem keeps_I : Keeps RI := fun _ _ _ _ _ h _ => h
theorem keeps_A {m : Nat} : Keeps (RA m) := fun _ _ _ _ _ h _ => h
theorem keeps_B : Keeps RB := fun _ _ _ _ _ h k => by
  obtain ⟨v, h1, h2⟩ := h
  exact ⟨v, h1, h2.keep k⟩
theorem keeps_L {α : Type} {s : Nat} {R : Rep α} (hR : Keeps R) : Keeps (RL s R) := fun _ _ _ _ _ h k => by
  obtain ⟨A, c, xs, h1, h2, h3, h4, h5⟩ := h
  exact ⟨A, c, xs, h1, h2, h3, h4.keep k, fun i x hx => hR _ _ _ _ _ (h5 i x hx) k⟩
def Opens (P : Program) (t : TypeId) {α : Type} (R : Rep α) : Prop := ∀ (H : Type) (enc : TypeId × Value → H) (W : World) (sp : Nat → Bool) (hd : Bool) (fuel : Nat) (cs : List Value) (x : DataW H × List MemPlace), DataW.trod enc P W 0 sp hd fuel t cs = some x → ∃ a, R W (· < W.heap.size) cs a

theorem choose_list {α : Type} {p : Nat → α → Prop} : ∀ (n : Nat), (∀ i, i < n → ∃ a, p i a) → ∃ l : List α, l.length = n ∧ ∀ (i : Nat) (x : α), l[i]? = some x → p i x
  | 0, _ => ⟨[], rfl, fun i x h => by simp at h⟩
  | n + 1, h => by
    obtain ⟨l, h1, h2⟩ := choose_list n (fun i hi => h i (by omega))
    obtain ⟨a, ha⟩ := h n (by omega)
    refine ⟨l ++ [a], by simp [h1], fun i x hx => ?_⟩
    rcases Nat.lt_or_ge i l.length with hi | hi
    · exact h2 i x (by rwa [List.getElem?_append_left hi] at hx)
    · rw [List.getElem?_append_right hi] at hx
      have h3 : i - l.length = 0 := by
        have := (List.getElem?_eq_some_iff.1 hx).1
        simp at this; omega
      rw [h3] at hx
      obtain rfl : a = x := by simpa using hx
      have : i = n := by omega
      subst this; exact ha
theorem sub_flat {s : Nat} : ∀ (L : List (List Value)) (i : Nat) (c : List Value), (∀ c ∈ L, c.length = s) → L[i]? = some c → sub L.flatten (i * s) s = c
  | [], _, _, _, h => by simp at h
  | x :: L, 0, c, hl, h => by
    obtain rfl : x = c := by simpa using h
    have hx := hl x (.head _)
    simp [sub, hx]
  | x :: L, i + 1, c, hl, h => by
    have ih := sub_flat L i c (fun c hc => hl c (.tail _ hc)) (by simpa using h)
    have hx := hl x (.head _)
    unfold sub at ih ⊢
    rw [List.flatten_cons, show (i + 1) * s = x.length + i * s by rw [Nat.add_mul, hx]; omega, List.drop_append, List.drop_eq_nil_of_le (by omega), Nat.add_sub_cancel_left, List.nil_append]
    exact ih
theorem flat_get {s : Nat} (hs : 0 < s) : ∀ (L : List (List Value)) (j : Nat) (u : Value), (∀ c ∈ L, c.length = s) → L.flatten[j]? = some u → ∃ c, L[j / s]? = some c ∧ c[j % s]? = some u
  | [], j, u, _, h => by simp at h
  | x :: L, j, u, hl, h => by
    have hx := hl x (.head _)
    rw [List.flatten_cons] at h
    rcases Nat.lt_or_ge j s with hj | hj
    · rw [List.getElem?_append_left (by omega)] at h
      rw [Nat.div_eq_of_lt hj, Nat.mod_eq_of_lt hj]
      exact ⟨x, rfl, h⟩
    · rw [List.getElem?_append_right (by omega), hx] at h
      obtain ⟨c, h1, h2⟩ := flat_get hs L (j - s) u (fun c hc => hl c (.tail _ hc)) h
      refine ⟨c, ?_, ?_⟩
      · rw [show j / s = (j - s) / s + 1 by rw [Nat.div_eq_sub_div hs hj], List.getElem?_cons_succ]
        exact h1
      · rw [Nat.mod_eq_sub_mod hj]; exact h2
theorem len_flat {s : Nat} : ∀ (L : List (List Value)), (∀ c ∈ L, c.length = s) → L.flatten.length = L.length * s
  | [], _ => by simp
  | x :: L, hl => by
    rw [List.flatten_cons, List.length_append, hl x (.head _), len_flat L (fun c hc => hl c (.tail _ hc)), List.length_cons, Nat.add_mul]; omega
theorem sub_none {W : World} {g o s' : Nat} {s : Option Nat} {v : Value} (h : W.cell? (((⟨g, o, s⟩ : Addr).add (0 * s')).add 0) = some v) : s = none := by
  rw [Nat.zero_mul] at h
  cases s with
  | none => rfl
  | some q => simp [Addr.add, World.cell?] at h; split at h <;> simp at h
section
variable {P : Program} {t e : TypeId}
theorem opens_I (hu : P.underlying t = some (.int .i64)) : Opens P t RI := fun H enc W sp hd fuel cs x h => by
  obtain ⟨n, h1, _, h2⟩ := DataW.trod_int hu h
  have h3 : IntKind.i64.min ≤ n ∧ n ≤ IntKind.i64.max := by simpa [Lit.wf] using h2
  rw [show IntKind.i64.min = -9223372036854775808 by decide, show IntKind.i64.max = 9223372036854775807 by decide] at h3
  exact ⟨n, h1, h3⟩
theorem u8_wf {z : Int} (h : (Lit.int .u8 z).wf = true) : ((UInt8.ofNat z.toNat).toNat : Int) = z := by
  have h1 : IntKind.u8.min ≤ z ∧ z ≤ IntKind.u8.max := by simpa [Lit.wf] using h
  rw [show IntKind.u8.min = 0 by decide, show IntKind.u8.max = 255 by decide] at h1
  simp
  omega
theorem opens_A {m : Nat} (hu : P.underlying t = some (.array m e)) (he : P.underlying e = some (.int .u8)) (hc : P.cellsOf e = 1) (ht : P.cellsOf t = m) : Opens P t (RA m) := fun H enc W sp hd fuel cs x h => by
  obtain ⟨xs, k, _, _, hlen, hxl, hel⟩ := DataW.trod_array hu h
  rw [ht] at hlen
  obtain ⟨l, hl, hp⟩ := choose_list (p := fun i b => cs[i]? = some (u8v b)) m (fun i hi => by
    have h1 := hel i hi
    rw [hc, Nat.mul_one, List.getElem?_eq_getElem (by omega)] at h1
    obtain ⟨z, h2, _, h3⟩ := DataW.trod_int he h1
    refine ⟨UInt8.ofNat z.toNat, ?_⟩
    have h4 : ((cs.drop i).take 1)[0]? = some (.int .u8 z) := by rw [h2]; rfl
    rw [List.getElem?_take_of_lt (by omega), List.getElem?_drop, Nat.add_zero] at h4
    rw [h4]
    show _ = some (Value.int .u8 _)
    rw [u8_wf h3])
  refine ⟨l, List.ext_getElem? fun i => ?_, hl⟩
  rcases Nat.lt_or_ge i m with hi | hi
  · have h1 := hp i l[i] (List.getElem?_eq_getElem (by omega))
    rw [h1, List.getElem?_map, List.getElem?_eq_getElem (by omega)]; rfl
  · rw [List.getElem?_eq_none (by omega), List.getElem?_eq_none (by simp; omega)]
theorem opens_L {α : Type} {R : Rep α} {s : Nat} (hu : P.underlying t = some (.slice e)) (hc : P.cellsOf e = s) (hs : 0 < s) (hR : Opens P e R) : Opens P t (RL s R) := fun H enc W sp hd fuel cs x h => by
  rcases open_slice hu h with ⟨hcs, _⟩ | ⟨a, len, cap, m, n, D, Pl, hcs, _, hl, hm, hmm, _, hx⟩
  · exact ⟨[], none, 0, [], hcs, Nat.le_refl _, by omega, ⟨by simp, fun h => absurd h (by simp)⟩, fun i x hx => by simp at hx⟩
  · have hlm : len ≤ m := by rw [hmm]; split <;> omega
    obtain ⟨L, hL, hp⟩ := choose_list (p := fun i (q : List Value × α) => q.1.length = s ∧ (∀ j, j < s → W.cell? ((a.add (i * s)).add j) = q.1[j]?) ∧ R W (· < W.heap.size) q.1 q.2) len (fun i hi => by
      obtain ⟨cs', h1, h2⟩ := hx i (by omega)
      rw [hc] at h1
      obtain ⟨_, h3, h4⟩ := World.cells?_some h1
      obtain ⟨y, hy⟩ := hR _ _ _ _ _ _ _ _ h2
      exact ⟨(cs', y), h3, h4, hy⟩)
    have hall : ∀ c ∈ L.map (·.1), c.length = s := fun c hc => by
      obtain ⟨q, hq, rfl⟩ := List.mem_map.1 hc
      obtain ⟨i, hi⟩ := List.getElem?_of_mem hq
      exact (hp i q hi).1
    have hmax : cap ≤ 9223372036854775807 := by simpa [maxLen] using hm
    refine ⟨L.map (·.2), some a, cap, (L.map (·.1)).flatten, by rw [hcs, List.length_map, hL], by rw [List.length_map, hL]; exact hl, hmax, ⟨by rw [len_flat _ hall, List.length_map, List.length_map], fun hn => ?_⟩, fun i x hx => ?_⟩
    · rw [List.length_map, hL] at hn
      have h0 := hp 0 L[0] (List.getElem?_eq_getElem (by omega))
      have hc0 := h0.2.1 0 hs
      rw [List.getElem?_eq_getElem (by rw [h0.1]; exact hs)] at hc0
      obtain ⟨g, o, sb⟩ := a
      obtain rfl := sub_none hc0
      refine ⟨g, o, rfl, ?_, fun j u hj => ?_⟩
      · have := block_lt_of_cell hc0
        simpa [Addr.add] using this
      · obtain ⟨c, h1, h2⟩ := flat_get hs _ j u hall hj
        rw [List.getElem?_map] at h1
        obtain ⟨q, hq, rfl⟩ := Option.map_eq_some_iff.1 h1
        have h3 := (hp _ _ hq).2.1 (j % s) (Nat.mod_lt _ hs)
        rw [h2, Addr.add_mid, Addr.add_mid, Nat.add_assoc, Nat.div_add_mod'] at h3
        exact h3
    · rw [List.getElem?_map] at hx
      obtain ⟨q, hq, rfl⟩ := Option.map_eq_some_iff.1 hx
      rw [sub_flat _ i q.1 hall (by rw [List.getElem?_map, hq]; rfl)]
      exact (hp _ _ hq).2.2
theorem opens_B (hu : P.underlying t = some (.slice e)) (he : P.underlying e = some (.int .u8)) (hc : P.cellsOf e = 1) : Opens P t RB := fun H enc W sp hd fuel cs x h => by
  have hE : Opens P e (fun _ _ cs (b : UInt8) => cs = [u8v b]) := fun H enc W sp hd fuel cs x h => by
    obtain ⟨z, h1, _, h2⟩ := DataW.trod_int he h
    exact ⟨UInt8.ofNat z.toNat, by rw [h1]; show _ = [Value.int .u8 _]; rw [u8_wf h2]⟩
  obtain ⟨l, A, c, xs, h1, h2, h3, h4, h5⟩ := opens_L hu hc (by decide) hE _ _ _ _ _ _ _ _ h
  have hxs : xs = l.map u8v := by
    have hl := h4.1
    rw [Nat.mul_one] at hl
    refine List.ext_getElem? fun i => ?_
    rcases Nat.lt_or_ge i l.length with hi | hi
    · have h6 := h5 i l[i] (List.getElem?_eq_getElem hi)
      have h7 : (sub xs (i * 1) 1)[0]? = some (u8v l[i]) := by rw [h6]; rfl
      unfold sub at h7
      rw [Nat.mul_one, List.getElem?_take_of_lt (by omega), List.getElem?_drop, Nat.add_zero] at h7
      rw [h7, List.getElem?_map, List.getElem?_eq_getElem hi]; rfl
    · rw [List.getElem?_eq_none (by omega), List.getElem?_eq_none (by simp; omega)]
  subst hxs
  exact ⟨l, _, h1, Bs.mk h4 h2 h3⟩
/-- A struct's fields. -/
theorem open_st {H : Type} {enc : TypeId × Value → H} {W : World} {sp : Nat → Bool} {hd : Bool} {fuel : Nat} {cs : List Value} {x : DataW H × List MemPlace} {fs : Array Field} (hu : P.underlying t = some (.struct fs)) (h : DataW.trod enc P W 0 sp hd fuel t cs = some x) :
    cs.length = P.cellsOf t ∧ ∀ (i : Nat) (f : Field), fs[i]? = some f → ∃ n y, DataW.trod enc P W 0 sp hd n f.type ((cs.drop f.offset).take (P.cellsOf f.type)) = some y := by
  obtain ⟨xs, n, _, _, hl, hlen, hf⟩ := DataW.trod_struct hu h
  refine ⟨hl, fun i f hi => ?_⟩
  have h1 := hf i f hi
  have : i < fs.size := (Array.getElem?_eq_some_iff.1 hi).1
  rw [List.getElem?_eq_getElem (by omega)] at h1
  exact ⟨n, _, h1⟩
end
def cutsOf : List Nat → List Value → Nat → List Value
  | [], _, _ => []
  | m :: ms, cs, k => (cs.drop k).take m ++ cutsOf ms cs (k + m)
theorem cuts_all : ∀ (ms : List Nat) (cs : List Value) (k : Nat), cs.length = k + ms.sum → cs.drop k = cutsOf ms cs k
  | [], cs, k, h => List.drop_eq_nil_of_le (by simp at h; omega)
  | m :: ms, cs, k, h => by
    rw [cutsOf, ← cuts_all ms cs (k + m) (by simp at h; omega), ← List.drop_drop, List.take_append_drop]
theorem arg_of {P : Program} {t : TypeId} {α : Type} {R : Rep α} (hR : Opens P t R) {H : Type} {enc : TypeId × Value → H} {W : World} {sp : Nat → Bool} {hd : Bool} {v : Value} {d : DataW H} {p : List MemPlace} (h : DataW.Trod enc P W 0 sp hd t v d p) : ∃ a, R W (· < W.heap.size) v.cells.toList a := by
  obtain ⟨fuel, h⟩ := h
  exact hR _ _ _ _ _ _ _ _ h
end Go.Proofs.YtejaohlijaodjaaDoor
