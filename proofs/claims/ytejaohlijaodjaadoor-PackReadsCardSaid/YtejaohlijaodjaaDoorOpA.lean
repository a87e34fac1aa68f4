/- Arguments, opened: what is asked of a reader. -/
import Derived.Test.YtejaohlijaodjaaDoorVQ
import Derived.Test.YtejaohlijaodjaaDoorProg
import Derived.Deep.SlicePairs
import Derived.KernelRfl
namespace Go.Proofs.YtejaohlijaodjaaDoor
open Go Go.RowKit Go.WideShapes Go.ChangeShapes Go.Deep

/-- Pairs of numbers, as they lie. -/
theorem rd_pairs {W : World} {S : Nat → Prop} {g o len : Nat} {V0 V1 : Nat → Int} (hg : 0 < len → g < W.heap.size ∧ S g) (h : ∀ i, i < len → W.cell? ⟨g, o + i * 2, none⟩ = some (.int .i64 (V0 i)) ∧ W.cell? ⟨g, o + (i * 2 + 1), none⟩ = some (.int .i64 (V1 i))) :
    Rd W S 2 (some ⟨g, o, none⟩) len (askC ((List.range len).map fun i => (V0 i, V1 i))) := by
  refine ⟨by rw [len_ask]; simp, fun hn => ⟨g, o, rfl, hg hn, fun j u hu => ?_⟩⟩
  have key : ∀ (l : List (Int × Int)) (j : Nat) (u : Value), (askC l)[j]? = some u → j / 2 < l.length ∧ u = if j % 2 = 0 then .int .i64 (l.getD (j / 2) (0, 0)).1 else .int .i64 (l.getD (j / 2) (0, 0)).2 := by
    intro l
    induction l with
    | nil => intro j u h; simp [askC] at h
    | cons x l ih =>
      intro j u h
      match j with
      | 0 => simp [askC] at h; exact ⟨by simp, by simp [h]⟩
      | 1 => simp [askC] at h; exact ⟨by simp, by simp [h]⟩
      | j + 2 =>
        rw [askC, List.getElem?_cons_succ, List.getElem?_cons_succ] at h
        obtain ⟨h1, h2⟩ := ih j u h
        rw [show (j + 2) / 2 = j / 2 + 1 by omega, show (j + 2) % 2 = j % 2 by omega]
        exact ⟨by simpa using h1, by simpa using h2⟩
  obtain ⟨h1, h2⟩ := key _ _ _ hu
  have hi : j / 2 < len := by simpa using h1
  have hc := h (j / 2) hi
  have e : (((List.range len).map fun i => (V0 i, V1 i)).getD (j / 2) (0, 0)) = (V0 (j / 2), V1 (j / 2)) := by
    rw [List.getD_eq_getElem?_getD, List.getElem?_map, List.getElem?_range hi]; rfl
  rw [e] at h2
  rcases Nat.mod_two_eq_zero_or_one j with hj | hj
  · rw [h2, if_pos hj, ← hc.1, show o + j = o + j / 2 * 2 by omega]
  · rw [h2, if_neg (by omega), ← hc.2, show o + j = o + (j / 2 * 2 + 1) by omega]
def intV : Value → Int
  | .int _ n => n
  | _ => 0
theorem open_ask {H : Type} {enc : TypeId × Value → H} {W : World} {sp : Nat → Bool} {hd : Bool} {fuel : Nat} {v : Value} {x : DataW H × List MemPlace} (h : DataW.trod enc Tryd.prog W 0 sp hd fuel 48 [v] = some x) :
    ∃ (AL : Option Addr) (m cL : Nat) (l : List (Int × Int)), v = .slice AL m cL ∧ Rd W (fun _ => True) 2 AL m (askC l) := by
  rcases open_slice_pairs Tryd.underlying48 Tryd.underlying53 (by kernel_rfl) rfl rfl (by kernel_rfl) (by kernel_rfl) h with ⟨hcs, _⟩ | ⟨a, len, cap, m, n, V0, V1, D0, D1, P0, P1, hcs, _, hl, hm, hmm, _, hx⟩
  · obtain rfl : v = .slice none 0 0 := by simpa using hcs
    exact ⟨none, 0, 0, [], rfl, rfl, fun h => absurd h (by decide)⟩
  · obtain rfl : v = .slice (some a) len cap := by simpa using hcs
    have hlm : len ≤ m := by rw [hmm]; split <;> omega
    have hi : ∀ i, i < len → W.cell? (a.add (i * 2)) = some (.int .i64 (intV (V0 i))) ∧ W.cell? (a.add (i * 2 + 1)) = some (.int .i64 (intV (V1 i))) := fun i hi => by
      obtain ⟨h1, h2, h3, h4⟩ := hx i (by omega)
      obtain ⟨z0, e0, _, _⟩ := DataW.trod_int Tryd.underlying3 h3
      obtain ⟨z1, e1, _, _⟩ := DataW.trod_int Tryd.underlying3 h4
      have e0' : V0 i = .int .i64 z0 := by simpa using e0
      have e1' : V1 i = .int .i64 z1 := by simpa using e1
      rw [h1, h2, e0', e1']
      exact ⟨rfl, rfl⟩
    rcases Nat.eq_zero_or_pos len with h0 | h0
    · subst h0
      exact ⟨some a, 0, cap, [], rfl, rfl, fun h => absurd h (by decide)⟩
    · obtain ⟨g, o, s⟩ := a
      have hc0 := (hi 0 h0).1
      have hs : s = none := by
        cases s with
        | none => rfl
        | some k => simp [Addr.add, World.cell?] at hc0; split at hc0 <;> simp at hc0
      subst hs
      refine ⟨_, len, cap, _, rfl, rd_pairs (V0 := fun i => intV (V0 i)) (V1 := fun i => intV (V1 i)) (fun _ => ⟨?_, trivial⟩) (fun i hi' => ?_)⟩
      · have := block_lt_of_cell hc0
        simpa [Addr.add] using this
      · have h1 := hi i hi'
        rw [Addr.add_mid, Addr.add_mid] at h1
        exact h1
end Go.Proofs.YtejaohlijaodjaaDoor
