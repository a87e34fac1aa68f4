/- More rules: guards of operations that were not carried out; elements of rows, field by field. No program stands in this text. -/
import Derived.Test.YtejaohlijaodjaaDoorOpC
namespace Go.Proofs.YtejaohlijaodjaaDoor
open Go Go.RowKit

/-- The guard's operation was not carried out. -/
theorem w_gu {ops : Array Oper} {o oj : Oper} {n : Nat} {ρ : Nat → Value} {ds : List Deferred} {j : Nat} {want : Bool} {e : Tmp} (hg : o.guard = some (j, want)) (hj : ops[j]? = some oj) (he : oj.dst = some e) (hv : ev n ρ (.tmp e) = undef) (_h : True = True) : Region.wanted o (yielded ops (st n ρ ds).tmps) = false := by
  have h2 := st_getD (n := n) (ρ := ρ) (ds := ds) e
  simp only [ev] at hv
  rw [hv] at h2
  unfold Region.wanted yielded
  rw [hg]
  simp only [hj, he, Option.bind_some]
  cases h3 : (st n ρ ds).tmps[e]? with
  | none => rfl
  | some u =>
    rw [Array.getD_eq_getD_getElem?, h3] at h2
    simp only [Option.getD_some] at h2
    subst h2
    rfl

/-- A loop in a loop: what it may write, the outer one may. -/
theorem Eqo.ovr2 {lo lo2 : Nat} {M M2 : List Nat} {ρ ρ1 ρv : Nat → Value} (h : Eqo lo M ρ ρ1) (hb : (Nat.ble lo lo2 && M2.all (inM lo M)) = true) : Eqo lo M ρ (Go.Proofs.YtejaohlijaodjaaDoor.ovr lo2 M2 ρ1 ρv) := fun j hj => by
  simp only [Bool.and_eq_true] at hb
  show (bif inM lo2 M2 j then ρv j else ρ1 j) = _
  cases hq : inM lo2 M2 j with
  | false => exact h j hj
  | true =>
    exfalso
    unfold inM at hq
    rw [Bool.or_eq_true] at hq
    rcases hq with hq | hq
    · have h1 := Nat.le_of_ble_eq_true hq
      have h2 := Nat.le_of_ble_eq_true hb.1
      have h3 : Nat.ble lo j = true := Nat.ble_eq_true_of_le (by omega)
      unfold inM at hj
      rw [h3] at hj
      cases hj
    · have h1 : j ∈ M2 := by simpa using hq
      have h2 := List.all_eq_true.1 hb.2 j h1
      rw [hj] at h2
      cases h2

/- Parts of cells. -/
theorem sub_skip {a b : List Value} {n k m : Nat} (h : a.length = n) : sub (a ++ b) (n + k) m = sub b k m := by
  subst h
  unfold sub
  rw [List.drop_append, List.drop_eq_nil_of_le (by omega), Nat.add_sub_cancel_left, List.nil_append]
theorem sub_head {a b : List Value} {m : Nat} (h : a.length = m) : sub (a ++ b) 0 m = a := by
  subst h
  simp [sub]
theorem sub_all {a : List Value} {m : Nat} (h : a.length = m) : sub a 0 m = a := by
  subst h
  simp [sub]
theorem sub_sub {c : List Value} {a m b k : Nat} (h : b + k ≤ m) : sub (sub c a m) b k = sub c (a + b) k := by
  unfold sub
  rw [List.drop_take, List.take_take, List.drop_drop, Nat.min_eq_left (by omega)]
theorem sub_get {c : List Value} {a : Nat} {v : Value} (h : sub c a 1 = [v]) : c[a]? = some v := by
  have h0 : (sub c a 1)[0]? = some v := by rw [h]; rfl
  unfold sub at h0
  rwa [List.getElem?_take_of_lt (by omega), List.getElem?_drop, Nat.add_zero] at h0
theorem len_sub {c : List Value} {a m : Nat} (h : a + m ≤ c.length) : (sub c a m).length = m := by
  unfold sub
  rw [List.length_take, List.length_drop]; omega
theorem sub_len {c : List Value} {a m : Nat} (h : (sub c a m).length = m) (hm : 0 < m) : a + m ≤ c.length := by
  unfold sub at h
  rw [List.length_take, List.length_drop] at h; omega
def Lens {α : Type} (R : Rep α) (m : Nat) : Prop := ∀ (W : World) (S : Nat → Prop) (cs : List Value) (a : α), R W S cs a → cs.length = m
theorem lens_I : Lens RI 1 := fun _ _ _ _ h => by rw [h.1]; rfl
theorem lens_A {m : Nat} : Lens (RA m) m := fun _ _ _ _ h => by rw [h.1, List.length_map, h.2]
theorem lens_B : Lens RB 1 := fun _ _ _ _ h => by obtain ⟨v, rfl, _⟩ := h; rfl
theorem lens_L {α : Type} {s : Nat} {R : Rep α} : Lens (RL s R) 1 := fun _ _ _ _ h => by obtain ⟨_, _, _, rfl, _⟩ := h; rfl
theorem get_lt {α : Type} {l : List α} {i : Nat} (h : i < l.length) : ∃ x, l[i]? = some x := ⟨l[i], List.getElem?_eq_getElem h⟩
theorem take_get {α : Type} {l : List α} {i : Nat} {x : α} (h : l[i]? = some x) : l.take (i + 1) = l.take i ++ [x] := by rw [List.take_add_one, h]; rfl

section
variable {P : Program} {o : Oper} {n : Nat} {ρ : Nat → Value} {W w0 : World} {v : Value} {x y : Operand} {t t' e : TypeId} {k : IntKind} {g i q s m c off a0 : Nat} {a : Int} {S T : Nat → Prop} {xs L cs : List Value} {LF : List Fact}
/-- An element's address, the slice's block known. -/
theorem d_iaG (ho : o.op = .indexAddr t x y) (hr : Rd W S s (some ⟨g, i, none⟩) m xs) (hx : ev n ρ x = .slice (some ⟨g, i, none⟩) m c) (hy : ev n ρ y = .int k a) (ha : a = (q : Int)) (hq : q < m) (hu : P.underlying t = some (.slice e)) (hs : (P.info? e).map (·.size) = some s) :
    Runs P n ρ o W (.pointer (some ⟨g, i + q * s, none⟩)) W := by
  have := d_iaS ho hr hx hy ha hq hu hs
  rwa [Option.map_some, Addr.add_mid] at this
/-- A cell of an element. -/
theorem d_ldE (ho : o.op = .load t x) (hr : Rd W S s (some ⟨g, i, none⟩) m xs) (hq : q < m) (hL : sub xs (q * s) s = L) (hv : sub L off 1 = [v]) (hs : Nat.blt off s = true) (hx : ev n ρ x = .pointer (some ⟨g, a0, none⟩)) (ha : a0 = i + (q * s + off)) (hg : aggB P t = some false) : Runs P n ρ o W v W := by
  subst hL ha
  have hs' : off < s := by rwa [Nat.blt_eq] at hs
  obtain ⟨g', o', he, _, hc⟩ := hr.2 (by omega)
  cases he
  rw [sub_sub (by omega)] at hv
  exact d_ldC ho hx hg (hc _ _ (sub_get hv))
/-- Cells of an element. -/
theorem d_ldEM (ho : o.op = .load t x) (hr : Rd W S s (some ⟨g, i, none⟩) m xs) (hq : q < m) (hL : sub xs (q * s) s = L) {j : Nat} (hv : sub L off j = cs) (hs : Nat.ble (off + j) s = true) (hx : ev n ρ x = .pointer (some ⟨g, a0, none⟩)) (ha : a0 = i + (q * s + off)) (hg : aggB P t = some true) (hsz : (P.info? t).map (·.size) = some j) : Runs P n ρ o W (.agg cs.toArray) W := by
  subst hL ha hv
  have hs' := Nat.le_of_ble_eq_true hs
  obtain ⟨g', o', he, _, hc⟩ := hr.2 (by omega)
  cases he
  rw [sub_sub hs']
  have hl := hr.1
  have hq2 : q * s + s ≤ xs.length := by
    rw [hl]
    have := Nat.mul_le_mul_right s (show q + 1 ≤ m by omega)
    rw [Nat.add_mul] at this; omega
  refine d_ldmC (g := g) (i := i + (q * s + off)) ho hx hg hsz (len_sub (by omega)) (fun d u hu => ?_)
  unfold sub at hu
  rw [List.getElem?_take] at hu
  split at hu
  · rw [List.getElem?_drop] at hu
    rw [Nat.add_assoc]
    exact hc _ _ hu
  · cases hu
/-- A cell, or cells, of a block of the call's own. -/
theorem d_ldX (ho : o.op = .load t x) (H : St T w0 W LF) [hb : Blk g LF L t'] (hv : sub L off 1 = [v]) (hx : ev n ρ x = .pointer (some ⟨g, a0, none⟩)) (ha : a0 = off) (hg : aggB P t = some false) : Runs P n ρ o W v W := by
  subst ha
  exact d_ld ho H hx hg (hb := hb) (sub_get hv)
theorem d_ldXM (ho : o.op = .load t x) (H : St T w0 W LF) [hb : Blk g LF L t'] {j : Nat} (hv : sub L off j = cs) (hl : cs.length = j) (hj : Nat.blt 0 j = true) (hx : ev n ρ x = .pointer (some ⟨g, a0, none⟩)) (ha : a0 = off) (hg : aggB P t = some true) (hsz : (P.info? t).map (·.size) = some j) : Runs P n ρ o W (.agg cs.toArray) W := by
  subst ha hv
  exact d_ldm ho H hx hg hsz (hb := hb) (Nat.ble_eq_true_of_le (sub_len hl (by rwa [Nat.blt_eq] at hj)))
end
end Go.Proofs.YtejaohlijaodjaaDoor
