/- The operations that look at memory, or make or write it. No program stands in this text. -/
import Derived.Test.YtejaohlijaodjaaDoorVP
namespace Go.Proofs.YtejaohlijaodjaaDoor
open Go Go.RowKit

/- Cells laid over others. -/
def over : List Value → List Value → List Value
  | c, [] => c
  | [], _ :: _ => []
  | _ :: c, v :: vs => v :: over c vs
def spl : List Value → Nat → List Value → List Value
  | c, 0, vs => over c vs
  | [], _ + 1, _ => []
  | x :: c, k + 1, vs => x :: spl c k vs
def sub (c : List Value) (k m : Nat) : List Value := (c.drop k).take m
theorem spl_nil : ∀ (c : List Value) (k : Nat), spl c k [] = c
  | [], 0 => rfl
  | _ :: _, 0 => rfl
  | [], _ + 1 => rfl
  | x :: c, k + 1 => by rw [spl, spl_nil c k]
theorem spl_cons : ∀ (c : List Value) (k : Nat) (v : Value) (vs : List Value), spl c k (v :: vs) = spl (c.set k v) (k + 1) vs
  | [], 0, _, _ => rfl
  | _ :: c, 0, _, _ => by cases c <;> rfl
  | [], _ + 1, _, _ => rfl
  | x :: c, k + 1, v, vs => by rw [spl, List.set_cons_succ, spl_cons c k v vs]; rfl
theorem len_spl : ∀ (vs c : List Value) (k : Nat), (spl c k vs).length = c.length
  | [], c, k => by rw [spl_nil]
  | v :: vs, c, k => by rw [spl_cons, len_spl vs, List.length_set]
theorem setCells_heap (g : Nat) : ∀ (vs : List Value) (k : Nat) (W : World) (c : List Value) (t : TypeId), W.heap[g]? = some (.cells c.toArray t (0, 0)) → (W.setCells g k vs).heap[g]? = some (.cells (spl c k vs).toArray t (0, 0))
  | [], k, W, c, t, h => by rw [spl_nil]; exact h
  | v :: vs, k, W, c, t, h => by
    rw [World.setCells, spl_cons]
    refine setCells_heap g vs (k + 1) _ (c.set k v) t ?_
    simp [World.setCell, Array.getElem?_modify, h]
theorem setCells_fr (g : Nat) : ∀ (vs : List Value) (k : Nat) (W : World), Fr (· = g) W (W.setCells g k vs)
  | [], _, _ => Fr.refl
  | v :: vs, k, W => by
    rw [World.setCells]
    have h1 : Fr (· = g) W (W.setCell ⟨g, k, none⟩ v) := ⟨rfl, rfl, rfl, by simp, fun i _ hi => Below.heap_setCell W ⟨g, k, none⟩ v i hi⟩
    exact h1.trans (setCells_fr g vs (k + 1) _) (fun _ _ h => h)
theorem blk_cell {W : World} {g k : Nat} {c : List Value} {t : TypeId} {f : Nat × Nat} (h : W.heap[g]? = some (.cells c.toArray t f)) : W.cell? ⟨g, k, none⟩ = c[k]? := by
  rw [cell_of_row W g k _ t f h]; simp
theorem blk_range {W : World} {g k m : Nat} {c : List Value} {t : TypeId} {f : Nat × Nat} (h : W.heap[g]? = some (.cells c.toArray t f)) : W.rangeAt g k (sub c k m) := fun j v hv => by
  rw [blk_cell h]
  unfold sub at hv
  rw [List.getElem?_take] at hv
  split at hv
  · rwa [List.getElem?_drop] at hv
  · cases hv
theorem blk_there {W : World} {g k m : Nat} {c : List Value} {t : TypeId} (h : W.heap[g]? = some (.cells c.toArray t (0, 0))) (hm : k + m ≤ c.length) : W.there g k m := fun j hj =>
  ⟨by rw [blk_cell h, List.getElem?_eq_getElem (by omega)]; rfl, by simp [World.frozen?, h]⟩
theorem run_storeVar {P : Program} (w : World) (b k : Nat) (ty : TypeId) (v : Value) (vs : List Value) (hv : v.cells = vs.toArray) (ht : w.there b k vs.length) (hi : (P.info? ty).map (·.size) = some vs.length) (h1 : vs.all (·.oneCell') = true) :
    (storeVar ty ⟨b, k, none⟩ v).run P w = .ok () (w.setCells b k vs) := by
  have := run_storeCells_cells (P := P) b k vs 0 w (fun j hj => by simpa using (ht j hj).1) (fun j hj => by simpa using (ht j hj).2) (fun v hv => (List.all_eq_true.1 h1) v hv)
  cases hq : P.info? ty with
  | none => simp [hq] at hi
  | some i =>
    have hs : vs.length = i.size := by simp [hq] at hi; omega
    simp only [Nat.add_zero] at this
    simp [storeVar, sizeOf, typeInfo, hq, hv, hs, this]
/-- A struct, or an array. -/
def aggB (P : Program) (t : TypeId) : Option Bool := match P.underlying t with | some (.struct _) => some true | some (.array _ _) => some true | some _ => some false | none => none
theorem run_isAgg {P : Program} {t : TypeId} {b : Bool} (h : aggB P t = some b) (W : World) : (isAgg t).run P W = .ok b W := by
  unfold aggB at h
  cases hu : P.underlying t with
  | none => rw [hu] at h; cases h
  | some d =>
    rw [hu] at h
    unfold isAgg
    rw [Sem.run_bind, run_underlying hu W]
    cases d <;> simp at h <;> subst h <;> rfl
theorem run_load1 {P : Program} {W : World} {t : TypeId} {A : Addr} {v : Value} (ha : aggB P t = some false) (hc : W.cell? A = some v) : (loadVar t A).run P W = .ok v W := by
  simp [loadVar, Sem.run_bind, run_isAgg ha W, hc]
theorem run_loadM {P : Program} {W : World} {t : TypeId} {g k m : Nat} {cs : List Value} (ha : aggB P t = some true) (hs : (P.info? t).map (·.size) = some m) (hl : cs.length = m) (hc : W.rangeAt g k cs) : (loadVar t ⟨g, k, none⟩).run P W = .ok (.agg cs.toArray) W := by
  have hl' : (loadCells ⟨g, k, none⟩ cs.length).run P W = .ok cs.toArray W :=
    run_loadCells_list (P := P) W ⟨g, k, none⟩ cs (fun j v hv => by rw [Addr.add_mid]; exact hc j v hv)
  cases hq : P.info? t with
  | none => simp [hq] at hs
  | some i =>
    have hs' : i.size = cs.length := by simp [hq] at hs; omega
    simp [loadVar, Sem.run_bind, run_isAgg ha W, sizeOf, typeInfo, hq, hs', hl']

section
variable {P : Program} {ops : Array Oper} {Q : Exit → Act → World → Prop} {rest : List Oper} {o : Oper} {n : Nat} {ρ : Nat → Value} {ds : List Deferred} {W W' : World} {d : Tmp} {v u : Value} {x y z : Operand} {t t' e : TypeId} {k k' : IntKind}
  {T : Nat → Prop} {w0 : World} {L L' : List Fact} {g i m : Nat} {c vs cs : List Value}

/- Loads. -/
theorem d_ldC {A : Addr} (ho : o.op = .load t x) (hx : ev n ρ x = .pointer (some A)) (ha : aggB P t = some false) (hc : W.cell? A = some v) : Runs P n ρ o W v W := by
  unfold Runs execOp
  simp only [ho, hx, Instr.loadAt, Instr.sureAddr, Sem.run_bind, Sem.run_pure, Result.andThen_ok, run_load1 ha hc]
theorem d_ldmC (ho : o.op = .load t x) (hx : ev n ρ x = .pointer (some ⟨g, i, none⟩)) (ha : aggB P t = some true) (hs : (P.info? t).map (·.size) = some m) (hl : cs.length = m) (hc : W.rangeAt g i cs) : Runs P n ρ o W (.agg cs.toArray) W := by
  unfold Runs execOp
  simp only [ho, hx, Instr.loadAt, Instr.sureAddr, Sem.run_bind, Sem.run_pure, Result.andThen_ok, run_loadM ha hs hl hc]
theorem d_ld (ho : o.op = .load t x) (H : St T w0 W L) (hx : ev n ρ x = .pointer (some ⟨g, i, none⟩)) (ha : aggB P t = some false) [hb : Blk g L c t'] (hc : c[i]? = some v) : Runs P n ρ o W v W :=
  d_ldC ho hx ha (by rw [blk_cell H.blk]; exact hc)
theorem d_ldm (ho : o.op = .load t x) (H : St T w0 W L) (hx : ev n ρ x = .pointer (some ⟨g, i, none⟩)) (ha : aggB P t = some true) (hs : (P.info? t).map (·.size) = some m) [hb : Blk g L c t'] (hl : Nat.ble (i + m) c.length = true) : Runs P n ρ o W (.agg (sub c i m).toArray) W :=
  d_ldmC ho hx ha hs (by have := Nat.le_of_ble_eq_true hl; simp [sub]; omega) (blk_range H.blk)
/-- A byte of a slice, by its address. -/
theorem d_ldB {S : Nat → Prop} {A : Option Addr} {m q : Nat} {l : List UInt8} {b : UInt8} (ho : o.op = .load t x) (hr : Rd W S 1 A m (l.map u8v)) (hb : l[q]? = some b) (hx : ev n ρ x = .pointer (A.map (·.add q))) (ha : aggB P t = some false) : Runs P n ρ o W (u8v b) W := by
  have hl : l.length = m := by simpa using hr.1
  have hq : q < l.length := (List.getElem?_eq_some_iff.1 hb).1
  obtain ⟨g, o', b', rfl, _, hb', hc⟩ := hr.byte (k := q) (by omega)
  rw [hb] at hb'
  cases hb'
  exact d_ldC (A := ⟨g, o' + q, none⟩) ho (by rw [hx, Option.map_some, Addr.add_mid]) ha hc

/- Addresses of elements. -/
theorem d_iaS {S : Nat → Prop} {A : Option Addr} {m c q s : Nat} {a : Int} {xs : List Value} (ho : o.op = .indexAddr t x y) (hr : Rd W S s A m xs) (hx : ev n ρ x = .slice A m c) (hy : ev n ρ y = .int k a) (ha : a = (q : Int)) (hq : q < m) (hu : P.underlying t = some (.slice e)) (hs : (P.info? e).map (·.size) = some s) :
    Runs P n ρ o W (.pointer (A.map (·.add (q * s)))) W := by
  subst ha
  obtain ⟨g, o', rfl, _⟩ := hr.2 (by omega)
  cases hi : P.info? e with
  | none => rw [hi] at hs; cases hs
  | some ie =>
    have hs' : ie.size = s := by simpa [hi] using hs
    unfold Runs execOp
    simp [ho, hx, hy, Instr.indexAt, asIntOf, run_underlying hu, sizeOf, typeInfo, hi, hs', hq]
theorem d_iaB {S : Nat → Prop} {A : Option Addr} {m c q : Nat} {a : Int} {l : List UInt8} (ho : o.op = .indexAddr t x y) (hr : Rd W S 1 A m (l.map u8v)) (hx : ev n ρ x = .slice A m c) (hy : ev n ρ y = .int k a) (ha : a = (q : Int)) (hq : q < m) (hu : P.underlying t = some (.slice e)) (hs : (P.info? e).map (·.size) = some 1) :
    Runs P n ρ o W (.pointer (A.map (·.add q))) W := by
  have := d_iaS (xs := l.map u8v) ho hr hx hy ha hq hu hs
  rwa [Nat.mul_one] at this
theorem d_iaA {m q s : Nat} {a : Int} (ho : o.op = .indexAddr t x y) (hx : ev n ρ x = .pointer (some ⟨g, i, none⟩)) (hy : ev n ρ y = .int k a) (ha : a = (q : Int)) (hu : P.underlying t = some (.array m e)) (hq : q < m) (hs : (P.info? e).map (·.size) = some s) :
    Runs P n ρ o W (.pointer (some ⟨g, i + q * s, none⟩)) W := by
  subst ha
  cases hi : P.info? e with
  | none => rw [hi] at hs; cases hs
  | some ie =>
    have hs' : ie.size = s := by simpa [hi] using hs
    unfold Runs execOp
    simp [ho, hx, hy, Instr.indexAt, asIntOf, run_underlying hu, sizeOf, typeInfo, hi, hs', hq, Instr.sureAddr, Addr.add_mid]
/-- An element of an array by value, of one cell. -/
theorem d_ix {m q : Nat} {a : Int} {cs : Array Value} (ho : o.op = .index t x y) (hx : ev n ρ x = .agg cs) (hy : ev n ρ y = .int k a) (ha : a = (q : Int)) (hu : P.underlying t = some (.array m e)) (hq : q < m) (hs : (P.info? e).map (·.size) = some 1) (hg : aggB P e = some false) (hv : cs[q]? = some v) :
    Runs P n ρ o W v W := by
  subst ha
  cases hi : P.info? e with
  | none => rw [hi] at hs; cases hs
  | some ie =>
    have hs' : ie.size = 1 := by simpa [hi] using hs
    unfold Runs execOp
    simp [ho, hx, hy, Instr.index, asIntOf, run_underlying hu, sizeOf, typeInfo, hi, hs', hq, part, run_isAgg hg W, hv]
/-- A field by value. -/
theorem d_field1 {f q : Nat} {cs : Array Value} (ho : o.op = .field t x f) (hx : ev n ρ x = .agg cs) (hf : fOff P t f = some (q, e)) (hg : aggB P e = some false) (hv : cs[q]? = some v) : Runs P n ρ o W v W := by
  obtain ⟨fs, fl, i, hu, hfl, rfl, rfl, hi, hs⟩ := fOff_spec hf
  unfold Runs execOp
  simp [ho, hx, Instr.field, run_underlying hu, hfl, asAgg, part, run_isAgg hg W, hv]
theorem d_fieldM {f q : Nat} {cs : List Value} (ho : o.op = .field t x f) (hx : ev n ρ x = .agg cs.toArray) (hf : fOff P t f = some (q, e)) (hg : aggB P e = some true) (hs : (P.info? e).map (·.size) = some m) : Runs P n ρ o W (.agg (sub cs q m).toArray) W := by
  obtain ⟨fs, fl, i, hu, hfl, rfl, rfl, hi, _⟩ := fOff_spec hf
  have hs' : i.size = m := by simpa [hi] using hs
  unfold Runs execOp
  simp [ho, hx, Instr.field, run_underlying hu, hfl, asAgg, part, run_isAgg hg W, sizeOf, typeInfo, hi, hs', sub]

/- Slices of slices. -/
theorem add0 (A : Option Addr) : A.map (fun a => a.add 0) = A := by cases A <;> simp [Addr.add]
theorem sliced_head (A : Option Addr) (h c s : Nat) : sliced A 0 h c s = .slice A h c := by
  unfold sliced
  rw [Nat.zero_mul, Nat.sub_zero, Nat.sub_zero, add0, ite_self]
theorem elem_of {P : Program} {t e : TypeId} (h : P.underlying t = some (.slice e)) : P.underlying t = some (.slice (P.elem t)) := by rw [h]; simp [Program.elem, h]
end
end Go.Proofs.YtejaohlijaodjaaDoor
