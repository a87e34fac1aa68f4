/- The operations that cut slices, make memory or write it. No program stands in this text. -/
import Derived.Test.YtejaohlijaodjaaDoorVM
namespace Go.Proofs.YtejaohlijaodjaaDoor
open Go Go.RowKit

/-- A dense literal: each part in its place. -/
theorem fill_dense (s : Nat) : ∀ (vals : List Value) (j : Nat) (cells : Array Value), (∀ v ∈ vals, v.cells.size = s) → cells.size = (j + vals.length) * s →
    ∃ r, Instr.fill (fun i => some (i * s, s)) cells (vals.zipIdx j |>.map fun x => (x.2, x.1)) = some r ∧ r.toList = cells.toList.take (j * s) ++ (vals.map fun v => v.cells.toList).flatten
  | [], j, cells, _, hs => ⟨cells, rfl, by
      rw [List.take_of_length_le (by simp only [List.length_nil, Nat.add_zero] at hs; simp [hs])]; simp⟩
  | v :: vals, j, cells, hv, hs => by
    have hvs := hv v (by simp)
    simp only [List.length_cons] at hs
    have hfold : ∀ (q : List Value) (a : Nat) (cs : Array Value), a + q.length ≤ cs.size → j * s + a + q.length ≤ cs.size →
        ((q.zipIdx a).foldl (fun cs (x : Value × Nat) => cs.setIfInBounds (j * s + x.2) x.1) cs).toList = cs.toList.take (j * s + a) ++ q ++ cs.toList.drop (j * s + a + q.length) := by
      intro q
      induction q with
      | nil => intro a cs _ _; simp
      | cons w q ih =>
        intro a cs h1 h2
        simp only [List.length_cons] at h1 h2
        rw [List.zipIdx_cons, List.foldl_cons, ih (a + 1) _ (by simp; omega) (by simp; omega)]
        simp only [Array.toList_setIfInBounds, List.length_cons]
        have hlt : j * s + a < cs.toList.length := by simp; omega
        rw [show j * s + (a + 1) = j * s + a + 1 by omega, show j * s + a + 1 + q.length = j * s + a + (q.length + 1) by omega]
        rw [List.take_add_one, List.take_set_of_le (Nat.le_refl _), List.getElem?_set_self hlt, List.drop_set_of_lt (by omega)]
        simp
    have hm : (j + (vals.length + 1)) * s = j * s + s + vals.length * s := by
      rw [Nat.add_mul, Nat.add_mul]; omega
    have h0 := hfold v.cells.toList 0 cells (by simp; omega) (by simp; omega)
    simp only [Nat.add_zero, Array.length_toList, hvs] at h0
    have e1 : (v.cells.zipIdx.foldl (fun cs (x : Value × Nat) => cs.setIfInBounds (j * s + x.2) x.1) cells) = ((v.cells.toList.zipIdx 0).foldl (fun cs (x : Value × Nat) => cs.setIfInBounds (j * s + x.2) x.1) cells) := by
      rw [← Array.foldl_toList]; simp
    obtain ⟨r, hr, hl⟩ := fill_dense s vals (j + 1) (v.cells.zipIdx.foldl (fun cs (x : Value × Nat) => cs.setIfInBounds (j * s + x.2) x.1) cells) (fun u hu => hv u (by simp [hu])) (by
      have : ((v.cells.toList.zipIdx 0).foldl (fun cs (x : Value × Nat) => cs.setIfInBounds (j * s + x.2) x.1) cells).toList.length = cells.toList.length := by
        rw [h0]; simp; omega
      rw [e1]
      simp only [Array.length_toList] at this
      rw [this, hs, hm, Nat.add_mul, Nat.add_mul]; omega)
    refine ⟨r, ?_, ?_⟩
    · rw [List.zipIdx_cons, List.map_cons, Instr.fill]
      show (if (decide (v.cells.size ≠ s) || decide (j * s + v.cells.size > cells.size)) = true then none else Instr.fill _ _ _) = some r
      rw [if_neg (by simp [hvs]; omega)]
      exact hr
    · rw [hl, e1, h0]
      have hlen : (cells.toList.take (j * s)).length = j * s := by rw [List.length_take]; simp; omega
      have h3 : (j + 1) * s = (cells.toList.take (j * s) ++ v.cells.toList).length := by rw [List.length_append, hlen, Nat.add_mul]; simp [hvs]
      rw [h3, List.take_left]
      simp

section
variable {P : Program} {ops : Array Oper} {Q : Exit → Act → World → Prop} {K : Act → World → Prop} {o : Oper} {n : Nat} {ρ : Nat → Value} {ds : List Deferred} {W W' : World} {d : Tmp} {v u : Value} {x y z : Operand} {t t' e : TypeId} {k k' : IntKind}
  {T : Nat → Prop} {w0 : World} {L L' : List Fact} {g i m : Nat} {c vs cs : List Value} {A : Option Addr}

/- Cuts. -/
theorem run_size (hs : (P.info? e).map (·.size) = some m) (W : World) : (sizeOf e).run P W = .ok m W := by
  cases hi : P.info? e with
  | none => rw [hi] at hs; cases hs
  | some ie =>
    have hs' : ie.size = m := by simpa [hi] using hs
    simp [sizeOf, typeInfo, hi, hs']
theorem d_cutP {s c : Nat} {h : Nat} {a : Int} (ho : o.op = .slice t x none (some y) none) (hy : ev n ρ y = .int k a) (ha : a = (h : Int)) (hh : h ≤ c) (hx : ev n ρ x = .slice A m c) (hu : P.underlying t = some (.slice e)) (hs : (P.info? e).map (·.size) = some s) : Runs P n ρ o W (.slice A h c) W := by
  subst ha
  have he := elem_of hu
  have e1 : P.elem t = e := by rw [he] at hu; cases hu; rfl
  have := run_slice_h (P := P) W t A m c he k (h : Int) (by omega) (by omega)
  unfold Runs execOp
  simp only [ho, hx, hy, Option.map_some, Option.map_none, run_sliceAt_slice W t _ _ _ _ he, this, e1, Sem.run_bind, run_size hs, Result.andThen_ok, Sem.run_pure, Int.toNat_natCast, sliced_head]
theorem d_cutS {s c : Nat} {l : Nat} {a : Int} (ho : o.op = .slice t x (some y) none none) (hy : ev n ρ y = .int k a) (ha : a = (l : Int)) (hl : l ≤ m) (hx : ev n ρ x = .slice A m c) (hu : P.underlying t = some (.slice e)) (hs : (P.info? e).map (·.size) = some s) : Runs P n ρ o W (.slice (if c = l then A else A.map (·.add (l * s))) (m - l) (c - l)) W := by
  subst ha
  have he := elem_of hu
  have e1 : P.elem t = e := by rw [he] at hu; cases hu; rfl
  have := run_slice_l (P := P) W t A m c he k (l : Int) (by omega) (by omega)
  unfold Runs execOp
  simp only [ho, hx, hy, Option.map_some, Option.map_none, run_sliceAt_slice W t _ _ _ _ he, this, e1, Sem.run_bind, run_size hs, Result.andThen_ok, Sem.run_pure, Int.toNat_natCast, sliced]
theorem d_cut {s c : Nat} {l h : Nat} {a b : Int} (ho : o.op = .slice t x (some y) (some z) none) (hy : ev n ρ y = .int k a) (hz : ev n ρ z = .int k' b) (ha : a = (l : Int)) (hb : b = (h : Int)) (hl : l ≤ h) (hh : h ≤ c) (hx : ev n ρ x = .slice A m c) (hu : P.underlying t = some (.slice e)) (hs : (P.info? e).map (·.size) = some s) : Runs P n ρ o W (.slice (if c = l then A else A.map (·.add (l * s))) (h - l) (c - l)) W := by
  subst ha hb
  have he := elem_of hu
  have e1 : P.elem t = e := by rw [he] at hu; cases hu; rfl
  have := run_slice_lh (P := P) W t A m c he k k' (l : Int) (h : Int) (by omega) (by omega) (by omega)
  unfold Runs execOp
  simp only [ho, hx, hy, hz, Option.map_some, Option.map_none, run_sliceAt_slice W t _ _ _ _ he, this, e1, Sem.run_bind, run_size hs, Result.andThen_ok, Sem.run_pure, Int.toNat_natCast, sliced]
theorem d_cutA {s c : Nat} (ho : o.op = .slice t x none none none) (hx : ev n ρ x = .slice A m c) (hu : P.underlying t = some (.slice e)) (hs : (P.info? e).map (·.size) = some s) : Runs P n ρ o W (.slice A m c) W := by
  have he := elem_of hu
  have e1 : P.elem t = e := by rw [he] at hu; cases hu; rfl
  have := run_slice_all (P := P) W t A m c he
  unfold Runs execOp
  simp only [ho, hx, Option.map_none, run_sliceAt_slice W t _ _ _ _ he, this, e1, Sem.run_bind, run_size hs, Result.andThen_ok, Sem.run_pure, sliced_head]
theorem d_cutM {s c : Nat} {h : Nat} {a b : Int} (ho : o.op = .slice t x none (some y) (some z)) (hy : ev n ρ y = .int k a) (hz : ev n ρ z = .int k' b) (ha : a = (h : Int)) (hb : b = (h : Int)) (hh : h ≤ c) (hx : ev n ρ x = .slice A m c) (hu : P.underlying t = some (.slice e)) (hs : (P.info? e).map (·.size) = some s) : Runs P n ρ o W (.slice A h h) W := by
  subst ha hb
  have he := elem_of hu
  have e1 : P.elem t = e := by rw [he] at hu; cases hu; rfl
  have := run_slice_hm (P := P) W t A m c he k k' (h : Int) (h : Int) (by omega) (by omega) (by omega)
  unfold Runs execOp
  simp only [ho, hx, hy, hz, Option.map_some, Option.map_none, run_sliceAt_slice W t _ _ _ _ he, this, e1, Sem.run_bind, run_size hs, Result.andThen_ok, Sem.run_pure, Int.toNat_natCast, sliced_head]
/-- A whole array as a slice. -/
theorem arr_of (h : P.underlying t = some (.array m e)) : P.underlying t = some (.array (P.arrayLen t) (P.elem t)) := by rw [h]; simp [Program.elem, Program.arrayLen, h]
theorem d_arrA {s : Nat} (ho : o.op = .slice t x none none none) (hx : ev n ρ x = .pointer (some ⟨g, i, none⟩)) (hu : P.underlying t = some (.array m e)) (hs : (P.info? e).map (·.size) = some s) : Runs P n ρ o W (.slice (some ⟨g, i, none⟩) m m) W := by
  have he := arr_of hu
  have e1 : P.elem t = e ∧ P.arrayLen t = m := by rw [he] at hu; cases hu; exact ⟨rfl, rfl⟩
  have := run_sliceAt_array_all (P := P) W t ⟨g, i, none⟩ he
  unfold Runs execOp
  simp only [ho, hx, Option.map_none, this, e1.1, e1.2, Sem.run_bind, run_size hs, Result.andThen_ok, Sem.run_pure, slicedAt, Nat.zero_mul, Addr.add_zero', ite_self, Nat.sub_zero]
theorem d_arrP {s h : Nat} {a : Int} (ho : o.op = .slice t x none (some y) none) (hx : ev n ρ x = .pointer (some ⟨g, i, none⟩)) (hy : ev n ρ y = .int k a) (ha : a = (h : Int)) (hu : P.underlying t = some (.array m e)) (hh : h ≤ m) (hs : (P.info? e).map (·.size) = some s) : Runs P n ρ o W (.slice (some ⟨g, i, none⟩) h m) W := by
  subst ha
  have he := arr_of hu
  have e1 : P.elem t = e ∧ P.arrayLen t = m := by rw [he] at hu; cases hu; exact ⟨rfl, rfl⟩
  have := run_sliceAt_array_h (P := P) W t ⟨g, i, none⟩ he k (h : Int) (by omega) (by rw [e1.2]; omega)
  unfold Runs execOp
  simp only [ho, hx, hy, Option.map_some, Option.map_none, this, e1.1, e1.2, Sem.run_bind, run_size hs, Result.andThen_ok, Sem.run_pure, slicedAt, Nat.zero_mul, Addr.add_zero', ite_self, Nat.sub_zero, Int.toNat_natCast]
theorem d_arrS {s l : Nat} {a : Int} (ho : o.op = .slice t x (some y) none none) (hx : ev n ρ x = .pointer (some ⟨g, i, none⟩)) (hy : ev n ρ y = .int k a) (ha : a = (l : Int)) (hu : P.underlying t = some (.array m e)) (hl : l < m) (hs : (P.info? e).map (·.size) = some s) : Runs P n ρ o W (.slice (some ⟨g, i + l * s, none⟩) (m - l) (m - l)) W := by
  subst ha
  have he := arr_of hu
  have e1 : P.elem t = e ∧ P.arrayLen t = m := by rw [he] at hu; cases hu; exact ⟨rfl, rfl⟩
  have := run_sliceAt_array_l (P := P) W t ⟨g, i, none⟩ he k (l : Int) (by omega) (by rw [e1.2]; omega)
  unfold Runs execOp
  simp only [ho, hx, hy, Option.map_some, Option.map_none, this, e1.1, e1.2, Sem.run_bind, run_size hs, Result.andThen_ok, Sem.run_pure, slicedAt, Int.toNat_natCast, Addr.add_mid]
  rw [if_neg (by omega)]

/- New blocks. -/
theorem e_box (hw : Region.wanted o (yielded ops (st n ρ ds).tmps) = true) (hd : o.dst = some d) (ho : o.op = .box t x) (hx : ev n ρ x = v) (hv : v.cells = vs.toArray) (H : St T w0 W L)
    (k : ∀ g W', St T w0 W' (Fact.blk g vs t :: L) → K (st n (upd ρ d (.pointer (some ⟨g, 0, none⟩))) ds) W') : Step P ops Q o (st n ρ ds) W K := by
  refine e_run hw hd (v := .pointer (some ⟨W.heap.size, 0, none⟩)) (W' := W.alloc (.cells vs.toArray t)) ?_ (k _ _ (H.alloc vs t))
  unfold Runs execOp
  simp [ho, hx, Instr.box, newVar, newRow, hv]
theorem e_alloc (hw : Region.wanted o (yielded ops (st n ρ ds).tmps) = true) (hd : o.dst = some d) (ho : o.op = .alloc t) (vs : List Value) (hz : ((P.info? t).bind (·.zero)).map (·.cells) = some vs.toArray) (H : St T w0 W L)
    (k : ∀ g W', St T w0 W' (Fact.blk g vs t :: L) → K (st n (upd ρ d (.pointer (some ⟨g, 0, none⟩))) ds) W') : Step P ops Q o (st n ρ ds) W K := by
  refine e_run hw hd (v := .pointer (some ⟨W.heap.size, 0, none⟩)) (W' := W.alloc (.cells vs.toArray t)) ?_ (k _ _ (H.alloc vs t))
  cases hi : P.info? t with
  | none => rw [hi] at hz; cases hz
  | some it =>
    cases hzz : it.zero with
    | none => rw [hi] at hz; simp [hzz] at hz
    | some q =>
      have hq : q.cells = vs.toArray := by rw [hi] at hz; simpa [hzz] using hz
      unfold Runs execOp
      simp [ho, Instr.alloc, zeroValue, typeInfo, hi, hzz, newVar, newRow, hq]
/-- A slice literal, each part given in its order. -/
theorem e_bsl {xs : List Operand} {vals : List Value} {s : Nat} {parts : Array (Nat × Operand)} (hw : Region.wanted o (yielded ops (st n ρ ds).tmps) = true) (hd : o.dst = some d) (ho : o.op = .buildSlice t m parts) (hp : parts.toList = (xs.zipIdx 0).map fun x => (x.2, x.1)) (hl : xs.length = m) (hm : Nat.ble 1 m = true) (hxs : xs.map (ev n ρ) = vals)
    (hu : P.underlying t = some (.slice e)) (hs : (P.info? e).map (·.size) = some s) (hz : ((P.info? e).bind (·.zero)).isSome = true) (hsm : (Nat.ble 1 s && Nat.ble (m * s) 16777216) = true) (hv : vals.all (fun v => v.cells.size == s) = true) (hvs : (vals.map fun v => v.cells.toList).flatten = vs) (H : St T w0 W L)
    (k : ∀ g W', St T w0 W' (Fact.blk g vs e :: L) → K (st n (upd ρ d (.slice (some ⟨g, 0, none⟩) m m)) ds) W') : Step P ops Q o (st n ρ ds) W K := by
  refine e_run hw hd (v := .slice (some ⟨W.heap.size, 0, none⟩) m m) (W' := W.alloc (.cells vs.toArray e)) ?_ (k _ _ (H.alloc vs e))
  simp only [Bool.and_eq_true] at hsm
  have h1 := Nat.le_of_ble_eq_true hm
  have h2 := Nat.le_of_ble_eq_true hsm.1
  have h3 := Nat.le_of_ble_eq_true hsm.2
  cases hi : P.info? e with
  | none => rw [hi] at hs; cases hs
  | some ie =>
    have hs' : ie.size = s := by simpa [hi] using hs
    rw [hi, Option.bind_some] at hz
    obtain ⟨zv, hzv⟩ := Option.isSome_iff_exists.1 hz
    have hpe : (parts.map fun x => (x.1, ev n ρ x.2)).toList = (vals.zipIdx 0).map fun x => (x.2, x.1) := by
      rw [Array.toList_map, hp, ← hxs, List.zipIdx_map, List.map_map, List.map_map]
      rfl
    obtain ⟨r, hr, hrl⟩ := fill_dense s vals 0 ((Array.range (m * ie.size)).map (zv.cells[· % zv.cells.size]!)) (fun v hv' => by simpa using List.all_eq_true.1 hv v hv') (by
      rw [← hxs]; simp [hs', hl])
    have hr' : r = vs.toArray := by
      apply Array.ext'
      rw [hrl, hvs]; simp
    have := run_buildSlice (P := P) W t e m (parts.map fun x => (x.1, ev n ρ x.2)) r ie zv hu hi hzv (by rw [hs']; omega) (by rw [hs']; exact Nat.ne_of_gt (Nat.mul_pos h1 h2)) (by rw [hpe, hs']; rw [hs'] at hr; exact hr)
    unfold Runs execOp
    simp only [ho, Sem.run_bind, this, Result.andThen_ok, Sem.run_pure, hr']
/-- A struct or an array by value. -/
theorem d_build {parts : Array (Nat × Operand)} (ho : o.op = .build t parts) (hb : P.built t (parts.toList.map fun x => (x.1, ev n ρ x.2)) = some vs.toArray) : Runs P n ρ o W (.agg vs.toArray) W := by
  have h2 : (parts.map fun x => (x.1, ev n ρ x.2)).toList = parts.toList.map fun x => (x.1, ev n ρ x.2) := by simp
  have := run_build (P := P) W t (parts.map fun x => (x.1, ev n ρ x.2)) vs.toArray (by rw [h2]; exact hb)
  unfold Runs execOp
  simp only [ho, Sem.run_bind, this, Result.andThen_ok, Sem.run_pure]

/- Writes. -/
theorem e_sto {c : List Value} (hw : Region.wanted o (yielded ops (st n ρ ds).tmps) = true) (hd : o.dst = none) (ho : o.op = .store t x y) (hx : ev n ρ x = .pointer (some ⟨g, i, none⟩)) (hy : ev n ρ y = v) (hv : v.cells = vs.toArray) (hs : (P.info? t).map (·.size) = some vs.length) (h1 : vs.all (·.oneCell') = true) (H : St T w0 W L) [hb : Blk g L c t']
    (hl : Nat.ble (i + vs.length) c.length = true) [ht : Turn (Fact.blk g c t') (Fact.blk g (spl c i vs) t') L L'] (k : ∀ W', St T w0 W' L' → K (st n ρ ds) W') : Step P ops Q o (st n ρ ds) W K := by
  refine e_do hw hd (W' := W.setCells g i vs) ?_ (k _ (H.turn (f := Fact.blk g c t') (f' := Fact.blk g (spl c i vs) t') (setCells_fr g vs i W) (setCells_heap g vs i W c t' H.blk) (fun g hg => .inl hg)))
  have := run_storeVar (P := P) W g i t v vs hv (blk_there H.blk (Nat.le_of_ble_eq_true hl)) hs h1
  unfold Does execOp
  simp [ho, hx, hy, Instr.storeAt, Instr.sureAddr, this]
theorem St.nilrow (H : St T w0 W L) (e size : Nat) : St T w0 W (Fact.row e size (.slice none 0 0) 0 [] :: L) := by
  refine ⟨H.fr, fun f hf => ?_, fun f hf g hg => ?_, List.pairwise_cons.2 ⟨fun f _ g hg => (by cases hg), H.apart⟩⟩
  · rcases List.mem_cons.1 hf with rfl | hf
    · exact World.ownsRow_nil _ _ _ _
    · exact H.holds f hf
  · rcases List.mem_cons.1 hf with rfl | hf
    · cases hg
    · exact H.own f hf g hg
theorem row_form {w : World} {base e size : Nat} {v : Value} {n : Nat} {xs : List Value} (h : w.ownsRow base e size v n xs) : ∃ A c, v = .slice A n c ∧ n ≤ c ∧ c ≤ 9223372036854775807 := by
  rcases h.2 with ⟨rfl, h0⟩ | ⟨g, cap, cur, hv, _, _, h1, h2, _⟩
  · exact ⟨none, 0, by rw [h0], by omega, by omega⟩
  · exact ⟨_, cap, hv, h1, by simpa [maxLen] using h2⟩
/-- A row of a list, and it turned. -/
class RowTo (e s : Nat) (v : Value) (m : Nat) (L : List Fact) (xs : outParam (List Value)) (L'' : outParam (Fact → List Fact)) : Prop where perm : ∃ M, L.Perm (Fact.row e s v m xs :: M) ∧ ∀ f, (L'' f).Perm (f :: M)
instance (priority := low) RowTo.tail {e s m : Nat} {v : Value} {xs : List Value} {L : List Fact} {L'' : Fact → List Fact} {x : Fact} [h : RowTo e s v m L xs L''] : RowTo e s v m (x :: L) xs (fun f => x :: L'' f) := ⟨by
  obtain ⟨M, h1, h2⟩ := h.perm
  exact ⟨x :: M, (h1.cons x).trans (.swap _ _ _), fun f => ((h2 f).cons x).trans (.swap _ _ _)⟩⟩
instance RowTo.head {e s m : Nat} {v : Value} {xs : List Value} {L : List Fact} : RowTo e s v m (Fact.row e s v m xs :: L) xs (fun f => f :: L) := ⟨L, .refl _, fun _ => .refl _⟩
/-- append onto a row of the call's own. -/
theorem e_app {tt : TypeId} {c m q cq s by' : Nat} {B : Option Addr} {xs news : List Value} {S : Nat → Prop} {L'' : Fact → List Fact} (hw : Region.wanted o (yielded ops (st n ρ ds).tmps) = true) (hd : o.dst = some d) (ho : o.op = .call { callee := .builtin .append, args := #[x, y], argTypes := #[tt, tt] })
    (hu : P.underlying tt = some (.slice e)) (hi : (P.info? e).map (fun i => (i.zero.map (·.cells.size), i.size, i.bytes)) = some (some s, s, by')) (hsz : Nat.ble 1 s = true)
    (hx : ev n ρ x = .slice A m c) (hy : ev n ρ y = .slice B q cq) (H : St T w0 W L) [ht : RowTo e s (.slice A m c) m L xs L''] (hr : Rd W S s B q news) (h1 : news.all (·.oneCell') = true) (hm : m + q ≤ 1099511627776) (hby : Nat.ble by' 100 = true)
    (k : ∀ A' c' W', m + q ≤ c' → c' ≤ 9223372036854775807 → St T w0 W' (L'' (Fact.row e s (.slice A' (m + q) c') (m + q) (xs ++ news))) → K (st n (upd ρ d (.slice A' (m + q) c')) ds) W') : Step P ops Q o (st n ρ ds) W K := by
  cases hie : P.info? e with
  | none => rw [hie] at hi; cases hi
  | some ie =>
    rw [hie, Option.map_some] at hi
    have hi' := Option.some.inj hi
    simp only [Prod.mk.injEq] at hi'
    obtain ⟨hz, hs, hb⟩ := hi'
    cases hzz : ie.zero with
    | none => rw [hzz] at hz; cases hz
    | some zv =>
      have hzs : zv.cells.size = s := by rw [hzz] at hz; simpa using hz
      obtain ⟨M, hp1, hp2⟩ := ht.perm
      have H1 := H.perm hp1
      have hown : W.ownsRow 0 e s (.slice A m c) m xs := H1.holds _ (.head _)
      have hbb := Nat.le_of_ble_eq_true hby
      obtain ⟨v', w', hrun, h2, h3, h5⟩ := run_app (P := P) W 0 tt o.type e ie zv s by' hu hie hzz hs hb hzs (Nat.le_of_ble_eq_true hsz) (.slice A m c) m xs hown S B q cq news hr (fun u hu => List.all_eq_true.1 h1 u hu) (by simp only [maxLen]; omega)
        (Nat.le_trans (Nat.mul_le_mul hm hbb) (by omega)) (Nat.zero_le _)
      obtain ⟨A', c', rfl, hc1, hc2⟩ := row_form h2
      have hlt := World.ownsRow.lt h2
      have HT := (H1.turn0 (f' := Fact.row e s (.slice A' (m + q) c') (m + q) (xs ++ news))
        (W' := w') ⟨h3.os, h3.tape, h3.output, h3.size, fun i hi hne => h3.block i hi (fun e => hne e.symm)⟩ h2 (fun g hg => by
          have hg' : (Value.slice A' (m + q) c').ownBlock = some g := hg
          rcases h5 with h5 | h5
          · left; show (Value.slice A m c).ownBlock = some g; rw [← h5]; exact hg'
          · right; rw [h5] at hg'; have := hlt g (by rw [h5]; exact hg'); cases hg'; exact ⟨Nat.le_refl _, this.2⟩)).perm (hp2 _).symm
      refine e_run hw hd (v := .slice A' (m + q) c') (W' := w') ?_ (k _ _ _ hc1 hc2 HT)
      unfold Runs execOp
      simp only [ho, resolve, invoke, builtin, Sem.run_bind, Sem.run_pure, Result.andThen_ok, List.map_toArray, List.map_cons, List.map_nil, hx, hy, hrun]
end
end Go.Proofs.YtejaohlijaodjaaDoor
