/- More operations: zeros appended, capacities, empty literals, rows cut. No program stands in this text. -/
import Derived.Test.YtejaohlijaodjaaDoorVC
import Derived.Lib.AppendZerosOnto
namespace Go.Proofs.YtejaohlijaodjaaDoor
open Go Go.RowKit

section
variable {P : Program} {ops : Array Oper} {Q : Exit → Act → World → Prop} {K : Act → World → Prop} {o : Oper} {n : Nat} {ρ : Nat → Value} {ds : List Deferred} {W W' : World} {d : Tmp} {v u : Value} {x y z : Operand} {t t' e : TypeId} {k k' : IntKind}
  {T : Nat → Prop} {w0 : World} {L L' : List Fact} {g i m : Nat} {c vs cs : List Value} {A : Option Addr}
theorem d_cap {m c : Nat} (ho : o.op = .call { callee := .builtin .cap, args := #[x], argTypes := #[t] }) (hx : ev n ρ x = .slice A m c) (hu : P.underlying t = some (.slice e)) : Runs P n ρ o W (.int .i64 (c : Int)) W := by
  unfold Runs execOp
  simp [ho, hx, resolve, invoke, builtin, Builtin.cap_, run_underlying hu, goInt]
/-- []T{}. -/
theorem e_bsl0 {s : Nat} (hw : Region.wanted o (yielded ops (st n ρ ds).tmps) = true) (hd : o.dst = some d) (ho : o.op = .buildSlice t 0 #[]) (hu : P.underlying t = some (.slice e)) (hs : (P.info? e).map (·.size) = some s) (H : St T w0 W L)
    (k : ∀ g W', St T w0 W' (Fact.row e s (.slice (some ⟨g, 0, none⟩) 0 0) 0 [] :: L) → K (st n (upd ρ d (.slice (some ⟨g, 0, none⟩) 0 0)) ds) W') : Step P ops Q o (st n ρ ds) W K := by
  have hrow : (W.alloc (.cells #[] e)).ownsRow 0 e s (.slice (some ⟨W.heap.size, 0, none⟩) 0 0) 0 [] :=
    ⟨by simp, .inr ⟨W.heap.size, 0, #[], rfl, Nat.zero_le _, heap_alloc_new W _, Nat.le_refl _, Nat.zero_le _, by simp, by simp⟩⟩
  refine e_run hw hd (v := .slice (some ⟨W.heap.size, 0, none⟩) 0 0) (W' := W.alloc (.cells #[] e)) ?_ (k _ _ (H.call (f := Fact.row e s (.slice (some ⟨W.heap.size, 0, none⟩) 0 0) 0 []) ((Below.refl _ _).alloc (Nat.le_refl _) _) hrow (fun g hg => by
    have : some W.heap.size = some g := hg
    cases this; simp)))
  cases hi : P.info? e with
  | none => rw [hi] at hs; cases hs
  | some ie =>
    unfold Runs execOp
    simp [ho, Instr.buildSlice, run_underlying hu, sizeOf, typeInfo, hi, newRow, Instr.fill, Array.range_zero']
theorem zeroC (k : Nat) : Builtin.zeroCells (Value.int .u8 0).cells k = ((List.replicate k (0 : UInt8)).map u8v).toArray := by
  apply Array.ext
  · simp [Builtin.zeroCells, Value.cells]
  · intro i h1 h2
    simp [Builtin.zeroCells, Value.cells, Nat.mod_one]
/-- append(nil, make([]byte, q)...), q above 0. -/
theorem e_appz {tt ti : TypeId} {kq kt : IntKind} {a : Int} {q : Nat} (hw : Region.wanted o (yielded ops (st n ρ ds).tmps) = true) (hd : o.dst = some d) (ho : o.op = .call { callee := .builtin .append, args := #[x, y], argTypes := #[tt, ti] })
    (hu : P.underlying tt = some (.slice e)) (hut : P.underlying ti = some (.int kt)) (hi : (P.info? e).map (fun i => (i.zero, i.size, i.bytes)) = some (some (.int .u8 0), 1, 1))
    (hx : ev n ρ x = .slice none 0 0) (hy : ev n ρ y = .int kq a) (ha : a = (q : Int)) (h0 : 0 < q) (hm : q ≤ 1099511627776) (H : St T w0 W L)
    (k : ∀ A' c' W', q ≤ c' → c' ≤ 9223372036854775807 → St T w0 W' (Fact.row e 1 (.slice A' q c') q ((List.replicate q 0).map u8v) :: L) → K (st n (upd ρ d (.slice A' q c')) ds) W') : Step P ops Q o (st n ρ ds) W K := by
  subst ha
  obtain ⟨i, hi, hz, hs1, hb1⟩ := info_parts hi
  have hr := Lib.run_append_grow_zeros (P := P) W tt ti o.type e i (.int .u8 0) kq kt hu hut hi hz none 0 0 [] (by simp [Builtin.firstCells]) q h0 (by omega) (by omega) (by omega) (by rw [hb1]; omega)
      (by rw [hb1]; exact growslice_fits (by omega) (by omega))
  have hge := grownCap_ge W (0 + q) 0 e
  have hcm' := grownCap_le_maxLen W (0 + q) 0 e (by simp only [maxLen]; omega)
  rw [Nat.zero_add] at hr hge hcm'
  have hrow : (W.drew.alloc (.cells ([].toArray ++ Builtin.zeroCells (Value.int .u8 0).cells q ++ Builtin.zeroCells (Value.int .u8 0).cells (grownCap W q 0 e - q)) e)).ownsRow 0 e 1 (.slice (some ⟨W.heap.size, 0, none⟩) q (grownCap W q 0 e)) q ((List.replicate q 0).map u8v) := by
    refine ⟨by simp, .inr ⟨W.heap.size, _, _, rfl, Nat.zero_le _, heap_alloc_new W.drew _, hge, hcm', ?_, ?_⟩⟩
    · rw [zeroC, zeroC]; simp; omega
    · rw [zeroC, zeroC]
      have e1 : ([].toArray ++ ((List.replicate q (0 : UInt8)).map u8v).toArray ++ ((List.replicate (grownCap W q 0 e - q) (0 : UInt8)).map u8v).toArray).toList = (List.replicate q (0 : UInt8)).map u8v ++ (List.replicate (grownCap W q 0 e - q) (0 : UInt8)).map u8v := by simp
      have e2 : q * 1 = ((List.replicate q (0 : UInt8)).map u8v).length := by simp
      rw [e1, e2]
      exact List.take_left
  refine e_run hw hd (v := .slice (some ⟨W.heap.size, 0, none⟩) q (grownCap W q 0 e)) (W' := _) ?_ (k _ _ _ hge (by simpa [maxLen] using hcm') (H.drew.call (f := Fact.row e 1 (.slice (some ⟨W.heap.size, 0, none⟩) q (grownCap W q 0 e)) q ((List.replicate q 0).map u8v)) ((Below.refl _ _).alloc (Nat.le_refl _) _) hrow (fun g hg => by
    have : some W.heap.size = some g := hg
    cases this; simp)))
  unfold Runs execOp
  simp only [ho, resolve, invoke, builtin, Sem.run_bind, Sem.run_pure, Result.andThen_ok, List.map_toArray, List.map_cons, List.map_nil, hx, hy, hr]
/-- A row cut at its end. -/
theorem St.rowcut {m c q s : Nat} {xs : List Value} (H : St T w0 W (Fact.row e s (.slice A m c) m xs :: L)) (hq : q ≤ m) (hnn : A.isSome = true) : St T w0 W (Fact.row e s (.slice A q c) q (xs.take (q * s)) :: L) := by
  refine H.turn0 (f' := Fact.row e s (.slice A q c) q (xs.take (q * s))) Fr.refl ?_ (fun g hg => .inl ?_)
  · have h : W.ownsRow 0 e s (.slice A m c) m xs := H.holds _ (.head _)
    refine ⟨by rw [List.length_take, h.1]; have := Nat.mul_le_mul_right s hq; omega, ?_⟩
    rcases h.2 with ⟨h1, _⟩ | ⟨g, cap, cur, hv, hb, hh, h1, h2, h3, h4⟩
    · cases h1; cases hnn
    · cases hv
      refine .inr ⟨g, c, cur, rfl, hb, hh, by omega, h2, h3, ?_⟩
      rw [← h4, List.take_take, Nat.min_eq_left (Nat.mul_le_mul_right s hq)]
  · cases A with
    | none => cases hnn
    | some a => exact hg
/-- A new block as a row. -/
theorem St.torow {s : Nat} (H : St T w0 W (Fact.blk g vs e :: L)) (m : Nat) (hm : vs.length = m * s) (hl : m ≤ 9223372036854775807) : St T w0 W (Fact.row e s (.slice (some ⟨g, 0, none⟩) m m) m vs :: L) := by
  refine H.turn0 (f' := Fact.row e s (.slice (some ⟨g, 0, none⟩) m m) m vs) Fr.refl ?_ (fun g' hg => .inl ?_)
  · have h : W.heap[g]? = some (.cells vs.toArray e (0, 0)) := H.holds _ (.head _)
    exact ⟨hm, .inr ⟨g, m, _, rfl, Nat.zero_le _, h, Nat.le_refl _, by simpa [maxLen] using hl, by simpa using hm, by
      rw [← hm]; exact List.take_length⟩⟩
  · have : some g = some g' := hg
    cases this; rfl
end
/-- A row of the call's own, found by its address. -/
class RowAt (A : Option Addr) (L : List Fact) (e s m c : outParam Nat) (xs : outParam (List Value)) : Prop where mem : Fact.row e s (.slice A m c) m xs ∈ L
instance (priority := low) RowAt.tail {A : Option Addr} {L : List Fact} {e s m c : Nat} {xs : List Value} {f : Fact} [h : RowAt A L e s m c xs] : RowAt A (f :: L) e s m c xs := ⟨.tail _ h.mem⟩
instance RowAt.head {A : Option Addr} {L : List Fact} {e s m c : Nat} {xs : List Value} : RowAt A (Fact.row e s (.slice A m c) m xs :: L) e s m c xs := ⟨.head _⟩
theorem St.rowrd {T : Nat → Prop} {w0 W : World} {L : List Fact} {A : Option Addr} {e s m c : Nat} {xs : List Value} (H : St T w0 W L) [h : RowAt A L e s m c xs] : Rd W (0 ≤ ·) s A m xs := Rd.of_own (H.holds _ h.mem)
/-- An element of a slice, of one cell, by its address. -/
theorem d_ldR0 {P : Program} {o : Oper} {n : Nat} {ρ : Nat → Value} {W : World} {v : Value} {x : Operand} {t : TypeId} {S : Nat → Prop} {A : Option Addr} {m q s : Nat} {xs : List Value} (ho : o.op = .load t x) (hr : Rd W S s A m xs) (hx : ev n ρ x = .pointer (A.map (·.add (q * s)))) (ha : aggB P t = some false) (hv : xs[q * s]? = some v) : Runs P n ρ o W v W := by
  have hlt : q * s < xs.length := (List.getElem?_eq_some_iff.1 hv).1
  have hm : 0 < m := by
    rcases Nat.eq_zero_or_pos m with h | h
    · subst h; rw [hr.1] at hlt; simp at hlt
    · exact h
  obtain ⟨g, o', rfl, _, hc⟩ := hr.2 hm
  exact d_ldC (A := ⟨g, o' + q * s, none⟩) ho (by rw [hx, Option.map_some, Addr.add_mid]) ha (hc _ _ hv)
theorem d_ldmR {P : Program} {o : Oper} {n : Nat} {ρ : Nat → Value} {W : World} {x : Operand} {t : TypeId} {S : Nat → Prop} {A : Option Addr} {m q s j : Nat} {xs : List Value} (ho : o.op = .load t x) (hr : Rd W S s A m xs) (hx : ev n ρ x = .pointer (A.map (·.add (q * s)))) (ha : aggB P t = some true) (hs : (P.info? t).map (·.size) = some j) (hj : 0 < m) (hl : q * s + j ≤ xs.length) : Runs P n ρ o W (.agg (sub xs (q * s) j).toArray) W := by
  obtain ⟨g, o', rfl, _, hc⟩ := hr.2 hj
  refine d_ldmC (g := g) (i := o' + q * s) ho (by rw [hx, Option.map_some, Addr.add_mid]) ha hs (by simp [sub]; omega) (fun i v hv => ?_)
  unfold sub at hv
  rw [List.getElem?_take] at hv
  split at hv
  · rw [List.getElem?_drop] at hv
    rw [Nat.add_assoc]
    exact hc _ _ hv
  · cases hv
theorem row_some {W : World} {S : Nat → Prop} {s m : Nat} {A : Option Addr} {xs : List Value} (h : Rd W S s A m xs) (hm : 0 < m) : A.isSome = true := by
  obtain ⟨g, o, rfl, _⟩ := h.2 hm; rfl
theorem all_u8L (l : List UInt8) : (l.map u8v).all (·.oneCell') = true := List.all_eq_true.2 (fun u hu => one_u8 l u hu)
/- A loop, round by round. -/
def wpHd (P : Program) (c : Code) (Q : Exit → Act → World → Prop) (a : Act) (w : World) : Prop :=
  ∀ (b : Frame) (k : List Item) (fs : List Frame), ∃ e a' w', Q e a' w' ∧ Arrives P (lone (b.at a (.code c :: .inLoop c :: k)) fs w) b k fs e a' w'
section
variable {P : Program} {Q : Exit → Act → World → Prop} {a : Act} {w : World} {c : Code} {cs : List Code}
theorem hd_of (h : c.wp P (Exit.then (wpHd P c Q) Q) a w) : wpHd P c Q a w := by
  intro b k fs
  obtain ⟨e, a₁, w₁, hq, harr⟩ := h b (.inLoop c :: k) fs
  cases e with
  | normal =>
    obtain ⟨e₂, a₂, w₂, hq₂, harr₂⟩ := hq b k fs
    exact ⟨e₂, a₂, w₂, hq₂, .of_steps (Steps.trans harr (.one step_inLoop)) harr₂⟩
  | exit id => exact ⟨.exit id, a₁, w₁, hq, .pass (x := .inLoop c) rfl (fun _ _ => .inl (by simp)) harr⟩
  | goto l => exact ⟨.goto l, a₁, w₁, hq, .pass (x := .inLoop c) rfl (fun _ _ => .inl (by simp)) harr⟩
  | ret => exact ⟨.ret, a₁, w₁, hq, .pass (x := .inLoop c) rfl (fun _ _ => .inl (by simp)) harr⟩
  | panic ch => exact ⟨.panic ch, a₁, w₁, hq, .pass (x := .inLoop c) rfl (fun _ _ => .inl (by simp)) harr⟩
  | outgrown => exact ⟨.outgrown, a₁, w₁, hq, .pass (x := .inLoop c) rfl (fun _ _ => .inl (by simp)) harr⟩
theorem k_unr (h : c.wp P (Exit.then (wpHd P c (Exit.then (wpK P Q cs) Q)) (Exit.then (wpK P Q cs) Q)) a w) : wpK P Q (.loop c :: cs) a w := by
  intro b k fs
  obtain ⟨e, a', w', hq, harr⟩ := hd_of h b k fs
  exact ⟨e, a', w', hq, .of_steps (.one step_loop) harr⟩
end
/-- A block whose ways meet behind it. -/
theorem k_bcut {P : Program} {Q : Exit → Act → World → Prop} {w : World} {cs : List Code} {id : Nat} {c : Code} {n : Nat} {ρ : Nat → Value} {ds : List Deferred} (lo : Nat) (M : List Nat) (J : List (Nat × Value) → World → Prop)
    (h : wpK P (Exit.inBlock id (Exit.then (fun a w => ∃ l ρ', a = st n ρ' ds ∧ Eqo lo M ρ ρ' ∧ slotsOk ρ' l ∧ J l w) Q)) [c] (st n ρ ds) w)
    (rest : ∀ l ρv w, J l w → wpK P Q cs (st n (updl (ovr lo M ρ ρv) l) ds) w) : wpK P Q (.block id c :: cs) (st n ρ ds) w := by
  refine wp_block (Code.wp_mono (fun e a w q => ?_) (k_one h))
  have key : ∀ a w, (∃ l ρ', a = st n ρ' ds ∧ Eqo lo M ρ ρ' ∧ slotsOk ρ' l ∧ J l w) → wpK P Q cs a w := by
    rintro a w ⟨l, ρ', rfl, hE, hs, hJ⟩
    have := rest l ρ' w hJ
    rwa [← hE.frame l hs.mem] at this
  cases e with
  | normal => exact key _ _ q
  | exit id' =>
    show if id' = id then _ else _
    have q' : if id' = id then (∃ l ρ', a = st n ρ' ds ∧ Eqo lo M ρ ρ' ∧ slotsOk ρ' l ∧ J l w) else Q (.exit id') a w := q
    split
    · rename_i hi; rw [if_pos hi] at q'; exact key _ _ q'
    · rename_i hi; rw [if_neg hi] at q'; exact q'
  | _ => exact q
theorem b_endc {Q : Exit → Act → World → Prop} {a : Act} {w : World} {next : Act → World → Prop} {id : Nat} (h : next a w) : Exit.inBlock id (Exit.then next Q) .normal a w := h
/- Package variables. -/
def Gat (w : World) (g : Nat) (c : List Value) : Prop := g < w.heap.size ∧ w.rangeAt g 0 c
section
variable {P : Program} {o : Oper} {n : Nat} {ρ : Nat → Value} {W w : World} {v : Value} {x : Operand} {t : TypeId} {L : List Fact} {g i m : Nat} {c : List Value}
theorem Gat.keep (h : Gat w g c) (hb : Below w.heap.size w W) : Gat W g c := ⟨Nat.lt_of_lt_of_le h.1 hb.size, fun j v hv => by rw [hb.cell (p := ⟨g, 0 + j, none⟩) h.1]; exact h.2 j v hv⟩
theorem St.gat (H : St nT w W L) (h : Gat w g c) : Gat W g c := h.keep H.under
theorem d_ldG (ho : o.op = .load t x) (hg : Gat W g c) (hx : ev n ρ x = .pointer (some ⟨g, i, none⟩)) (ha : aggB P t = some false) (hc : c[i]? = some v) : Runs P n ρ o W v W :=
  d_ldC ho hx ha (by have := hg.2 i v hc; rwa [Nat.zero_add] at this)
theorem d_ldmG (ho : o.op = .load t x) (hg : Gat W g c) (hx : ev n ρ x = .pointer (some ⟨g, i, none⟩)) (ha : aggB P t = some true) (hs : (P.info? t).map (·.size) = some m) (hl : Nat.ble (i + m) c.length = true) : Runs P n ρ o W (.agg (sub c i m).toArray) W :=
  d_ldmC ho hx ha hs (by have := Nat.le_of_ble_eq_true hl; simp [sub]; omega) (fun j v hv => by
    unfold sub at hv
    rw [List.getElem?_take] at hv
    split at hv
    · rw [List.getElem?_drop] at hv
      have := hg.2 (i + j) v hv
      rwa [Nat.zero_add] at this
    · cases hv)
theorem Gat.rd {s q : Nat} (h : Gat w g c) (hs : c.length = i + q * s) : Rd w (· = g) s (some ⟨g, i, none⟩) q (c.drop i) :=
  ⟨by rw [List.length_drop]; omega, fun _ => ⟨g, i, rfl, ⟨h.1, rfl⟩, fun j u hu => by
    rw [List.getElem?_drop] at hu
    have := h.2 (i + j) u hu
    rwa [Nat.zero_add] at this⟩⟩
end
/-- A cut of bytes. -/
theorem bs_cut {W : World} {S : Nat → Prop} {A : Option Addr} {n c a b : Nat} {l : List UInt8} (h : Bs W S (.slice A n c) l) (hl : l.length = n) (hab : a ≤ b) (hb : b ≤ n) : Bs W S (.slice (if c = a then A else A.map (·.add (a * 1))) (b - a) (c - a)) ((l.drop a).take (b - a)) := by
  subst hl
  obtain ⟨A', c', hv, h1, h2, hr⟩ := h.op
  cases hv
  refine Bs.mk ?_ (by omega) (by omega)
  have := hr.cut hab hb h1
  rw [Nat.mul_one] at this ⊢
  rwa [Nat.mul_one, ← List.map_drop, ← List.map_take] at this
theorem gat_of {W : World} {g : Nat} {c : List Value} {t : TypeId} {q : Nat × Nat} (h : W.heap[g]? = some (.cells c.toArray t q)) : Gat W g c :=
  ⟨by
    rcases Nat.lt_or_ge g W.heap.size with h1 | h1
    · exact h1
    · rw [Array.getElem?_eq_none h1] at h
      exact absurd h (by simp), fun j v hv => by rw [Nat.zero_add, blk_cell h]; exact hv⟩
/-- What is handed back: new bytes. -/
theorem St.newB {w W : World} {L : List Fact} {t : TypeId} {A : Option Addr} {m c : Nat} {xs : List Value} {L'' : Fact → List Fact} {l : List UInt8} (H : St nT w W L) [h : RowTo t 1 (.slice A m c) m L xs L''] (hm : l.length = m) (hx : xs = l.map u8v) (hc : m ≤ c) (hd : c ≤ 9223372036854775807) : NewB t w l (.slice A m c) W := by
  subst hm hx
  obtain ⟨M, h1, _⟩ := h.perm
  exact ⟨A, c, rfl, hc, hd, (H.perm h1).give⟩
/-- An own row of bytes as bytes that read. -/
theorem bs_row {W : World} {A : Option Addr} {e m c : Nat} {l : List UInt8} (h : W.ownsRow 0 e 1 (.slice A m c) m (l.map u8v)) (hl : l.length = m) : Bs W (0 ≤ ·) (.slice A m c) l := by
  subst hl
  obtain ⟨A', c', hv, h1, h2⟩ := row_form h
  cases hv
  exact Bs.mk (Rd.of_own h) h1 h2
theorem St.rowbs {T : Nat → Prop} {w0 W : World} {L : List Fact} {A : Option Addr} {e m c : Nat} {l : List UInt8} (H : St T w0 W L) [h : RowAt A L e 1 m c (l.map u8v)] (hl : l.length = m) : Bs W (0 ≤ ·) (.slice A m c) l := bs_row (H.holds _ h.mem) hl
end Go.Proofs.YtejaohlijaodjaaDoor
