/- Stores into a row; the program's reader and its buffer; drawn regions that may panic. No program stands in this text. -/
import Derived.Test.YtejaohlijaodjaaDoorVE
namespace Go.Proofs.YtejaohlijaodjaaDoor
open Go Go.RowKit

theorem Fr.mono' {T T' : Nat → Prop} {w w' : World} (h : Fr T w w') (ht : ∀ g, T g → T' g) : Fr T' w w' := ⟨h.os, h.tape, h.output, h.size, fun k hk hn => h.block k hk (fun q => hn (ht k q))⟩
section
variable {P : Program} {ops : Array Oper} {Q : Exit → Act → World → Prop} {o : Oper} {n : Nat} {ρ : Nat → Value} {ds : List Deferred} {W w w0 : World} {K : Act → World → Prop} {T : Nat → Prop} {L L' : List Fact} {x y : Operand} {v : Value} {t e : TypeId} {A B : Option Addr}
/-- A cell of a row of the call's own. -/
theorem e_stoR {m c k q : Nat} {xs : List Value} {L'' : Fact → List Fact} (hw : Region.wanted o (yielded ops (st n ρ ds).tmps) = true) (hd : o.dst = none) (ho : o.op = .store t x y) (hx : ev n ρ x = .pointer (B.map (·.add k))) (hy : ev n ρ y = v) (hB : B = A.map (·.add q)) (hv : v.cells = [v].toArray) (hs : (P.info? t).map (·.size) = some 1) (h1 : v.oneCell' = true) (H : St T w0 W L) [ht : RowTo e 1 (.slice A m c) m L xs L''] (hq : q + k < m)
    (kk : ∀ W', St T w0 W' (L'' (Fact.row e 1 (.slice A m c) m (xs.set (q + k) v))) → K (st n ρ ds) W') : Step P ops Q o (st n ρ ds) W K := by
  obtain ⟨M, hp1, hp2⟩ := ht.perm
  have H1 := H.perm hp1
  have h : W.ownsRow 0 e 1 (.slice A m c) m xs := H1.holds _ (.head _)
  rcases h.2 with ⟨h2, h3⟩ | ⟨g, cap, cur, hv', hb, hh, h2, h3, h4, h5⟩
  · omega
  · cases hv'
    rw [Nat.mul_one] at h4 h5
    have hcur : W.heap[g]? = some (.cells cur.toList.toArray e (0, 0)) := by simpa using hh
    have hlen : cur.toList.length = c := by simpa using h4
    have hpt : ev n ρ x = .pointer (some ⟨g, q + k, none⟩) := by
      rw [hx, hB]
      simp only [Option.map_some, Addr.add_mid, Nat.zero_add]
    have hrun := run_storeVar (P := P) W g (q + k) t v [v] hv (blk_there hcur (by simp; omega)) (by simpa using hs) (by simp [h1])
    refine e_do hw hd (W' := W.setCells g (q + k) [v]) (by
      unfold Does execOp
      simp [ho, hpt, hy, Instr.storeAt, Instr.sureAddr, hrun]) ?_
    have hset := setCells_heap g [v] (q + k) W cur.toList e hcur
    have hspl : spl cur.toList (q + k) [v] = cur.toList.set (q + k) v := by rw [spl_cons, spl_nil]
    rw [hspl] at hset
    refine kk _ ((H1.turn0 (f' := Fact.row e 1 (.slice (some ⟨g, 0, none⟩) m c) m (xs.set (q + k) v)) (Fr.mono' (setCells_fr g [v] (q + k) W) (fun g' hg' => by subst hg'; rfl)) ?_ (fun g hg => .inl hg)).perm (hp2 _).symm)
    refine ⟨by rw [List.length_set]; exact h.1, .inr ⟨g, c, _, rfl, hb, hset, h2, h3, by simp [hlen], ?_⟩⟩
    rw [Nat.mul_one, List.take_set, h5]
theorem p_lo {lo : Nat} {c : List PanicEntry} {a : Act} (h : ∀ a' : Act, a'.defers = a.defers → (∀ j, j < lo → a'.tmps[j]? = a.tmps[j]?) → Q (.panic c) a' w) : PanLo lo Q (.panic c) a w :=
  ⟨fun c' hc a' h1 h2 => by cases hc; exact h a' h1 h2, h a rfl (fun _ _ => rfl)⟩
theorem c_nilP {S : World → Prop} {lo : Nat} {next : Act → World → Prop} {a : Act} (h : next a W) : wpC P ops S (PanLo lo (Exit.then next Q)) [] a W := ⟨fun _ h => (by cases h), h⟩
end
section
variable {P : Program} {ops : Array Oper} {Q : Exit → Act → World → Prop} {md : Region.Mode} {S : World → Prop}
theorem wpC_soundP (hsel : Region.noSelect ops = true) (hQ : ∀ (i : Nat) (o : Oper), ops[i]? = some o → ∀ c a v w, Q (.panic c) (Act.put a o.dst v) w → Q (.panic c) a w) : ∀ (l : List (Nat × Bool)) (listed : Array Bool) (a : Act) (w : World),
    canB md ops l listed = true → S w → wpC P ops S Q l a w → wpAnyH P md ops Q S l.length listed a w
  | [], listed, a, w, hB, _, h => wpAnyH_done (by simpa [canB] using hB) h 0
  | (i, true) :: l, listed, a, w, hB, hS, h => by
    obtain ⟨o, v, hi, hy, h⟩ := h
    simp only [canB, cond_true, Bool.and_eq_true] at hB
    exact wpAnyH_take hi hsel hB.1.2 hB.1.1 (fun c a w => hQ i o hi c a v w) hy hS (wpC_soundP hsel hQ l _ _ _ hB.2 hS h)
  | (i, false) :: l, listed, a, w, hB, hS, h => by
    simp only [canB, cond_false, Bool.and_eq_true, beq_iff_eq] at hB
    refine wpAnyH_all (rs := [i]) hB.1 (by simp) (fun j hj => ?_)
    obtain rfl : j = i := by simpa using hj
    exact wpOp_mono (fun a' w' h' => ⟨h'.1, wpC_soundP hsel hQ l _ _ _ hB.2 h'.1 h'.2⟩) h
end
section
variable {P : Program} {Q : Exit → Act → World → Prop} {cs : List Code} {n : Nat} {ρ : Nat → Value} {ds : List Deferred} {w w0 : World} {T : Nat → Prop} {L : List Fact}
def dstsFrom (lo : Nat) (l : List Oper) : Bool := l.all fun o => match o.dst with | none => true | some d => Nat.ble lo d
theorem k_drawP {id : Nat} {l : List Oper} (lo : Nat) (order : List (Nat × Bool)) (Lc : List Fact) (hm : P.follows .mixedOrders = true) (hB : (Region.noSelect l.toArray && (order.length == l.length) && canB .any l.toArray order (Array.replicate l.toArray.size false)) = true) (hlo : dstsFrom lo l = true) (H : St T w0 w L) (hs : Lc.Sublist L)
    (k : ∀ W, St T w0 W L → wpC P l.toArray (fun W => St T w0 W Lc) (PanLo lo (Exit.then (wpK P Q cs) Q)) order (st n ρ ds) W) : wpK P Q (.region id l.toArray true :: cs) (st n ρ ds) w := by
  simp only [Bool.and_eq_true, beq_iff_eq] at hB
  obtain ⟨⟨h1, h2⟩, h3⟩ := hB
  have hN : (Code.region id l.toArray true).wp P (PanLo lo (Exit.then (wpK P Q cs) Q)) (st n ρ ds) w := by
    refine wp_region_held (S := fun W => St T w0 W Lc) hm ?_
    have := wpC_soundP (P := P) (md := .any) (S := fun W => St T w0 W Lc) (Q := PanLo lo (Exit.then (wpK P Q cs) Q)) h1 (fun i o hi c a v w h => by
      have hd : ∀ d, o.dst = some d → lo ≤ d := fun d hd => by
        have hmem : o ∈ l := by
          have := Array.mem_of_getElem? hi
          simpa using this
        have := (List.all_eq_true.1 hlo) o hmem
        rw [hd] at this
        exact Nat.le_of_ble_eq_true this
      refine p_lo (fun a' h4 h5 => h.1 c rfl a' ?_ (fun j hj => ?_))
      · rw [h4]; cases o.dst <;> rfl
      · rw [h5 j hj]
        cases hdd : o.dst with
        | none => rfl
        | some d =>
          have := hd d hdd
          simp only [Act.put]
          rw [Array.getElem?_setIfInBounds_ne (by omega)]) order (Array.replicate l.toArray.size false) (st n ρ ds) w.drew h3 (H.drew.sub hs) (k _ H.drew)
    rw [h2] at this
    simpa using this
  exact Code.wp_mono (fun _ _ _ h => h.2) hN
end
end Go.Proofs.YtejaohlijaodjaaDoor
