/- Stores whose place or length is no literal; results in a cell; zero-filled rows. No program stands in this text. -/
import Derived.Test.YtejaohlijaodjaaDoorVT
namespace Go.Proofs.YtejaohlijaodjaaDoor
open Go Go.RowKit

section
variable {P : Program} {ops : Array Oper} {Q : Exit → Act → World → Prop} {o : Oper} {n : Nat} {ρ : Nat → Value} {ds : List Deferred} {W w0 : World} {K : Act → World → Prop} {T : Nat → Prop} {L L' : List Fact} {t t' : TypeId} {x y : Operand} {g i m : Nat} {v : Value} {vs : List Value}
theorem e_stoK {c : List Value} (c' : List Value) (hw : Region.wanted o (yielded ops (st n ρ ds).tmps) = true) (hd : o.dst = none) (ho : o.op = .store t x y) (hx : ev n ρ x = .pointer (some ⟨g, i, none⟩)) (hy : ev n ρ y = v) (hv : v.cells = vs.toArray) (hs : (P.info? t).map (·.size) = some m) (hm : vs.length = m) (h1 : vs.all (·.oneCell') = true) (H : St T w0 W L) [hb : Blk g L c t']
    (hl : i + m ≤ c.length) (hc : spl c i vs = c') [ht : Turn (Fact.blk g c t') (Fact.blk g c' t') L L'] (k : ∀ W', St T w0 W' L' → K (st n ρ ds) W') : Step P ops Q o (st n ρ ds) W K := by
  subst hm hc
  refine e_do hw hd (W' := W.setCells g i vs) ?_ (k _ (H.turn (f := Fact.blk g c t') (f' := Fact.blk g (spl c i vs) t') (setCells_fr g vs i W) (setCells_heap g vs i W c t' H.blk) (fun g hg => .inl hg)))
  have := run_storeVar (P := P) W g i t v vs hv (blk_there H.blk hl) hs h1
  unfold Does execOp
  simp [ho, hx, hy, Instr.storeAt, Instr.sureAddr, this]
theorem d_ldm0 {c : List Value} (ho : o.op = .load t x) (H : St T w0 W L) (hx : ev n ρ x = .pointer (some ⟨g, 0, none⟩)) (ha : aggB P t = some true) (hs : (P.info? t).map (·.size) = some m) [hb : Blk g L c t'] (hl : c.length = m) : Runs P n ρ o W (.agg c.toArray) W := by
  subst hl
  have := d_ldm (P := P) (n := n) (ρ := ρ) (i := 0) ho H hx ha hs (hb := hb) (Nat.ble_eq_true_of_le (by omega))
  simpa [sub] using this
/-- A result in a cell. -/
theorem q_retc {fn : Func} {R : Ending → World → Prop} {p : Tmp} {c : List Value} (hr : fn.results = #[.cell p t]) (H : St T w0 W L) (hx : ev n ρ (.tmp p) = .pointer (some ⟨g, 0, none⟩)) (ha : aggB P t = some true) [hb : Blk g L c t'] (hs : (P.info? t).map (·.size) = some c.length)
    (h : R (.returned (.agg c.toArray)) W) : bodyPost P fn R .ret (st n ρ []) W := by
  refine ⟨rfl, .agg c.toArray, ?_, h⟩
  unfold aggB at ha
  cases hu : P.underlying t with
  | none => rw [hu] at ha; cases ha
  | some d =>
    rw [hu] at ha
    exact results_cell_row hr _ W g t' c.toArray (0, 0) d (by rw [st_getD]; exact hx) H.blk hu (by cases d <;> simp_all) (by simpa using hs)
end
/-- What a call made, under what is known. -/
theorem St.add {T : Nat → Prop} {w0 W W' : World} {L M : List Fact} (H : St T w0 W L) (K : St nT W W' M) : St T w0 W' (M ++ L) := by
  have H' := H.below K.under
  refine ⟨H'.fr, fun x hx => ?_, fun x hx g hg => ?_, List.pairwise_append.2 ⟨K.apart, H'.apart, fun x hx y hy g hg hyg => ?_⟩⟩
  · rcases List.mem_append.1 hx with hx | hx
    · exact K.holds x hx
    · exact H'.holds x hx
  · rcases List.mem_append.1 hx with hx | hx
    · have h1 := K.own x hx g hg
      have := H.fr.size
      exact ⟨.inr (by have := h1.1.resolve_left (fun h => h); omega), h1.2⟩
    · exact H'.own x hx g hg
  · have h1 := (K.own x hx g hg).1.resolve_left (fun h => h)
    have h2 := (H.own y hy g hyg).2
    omega
theorem spl_len : ∀ (c : List Value) (k : Nat) (vs : List Value), k + vs.length ≤ c.length → spl c k vs = c.take k ++ vs ++ c.drop (k + vs.length)
  | c, 0, vs, h => by
    rw [show spl c 0 vs = over c vs by cases c <;> rfl]
    induction vs generalizing c with
    | nil => cases c <;> simp [over]
    | cons v vs ih =>
      cases c with
      | nil => simp at h
      | cons x c =>
        have := ih c (by simp at h ⊢; omega)
        simp only [List.take_zero, List.nil_append, Nat.zero_add] at this ⊢
        rw [over, this]; simp
  | [], k + 1, vs, h => by simp at h
  | x :: c, k + 1, vs, h => by
    rw [spl, spl_len c k vs (by simp at h; omega), show k + 1 + vs.length = k + vs.length + 1 by omega]; simp
theorem spl_all {c vs : List Value} (h : vs.length = c.length) : spl c 0 vs = vs := by
  rw [spl_len c 0 vs (by omega)]
  rw [show 0 + vs.length = c.length by omega, List.drop_length]
  simp
/-- The first k bytes of b, in n. -/
def hz (n k : Nat) (b : List UInt8) : List Value := (Pk.full n (b.take k)).map u8v
theorem len_hz {n k : Nat} {b : List UInt8} (h : b.length ≤ n) : (hz n k b).length = n := by unfold hz; rw [List.length_map, Pk.len_full (by rw [List.length_take]; omega)]
theorem hz_step {n k : Nat} {b : List UInt8} (hk : k < b.length) (h : b.length ≤ n) : spl (hz n k b) k [u8v (b.getD k 0)] = hz n (k + 1) b := by
  rw [spl_len _ _ _ (by rw [len_hz h]; simp; omega)]
  unfold hz Pk.full
  have h1 : (b.take k).length = k := by rw [List.length_take]; omega
  have h2 : (b.take (k + 1)).length = k + 1 := by rw [List.length_take]; omega
  rw [h1, h2, List.map_append, List.map_append, take_u8 (by omega)]
  have h3 : ((b.take k).map u8v).length = k := by rw [List.length_map]; exact h1
  rw [List.take_append_of_le_length (by omega), List.take_of_length_le (by omega), List.drop_append, h3, List.drop_eq_nil_of_le (by rw [h3]; simp)]
  simp
  omega
theorem hz_end {n : Nat} {b : List UInt8} : hz n b.length b = (Pk.full n b).map u8v := by unfold hz; rw [List.take_length]
theorem hz_zero {n : Nat} {b : List UInt8} : hz n 0 b = List.replicate n (u8v 0) := by unfold hz Pk.full; simp
end Go.Proofs.YtejaohlijaodjaaDoor
