/- Loops, exits and contracts. No program stands in this text. -/
import Derived.Test.YtejaohlijaodjaaDoorVW
namespace Go.Proofs.YtejaohlijaodjaaDoor
open Go Go.RowKit

def nT : Nat → Prop := fun _ => False
/-- A fact of new blocks; old ones stand. -/
structure New (w w' : World) (f : Fact) : Prop where
  b : Below w.heap.size w w'
  p : f.p w'
  f : ∀ g, f.fp g → w.heap.size ≤ g ∧ g < w'.heap.size
/-- A value that is this one; old blocks stand. -/
def Is (w : World) (x v : Value) (w' : World) : Prop := v = x ∧ Below w.heap.size w w'
def Ret (S : Value → World → Prop) (e : Ending) (w' : World) : Prop := ∃ v, e = .returned v ∧ S v w'
/-- Values in some slots. -/
def updl (ρ : Nat → Value) : List (Nat × Value) → Nat → Value
  | [] => ρ
  | x :: l => upd (updl ρ l) x.1 x.2
def inM (lo : Nat) (M : List Nat) (j : Nat) : Bool := Nat.ble lo j || M.contains j
def ovr (lo : Nat) (M : List Nat) (ρ vs : Nat → Value) : Nat → Value := fun j => bif inM lo M j then vs j else ρ j
/-- Outside the slots from lo on and those of M the frame is as it was. -/
def Eqo (lo : Nat) (M : List Nat) (ρ ρ' : Nat → Value) : Prop := ∀ j, inM lo M j = false → ρ' j = ρ j
section
variable {lo : Nat} {M : List Nat} {ρ ρ' : Nat → Value} {d : Nat} {v : Value}
theorem Eqo.refl : Eqo lo M ρ ρ := fun _ _ => rfl
theorem Eqo.upd (h : Eqo lo M ρ ρ') (hd : inM lo M d = true) : Eqo lo M ρ (upd ρ' d v) := fun j hj => by
  have : Nat.beq j d = false := by
    cases hq : Nat.beq j d with
    | false => rfl
    | true => rw [Nat.eq_of_beq_eq_true hq, hd] at hj; cases hj
  show (bif Nat.beq j d then v else ρ' j) = _
  rw [this]; exact h j hj
theorem Eqo.ovr : Eqo lo M ρ (ovr lo M ρ ρ') := fun j hj => by
  show (bif inM lo M j then ρ' j else ρ j) = _
  rw [hj]; rfl
theorem Eqo.updl : ∀ (l : List (Nat × Value)) {ρ' : Nat → Value}, Eqo lo M ρ ρ' → (l.all fun x => inM lo M x.1) = true → Eqo lo M ρ (updl ρ' l)
  | [], _, h, _ => h
  | x :: l, _, h, hl => by
    simp only [List.all_cons, Bool.and_eq_true] at hl
    exact Eqo.upd (Eqo.updl l h hl.2) hl.1
theorem Eqo.frame (h : Eqo lo M ρ ρ') : ∀ (l : List (Nat × Value)), (∀ x ∈ l, ρ' x.1 = x.2) → ρ' = Go.Proofs.YtejaohlijaodjaaDoor.updl (Go.Proofs.YtejaohlijaodjaaDoor.ovr lo M ρ ρ') l
  | [], _ => by
    funext j
    show _ = (bif inM lo M j then ρ' j else ρ j)
    cases hj : inM lo M j with
    | true => rfl
    | false => exact h j hj
  | x :: l, hl => by
    have ih := Eqo.frame h l (fun y hy => hl y (by simp [hy]))
    funext j
    show _ = (bif Nat.beq j x.1 then x.2 else Go.Proofs.YtejaohlijaodjaaDoor.updl (Go.Proofs.YtejaohlijaodjaaDoor.ovr lo M ρ ρ') l j)
    cases hq : Nat.beq j x.1 with
    | true => rw [Nat.eq_of_beq_eq_true hq]; exact hl x (by simp)
    | false => rw [← ih]; rfl
end
def slotsOk (ρ : Nat → Value) : List (Nat × Value) → Prop
  | [] => True
  | x :: l => ρ x.1 = x.2 ∧ slotsOk ρ l
theorem slotsOk.mem {ρ : Nat → Value} : ∀ {l : List (Nat × Value)}, slotsOk ρ l → ∀ x ∈ l, ρ x.1 = x.2
  | [], _, _, h => by cases h
  | y :: l, h, x, hx => by
    rcases List.mem_cons.1 hx with rfl | hx
    · exact h.1
    · exact slotsOk.mem h.2 x hx
theorem vi {k : IntKind} {a b : Int} (h : a = b) : Value.int k a = .int k b := by rw [h]
theorem vb {a b : Bool} (h : a = b) : Value.bool a = .bool b := by rw [h]

section
variable {P : Program} {Q : Exit → Act → World → Prop} {a : Act} {w : World} {cs : List Code} {next : Act → World → Prop} {id : Nat}
/-- A loop: J m l W as a round begins, m going down, l the slots that are known; what stands outside the slots from lo on and those of M stays. -/
theorem k_loop {c : Code} {n : Nat} {ρ : Nat → Value} {ds : List Deferred} (lo : Nat) (M : List Nat) (J : Nat → List (Nat × Value) → World → Prop) (m : Nat) (l : List (Nat × Value)) (h0 : J m l w) (hl : slotsOk ρ l)
    (round : ∀ m l ρv w, J m l w → c.wp P (Exit.then (fun a' w' => ∃ m' l' ρ', m' < m ∧ a' = st n ρ' ds ∧ Eqo lo M ρ ρ' ∧ slotsOk ρ' l' ∧ J m' l' w') (Exit.then (wpK P Q cs) Q)) (st n (updl (ovr lo M ρ ρv) l) ds) w) : wpK P Q (.loop c :: cs) (st n ρ ds) w := by
  intro b k fs
  have key : ∀ m l ρ' w, J m l w → Eqo lo M ρ ρ' → slotsOk ρ' l → ∃ e a' w', Exit.then (wpK P Q cs) Q e a' w' ∧ Arrives P (lone (b.at (st n ρ' ds) (.code c :: .inLoop c :: k)) fs w) b k fs e a' w' := by
    intro m
    induction m using Nat.strongRecOn with
    | _ m ih =>
      intro l ρ' w hJ hE hs
      have hr := round m l ρ' w hJ
      rw [← hE.frame l hs.mem] at hr
      obtain ⟨e, a₁, w₁, hq, harr⟩ := hr b (.inLoop c :: k) fs
      cases e with
      | normal =>
        obtain ⟨m', l', ρ'', hlt, rfl, hE', hs', hJ'⟩ := hq
        obtain ⟨e₂, a₂, w₂, hq₂, harr₂⟩ := ih m' hlt l' ρ'' w₁ hJ' hE' hs'
        exact ⟨e₂, a₂, w₂, hq₂, .of_steps (Steps.trans harr (.one step_inLoop)) harr₂⟩
      | exit id => exact ⟨.exit id, a₁, w₁, hq, .pass (x := .inLoop c) rfl (fun _ _ => .inl (by simp)) harr⟩
      | goto l => exact ⟨.goto l, a₁, w₁, hq, .pass (x := .inLoop c) rfl (fun _ _ => .inl (by simp)) harr⟩
      | ret => exact ⟨.ret, a₁, w₁, hq, .pass (x := .inLoop c) rfl (fun _ _ => .inl (by simp)) harr⟩
      | panic ch => exact ⟨.panic ch, a₁, w₁, hq, .pass (x := .inLoop c) rfl (fun _ _ => .inl (by simp)) harr⟩
      | outgrown => exact ⟨.outgrown, a₁, w₁, hq, .pass (x := .inLoop c) rfl (fun _ _ => .inl (by simp)) harr⟩
  obtain ⟨e, a', w', hq, harr⟩ := key m l ρ w h0 Eqo.refl hl
  exact ⟨e, a', w', hq, .of_steps (.one step_loop) harr⟩
theorem k_nil (h : Q .normal a w) : wpK P Q [] a w := h
theorem k_next (h : next a w) : Exit.then next Q .normal a w := h
theorem b_end (h : wpK P Q cs a w) : Exit.inBlock id (Exit.then (wpK P Q cs) Q) .normal a w := h
theorem x_then (h : Q (.exit id) a w) : Exit.then next Q (.exit id) a w := h
theorem r_then (h : Q .ret a w) : Exit.then next Q .ret a w := h
theorem r_blk (h : Q .ret a w) : Exit.inBlock id Q .ret a w := h
theorem n_blk (h : Q .normal a w) : Exit.inBlock id Q .normal a w := h
end

section
variable {T : Nat → Prop} {w0 W W' : World} {L L' : List Fact} {f f' : Fact} {S : Nat → Prop} {v : Value} {l : List UInt8}
theorem St.new (H : St T w0 W L) (h : New W W' f) : St T w0 W' (f :: L) := H.call h.b h.p h.f
/-- Bytes that came in. -/
theorem St.bs (H : St nT w0 W L) (h : Bs w0 S v l) : Bs W S v l := h.keep fun g hg _ => H.fr.block g hg (fun h => h)
theorem St.rd (H : St nT w0 W L) {size : Nat} {A : Option Addr} {n : Nat} {xs : List Value} (h : Rd w0 S size A n xs) : Rd W S size A n xs := h.keep fun g hg _ => H.fr.block g hg (fun h => h)
theorem St.under (H : St nT w0 W L) : Below w0.heap.size w0 W := H.fr.below (Nat.le_refl _) (fun _ h => h.elim)
/-- A new block's cells, read as a row. -/
theorem rd_blk {W : World} {g m size : Nat} {c : List Value} {t : TypeId} (h : W.heap[g]? = some (.cells c.toArray t (0, 0))) (hl : c.length = m * size) : Rd W (· = g) size (some ⟨g, 0, none⟩) m c :=
  ⟨hl, fun _ => ⟨g, 0, rfl, ⟨by
    rcases Nat.lt_or_ge g W.heap.size with h1 | h1
    · exact h1
    · rw [Array.getElem?_eq_none h1] at h
      exact absurd h (by simp), rfl⟩, fun j u hu => by rw [Nat.zero_add, blk_cell h]; exact hu⟩⟩
/-- What is handed back as new: the fact, and old blocks stand. -/
theorem St.give (H : St nT w0 W L) [h : In f L] : New w0 W f := ⟨H.under, H.get, fun g hg => by
  have := H.own f h.mem g hg
  exact ⟨this.1.resolve_left (fun h => h), this.2⟩⟩
end
theorem l_get {l : List UInt8} {k : Nat} (h : k < l.length) : l[k]? = some (l.getD k 0) := by rw [List.getD_eq_getElem?_getD, List.getElem?_eq_getElem h]; rfl
theorem take_u8 {l : List UInt8} {k : Nat} (h : k + 1 ≤ l.length) : (l.take (k + 1)).map u8v = (l.take k).map u8v ++ [u8v (l.getD k 0)] := by
  rw [List.take_add_one, List.map_append, l_get (by omega)]; rfl
/-- New bytes of the call's own. -/
def NewB (t : TypeId) (w : World) (l : List UInt8) (v : Value) (w' : World) : Prop := ∃ A c, v = .slice A l.length c ∧ l.length ≤ c ∧ c ≤ 9223372036854775807 ∧ New w w' (Fact.row t 1 v l.length (l.map u8v))
end Go.Proofs.YtejaohlijaodjaaDoor
