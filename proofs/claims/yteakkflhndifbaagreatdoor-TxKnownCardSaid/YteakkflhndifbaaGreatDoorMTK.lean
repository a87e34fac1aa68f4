/- Texts of this claim, laid together: TxKn, K4A. -/
import Derived.Test.YteakkflhndifbaaGreatDoorMW
import Derived.Laws.BitsAllLaws
import Derived.Test.YteakkflhndifbaaGreatDoorMU
import Derived.Test.YteakkflhndifbaaGreatDoorMR
import Derived.Test.YteakkflhndifbaaGreatDoorMRG
set_option linter.unusedVariables false
set_option linter.unusedSimpArgs false

namespace Go.Proofs.YteakkflhndifbaaGreatDoor
open Go Go.RowKit

theorem toList_madeCells_mul {z : List Value} (hz : 0 < z.length) (m : Nat) : (madeCells z.toArray (m * z.length)).toList = (List.replicate m z).flatten := by
  have hl : ∀ m, ((List.replicate m z).flatten).length = m * z.length := fun m => by
    induction m with
    | zero => simp
    | succ m ih => rw [List.replicate_succ, List.flatten_cons, List.length_append, ih, Nat.add_mul]; omega
  have hg : ∀ (m j : Nat), j < m * z.length → ((List.replicate m z).flatten)[j]? = z[j % z.length]? := by
    intro m
    induction m with
    | zero => intro j hj; omega
    | succ m ih =>
      intro j hj
      rw [List.replicate_succ, List.flatten_cons]
      rw [Nat.add_mul, Nat.one_mul] at hj
      by_cases h : j < z.length
      · rw [List.getElem?_append_left h, Nat.mod_eq_of_lt h]
      · rw [List.getElem?_append_right (by omega), ih _ (by omega), show (j - z.length) % z.length = j % z.length from (Nat.mod_eq_sub_mod (by omega)).symm]
  apply List.ext_getElem?
  intro j
  by_cases hj : j < m * z.length
  · rw [hg m j hj]
    have hm : j % z.length < z.length := Nat.mod_lt _ hz
    rw [List.getElem?_eq_getElem hm]
    simp [madeCells, hj, hm]
  · rw [List.getElem?_eq_none (by simp [madeCells]; omega), List.getElem?_eq_none (by rw [hl]; omega)]
section
variable {P : Program} {ops : Array Oper} {Q : Exit → Act → World → Prop} {o : Oper} {n : Nat} {ρ : Nat → Value} {ds : List Deferred} {W w0 : World} {K : Act → World → Prop} {T : Nat → Prop} {L : List Fact} {x y : Operand} {t e : TypeId} {d : Tmp}
/-- A slice of structs made. -/
theorem e_mkX {m b s : Nat} {a : Int} {kl kc : IntKind} {z xs : List Value} (hw : Region.wanted o (yielded ops (st n ρ ds).tmps) = true) (hd : o.dst = some d) (ho : o.op = .makeSlice t x y) (hx : ev n ρ x = .int kl a) (hy : ev n ρ y = .int kc a) (ha : a = (m : Int)) (hm : m ≤ 1000) (hu : P.underlying t = some (.slice e)) (hz : ((P.info? e).bind (·.zero)).map (·.cells) = some z.toArray) (hs : (P.info? e).map (·.size) = some s) (hb : (P.info? e).map (·.bytes) = some b) (hbl : b ≤ 1000) (hzs : z.length = s) (hs0 : 0 < s) (hxs : (List.replicate m z).flatten = xs) (H : St T w0 W L)
    (k : ∀ g W', St T w0 W' (Fact.row e s (.slice (some ⟨g, 0, none⟩) m m) m xs :: L) → K (st n (upd ρ d (.slice (some ⟨g, 0, none⟩) m m)) ds) W') : Step P ops Q o (st n ρ ds) W K := by
  subst ha hzs hxs
  have hzl := hs0
  cases hI : P.info? e with
  | none => rw [hI] at hz; cases hz
  | some i =>
    rw [hI] at hz hs hb
    cases hzz : i.zero with
    | none => simp [hzz] at hz
    | some zz =>
      simp [hzz] at hz hs hb
      have hmul : (i.bytes : Int) * (m : Int) ≤ 1000 * 1000 := by
        have := Nat.mul_le_mul (show i.bytes ≤ 1000 by omega) hm
        have h2 : ((i.bytes * m : Nat) : Int) ≤ ((1000 * 1000 : Nat) : Int) := Int.ofNat_le.2 this
        rw [Int.natCast_mul] at h2
        exact h2
      have hr := run_make (P := P) W t e i zz hu hI hzz kl kc (m : Int) (m : Int) (by omega) (Int.le_refl _) (by omega) (by omega)
      rw [hs, Int.toNat_natCast, hz] at hr
      have hc : madeCells z.toArray (m * z.length) = ((List.replicate m z).flatten).toArray := by
        apply Array.toList_inj.1
        rw [toList_madeCells_mul hzl]
      rw [hc] at hr
      have hlen : ((List.replicate m z).flatten).length = m * z.length := by
        rw [← toList_madeCells_mul hzl, Array.length_toList, size_madeCells]
      refine e_run hw hd (v := .slice (some ⟨W.heap.size, 0, none⟩) m m) (W' := W.alloc (.cells ((List.replicate m z).flatten).toArray e)) ?_ (k _ _ ((H.alloc _ e).torow (s := z.length) m hlen (by omega)))
      unfold Runs execOp
      simp [ho, hx, hy, hr]
end
namespace Tk
theorem all1 {α : Type} {p : α → Prop} {a : α} (h : p a) : ∀ x ∈ [a], p x := fun x hx => by
  obtain rfl : x = a := by simpa using hx
  exact h
theorem all2 {α : Type} {p : α → Prop} {a b : α} (h : p a) (k : p b) : ∀ x ∈ [a, b], p x := fun x hx => by
  rcases List.mem_cons.1 hx with rfl | hx
  · exact h
  · exact all1 k x hx
theorem all_rep {α : Type} {p : α → Prop} {a : α} {n : Nat} (h : p a) : ∀ x ∈ List.replicate n a, p x := fun x hx => by
  obtain rfl := List.eq_of_mem_replicate hx
  exact h
theorem all_snoc {α : Type} {p : α → Prop} {a : α} {l : List α} (h : ∀ x ∈ l, p x) (k : p a) : ∀ x ∈ l ++ [a], p x := fun x hx => by
  rcases List.mem_append.1 hx with hx | hx
  · exact h x hx
  · exact all1 k x hx
theorem add0 {A : Option Addr} : A = A.map (·.add 0) := by cases A <;> rfl
theorem xor8 {t : TypeId} {a b : UInt8} : binOp .xor t (.int .u8 (a.toNat : Int)) (.int .u8 (b.toNat : Int)) = pure (.int .u8 ((a ^^^ b).toNat : Int)) := by
  have e : bits .xor .u8 (a.toNat : Int) (b.toNat : Int) = ((a ^^^ b).toNat : Int) := by
    rw [u8_xor_nat _ _ a.toNat_lt b.toNat_lt, UInt8.toNat_xor]
  show Op.intBits .xor .u8 _ _ = _
  rw [intBits_xor, e]
theorem xor1 {t : TypeId} {a : UInt8} : binOp .xor t (.int .u8 (a.toNat : Int)) (.int .u8 1) = pure (.int .u8 ((a ^^^ 1).toNat : Int)) := xor8 (b := 1)
/-- The numbers that are tried. -/
def ks : List Int := [-9223372036854775808, -1, 0, 1, 2, 7, 8, 9, 1073741824, 1073741825, 562949953421312, 562949953421313, 1125899906842624, 1125899906842625, 9223372036854775807]
theorem ks_get {i : Nat} (h : i < 15) : (ks.map (Value.int .i64))[i * 1]? = some (.int .i64 (ks.getD i 0)) := by
  rw [Nat.mul_one, List.getElem?_map, List.getD_eq_getElem?_getD]
  have : i < ks.length := h
  rw [List.getElem?_eq_getElem this]; rfl
theorem ks_ok {i : Nat} (h : i < 15) : I64 (ks.getD i 0) := by
  have : ∀ i : Fin 15, -9223372036854775808 ≤ ks.getD i.1 0 ∧ ks.getD i.1 0 ≤ 9223372036854775807 := by decide
  exact this ⟨i, h⟩
section
variable {α : Type} {f : α → List Value} {s : Nat}
theorem flat_sub : ∀ {l : List α} {i : Nat} {x : α}, (∀ x ∈ l, (f x).length = s) → l[i]? = some x → sub ((l.map f).flatten) (i * s) s = f x
  | [], i, x, _, hx => by simp at hx
  | y :: l, 0, x, h, hx => by
    obtain rfl : y = x := by simpa using hx
    unfold sub
    rw [List.map_cons, List.flatten_cons, Nat.zero_mul, List.drop_zero, List.take_left' (h y (.head _))]
  | y :: l, i + 1, x, h, hx => by
    have e := flat_sub (l := l) (i := i) (x := x) (fun z hz => h z (.tail _ hz)) (by simpa using hx)
    unfold sub at e ⊢
    rw [List.map_cons, List.flatten_cons, Nat.add_mul, Nat.one_mul, Nat.add_comm, ← List.drop_drop, List.drop_left' (h y (.head _))]
    exact e
theorem flat_set : ∀ {l : List α} {i j : Nat} {x y : α} {v : Value}, (∀ x ∈ l, (f x).length = s) → l[i]? = some x → j < s → (f x).set j v = f y → ((l.map f).flatten).set (i * s + j) v = ((l.set i y).map f).flatten
  | [], i, j, x, y, v, _, hx, _, _ => by simp at hx
  | z :: l, 0, j, x, y, v, h, hx, hj, e => by
    obtain rfl : z = x := by simpa using hx
    rw [List.map_cons, List.flatten_cons, Nat.zero_mul, Nat.zero_add, List.set_append_left _ _ (by rw [h z (.head _)]; exact hj), e]
    rfl
  | z :: l, i + 1, j, x, y, v, h, hx, hj, e => by
    have e2 := flat_set (l := l) (i := i) (fun z hz => h z (.tail _ hz)) (by simpa using hx) hj e
    have hz := h z (.head _)
    rw [List.map_cons, List.flatten_cons, List.set_append_right _ _ (by rw [hz, Nat.add_mul]; omega), hz, show (i + 1) * s + j - s = i * s + j by rw [Nat.add_mul]; omega, e2]
    rfl
end
def OkP (p : DPoint) : Prop := p.tx.length = 32 ∧ I64 p.n
def inZ (p : DPoint) : List Value := inC p none 0 0
def outZ (v : Int) : List Value := outC v none 0 0
def insZ (ps : List DPoint) : List Value := (ps.map inZ).flatten
def outsZ (vs : List Int) : List Value := (vs.map outZ).flatten
def flatT (ps : List DPoint) (vs : List Int) (k : Int) : DTx := ⟨ps.map (fun p => ⟨p, []⟩), vs.map (fun v => ⟨v, []⟩), k⟩
theorem szd_flat {ps : List DPoint} {vs : List Int} {k : Int} : Tx.Szd (flatT ps vs k) := by
  refine ⟨fun x hx b hb => ?_, fun o ho => ?_⟩
  · obtain ⟨p, _, rfl⟩ := List.mem_map.1 hx
    cases hb
  · obtain ⟨p, _, rfl⟩ := List.mem_map.1 ho
    exact Nat.zero_le _
theorem in_set {p : DPoint} {A : Option Addr} {m c : Nat} {z : Int} (h : p.tx.length = 32) : (inC p A m c).set 32 (.int .i64 z) = inC ⟨p.tx, z⟩ A m c := by
  have hl : (p.tx.map u8v).length = 32 := by rw [List.length_map]; exact h
  unfold inC pointC
  rw [List.append_assoc, List.append_assoc, List.set_append_right _ _ (by rw [hl]; exact Nat.le_refl _), hl]
  rfl
theorem ins_set {ps : List DPoint} {i : Nat} {p : DPoint} {z : Int} (h : ∀ p ∈ ps, OkP p) (hp : ps[i]? = some p) : (insZ ps).set (i * 34 + 32) (.int .i64 z) = insZ (ps.set i ⟨p.tx, z⟩) :=
  flat_set (f := inZ) (fun x hx => len_in (h x hx).1) hp (by decide) (in_set (h p (List.mem_of_getElem? hp)).1)
theorem ok_set {ps : List DPoint} {i : Nat} {p : DPoint} {z : Int} (h : ∀ p ∈ ps, OkP p) (hp : ps[i]? = some p) (hz : I64 z) : ∀ q ∈ ps.set i ⟨p.tx, z⟩, OkP q := fun q hq => by
  rcases List.mem_or_eq_of_mem_set hq with h1 | rfl
  · exact h q h1
  · exact ⟨(h p (List.mem_of_getElem? hp)).1, hz⟩
theorem ins_one {p : DPoint} : insZ [p] = inC p none 0 0 := by simp [insZ, inZ]
theorem outs_one {v : Int} : outsZ [v] = outC v none 0 0 := rfl
theorem outs_two {v u : Int} : outsZ [v, u] = outC v none 0 0 ++ outC u none 0 0 := rfl
theorem ins_rep {n : Nat} : (List.replicate n (inC zPt none 0 0)).flatten = insZ (List.replicate n zPt) := by unfold insZ; rw [List.map_replicate]; rfl
theorem outs_rep {n : Nat} : (List.replicate n (outC 0 none 0 0)).flatten = outsZ (List.replicate n 0) := by unfold outsZ; rw [List.map_replicate]; rfl
theorem u_set {p q : DPoint} {A : Option Addr} {m c : Nat} {z : Int} (h : p.tx.length = 32) (hq : q.tx.length = 32) : (inC p A m c ++ inC q none 0 0).set 66 (.int .i64 z) = inC p A m c ++ inC ⟨q.tx, z⟩ none 0 0 := by
  rw [List.set_append_right _ _ (by rw [len_in h]; decide), len_in h]
  exact congrArg _ (in_set hq)
theorem w_set {p : DPoint} {A B : Option Addr} {m c k d : Nat} {xs : List Value} (h : p.tx.length = 32) : (inC p A m c ++ xs).set 33 (.slice B k d) = inC p B k d ++ xs := by
  rw [List.set_append_left _ _ (by rw [len_in h]; decide), set_in_w h]
theorem w_sub {p : DPoint} {A : Option Addr} {m c : Nat} {xs : List Value} (h : p.tx.length = 32) : sub (inC p A m c ++ xs) (0 * 34) 34 = inC p A m c := by
  unfold sub
  rw [Nat.zero_mul, List.drop_zero, List.take_left' (len_in h)]
section
variable {T : Nat → Prop} {w0 W : World} {L : List Fact}
theorem rl_flat {α β : Type} {R : Rep β} {f : α → List Value} {g : α → β} {s e n c : Nat} {A : Option Addr} {l : List α} (H : St T w0 W L) [h : RowAt A L e s n c (l.map f).flatten] (hn : l.length = n) (hf : ∀ x ∈ l, (f x).length = s) (hr : ∀ x ∈ l, R W (0 ≤ ·) (f x) (g x)) : RL s R W (0 ≤ ·) [.slice A (l.map g).length c] (l.map g) := by
  obtain ⟨_, _, hv, h1, h2⟩ := row_form (H.holds _ h.mem)
  cases hv
  have hrd := H.rowrd (h := h)
  subst hn
  refine ⟨A, c, _, by rw [List.length_map], by rw [List.length_map]; exact h1, h2, by rw [List.length_map]; exact hrd, fun i x hx => ?_⟩
  rw [List.getElem?_map] at hx
  obtain ⟨y, hy, rfl⟩ := Option.map_eq_some_iff.1 hx
  rw [flat_sub hf hy]
  exact hr y (List.mem_of_getElem? hy)
theorem flat_tx {A B : Option Addr} {n c m d eI eO : Nat} {k : Int} {ps : List DPoint} {vs : List Int} (H : St T w0 W L) [h1 : RowAt A L eI 34 n c (insZ ps)] [h2 : RowAt B L eO 2 m d (outsZ vs)] (hn : ps.length = n) (hm : vs.length = m) (hp : ∀ p ∈ ps, OkP p) (hv : ∀ v ∈ vs, I64 v) (hk : I64 k) : RTx W (0 ≤ ·) (txC A n c B m d k) (flatT ps vs k) := by
  have a := rl_flat (R := RIn) (f := inZ) (g := fun p => (⟨p, []⟩ : DIn)) H (h := h1) hn (fun x hx => len_in (hp x hx).1) (fun x hx => in_rep (w := []) (hp x hx).1 (hp x hx).2 rl_nil)
  have b := rl_flat (R := ROut) (f := outZ) (g := fun v => (⟨v, []⟩ : DOut)) H (h := h2) hm (fun x _ => rfl) (fun x hx => out_rep (s := []) (hv x hx) Bs.nil)
  have := tx_rep a b hk
  rw [List.length_map, List.length_map, hn, hm] at this
  exact this
/-- Two ins, the first with items; one out with a script. -/
def uT (p q : DPoint) (ws : List (List UInt8)) (s : List UInt8) : DTx := ⟨[⟨p, ws⟩, ⟨q, []⟩], [⟨5, s⟩], 0⟩
theorem szd_u {p q : DPoint} {ws : List (List UInt8)} {s : List UInt8} (hw : ∀ b ∈ ws, b.length ≤ 1000) (hs : s.length ≤ 1000) : Tx.Szd (uT p q ws s) := by
  refine ⟨fun x hx b hb => ?_, fun o ho => ?_⟩
  · rcases List.mem_cons.1 hx with rfl | hx
    · have := hw b hb; omega
    · obtain rfl : x = ⟨q, []⟩ := by simpa using hx
      cases hb
  · obtain rfl : o = ⟨5, s⟩ := by simpa [uT] using ho
    show s.length ≤ _
    omega
theorem u_tx {p q : DPoint} {ws : List (List UInt8)} {s : List UInt8} {A B A9 B9 : Option Addr} {c d c9 d9 eI eO eW eB n m : Nat} {zs : List Value} {S9 : Nat → Prop} (H : St T w0 W L) [h1 : RowAt A L eI 34 2 c (inC p A9 n c9 ++ inC q none 0 0)] [h2 : RowAt B L eO 2 1 d (outC 5 B9 m d9)] [h3 : In (Fact.row eW 1 (.slice A9 n c9) n zs) L] [h4 : In (Fact.els RB 1 S9 zs ws) L] [h5 : RowAt B9 L eB 1 m d9 (s.map u8v)] (hwn : ws.length = n) (hsm : s.length = m) (hp : OkP p) (hq : OkP q) : RTx W (0 ≤ ·) (txC A 2 c B 1 d 0) (uT p q ws s) := by
  subst hwn hsm
  have hw := H.rlist (hr := h3) (he := h4) rfl
  have hs := H.rowbs (h := h5) rfl
  obtain ⟨_, _, hv, k1, k2⟩ := row_form (H.holds _ h1.mem)
  cases hv
  obtain ⟨_, _, hv, k3, k4⟩ := row_form (H.holds _ h2.mem)
  cases hv
  refine tx_rep (l := [⟨p, ws⟩, ⟨q, []⟩]) (r := [⟨5, s⟩]) ⟨A, c, _, rfl, k1, k2, H.rowrd (h := h1), fun i x hx => ?_⟩ ⟨B, d, _, rfl, k3, k4, H.rowrd (h := h2), fun i x hx => ?_⟩ ⟨by decide, by decide⟩
  · match i, hx with
    | 0, hx =>
      obtain rfl : (⟨p, ws⟩ : DIn) = x := by simpa using hx
      rw [w_sub hp.1]
      exact in_rep hp.1 hp.2 hw
    | 1, hx =>
      obtain rfl : (⟨q, []⟩ : DIn) = x := by simpa using hx
      have e : sub (inC p A9 ws.length c9 ++ inC q none 0 0) (1 * 34) 34 = inC q none 0 0 := by
        unfold sub
        rw [Nat.one_mul, List.drop_left' (len_in hp.1), List.take_of_length_le (by rw [len_in hq.1]; exact Nat.le_refl _)]
      rw [e]
      exact in_rep (w := []) hq.1 hq.2 rl_nil
    | i + 2, hx => simp at hx
  · match i, hx with
    | 0, hx =>
      obtain rfl : (⟨5, s⟩ : DOut) = x := by simpa using hx
      exact out_rep ⟨by decide, by decide⟩ hs
    | i + 1, hx => simp at hx
/-- One in with two items, the second empty. -/
def wT (p : DPoint) (b : List UInt8) : DTx := ⟨[⟨p, [b, []]⟩], [⟨5, []⟩], 0⟩
theorem szd_w {p : DPoint} {b : List UInt8} (hb : b.length ≤ 1000) : Tx.Szd (wT p b) := by
  refine ⟨fun x hx y hy => ?_, fun o ho => ?_⟩
  · obtain rfl : x = ⟨p, [b, []]⟩ := by simpa [wT] using hx
    rcases List.mem_cons.1 hy with rfl | hy
    · omega
    · obtain rfl : y = [] := by simpa using hy
      exact Nat.zero_le _
  · obtain rfl : o = ⟨5, []⟩ := by simpa [wT] using ho
    exact Nat.zero_le _
theorem w_tx {p : DPoint} {b : List UInt8} {A B : Option Addr} {c d eI eO eW eB g1 g2 n : Nat} (H : St T w0 W L) [h1 : RowAt A L eI 34 1 c (inC p (some ⟨g2, 0, none⟩) 2 2)] [h2 : RowAt B L eO 2 1 d (outC 5 none 0 0)] [h3 : Blk g2 L [.slice (some ⟨g1, 0, none⟩) n n, .slice none 0 0] eW] [h4 : Blk g1 L (b.map u8v) eB] (hn : b.length = n) (hl : n ≤ 1000) (hp : OkP p) : RTx W (0 ≤ ·) (txC A 1 c B 1 d 0) (wT p b) := by
  subst hn
  have hb : Bs W (0 ≤ ·) (.slice (some ⟨g1, 0, none⟩) b.length b.length) b := Bs.mk ((rd_blk (m := b.length) (H.blk (g := g1)) (by rw [List.length_map, Nat.mul_one])).mono (fun _ _ _ => Nat.zero_le _)) (Nat.le_refl _) (by omega)
  have hr : Rd W (0 ≤ ·) 1 (some ⟨g2, 0, none⟩) 2 [.slice (some ⟨g1, 0, none⟩) b.length b.length, .slice none 0 0] := (rd_blk (m := 2) (H.blk (g := g2)) rfl).mono (fun _ _ _ => Nat.zero_le _)
  obtain ⟨_, _, hv, k1, k2⟩ := row_form (H.holds _ h1.mem)
  cases hv
  obtain ⟨_, _, hv, k3, k4⟩ := row_form (H.holds _ h2.mem)
  cases hv
  have hw : RL 1 RB W (0 ≤ ·) [.slice (some ⟨g2, 0, none⟩) 2 2] [b, []] := ⟨_, 2, _, rfl, Nat.le_refl _, by decide, hr, fun i x hx => by
    match i, hx with
    | 0, hx =>
      obtain rfl : b = x := by simpa using hx
      exact ⟨_, rfl, hb⟩
    | 1, hx =>
      obtain rfl : ([] : List UInt8) = x := by simpa using hx
      exact ⟨_, rfl, Bs.nil⟩
    | i + 2, hx => simp at hx⟩
  refine tx_rep (l := [⟨p, [b, []]⟩]) (r := [⟨5, []⟩]) ⟨A, c, _, rfl, k1, k2, H.rowrd (h := h1), fun i x hx => ?_⟩ ⟨B, d, _, rfl, k3, k4, H.rowrd (h := h2), fun i x hx => ?_⟩ ⟨by decide, by decide⟩
  · match i, hx with
    | 0, hx =>
      obtain rfl : (⟨p, [b, []]⟩ : DIn) = x := by simpa using hx
      rw [Nat.zero_mul, show sub (inC p (some ⟨g2, 0, none⟩) 2 2) 0 34 = _ from sub_all (len_in hp.1)]
      exact in_rep (w := [b, []]) hp.1 hp.2 hw
    | i + 1, hx => simp at hx
  · match i, hx with
    | 0, hx =>
      obtain rfl : (⟨5, []⟩ : DOut) = x := by simpa using hx
      exact out_rep (s := []) ⟨by decide, by decide⟩ Bs.nil
    | i + 1, hx => simp at hx
end
end Tk
end Go.Proofs.YteakkflhndifbaaGreatDoor

namespace Go.Proofs.YteakkflhndifbaaGreatDoor
open Go Go.RowKit
attribute [local irreducible] wpList

set_option maxHeartbeats 4000000 in
theorem smallC (w : World) : Calls Tryz.prog 4 [].toArray w (Ret (fun v w' => ∃ g1 g2, v = .agg (txC (some ⟨g1, 0, none⟩) 1 1 (some ⟨g2, 0, none⟩) 1 1 0).toArray ∧ St nT w w' [Fact.row 34 34 (.slice (some ⟨g1, 0, none⟩) 1 1) 1 (inC Tx.smallP none 0 0), Fact.row 37 2 (.slice (some ⟨g2, 0, none⟩) 1 1) 1 (outC 5 none 0 0)])) := by
 refine k_enter (l := []) Tryz.func4 rfl rfl ?_
 have H := St.start nT w
 refine k_seq (k_region (s_eff (e_alloc (w_none rfl) rfl rfl [.slice none 0 0, .slice none 0 0, .int .i64 0] tz26 H ?_)))
 clear H; intro go W H
 refine l_nil (k_seq (k_region (sR rfl rfl (d_build (vs := Tx.smallP.tx.map u8v) rfl (by kernel_rfl)) ?_)))
 refine sR rfl rfl (d_build (vs := pointC Tx.smallP) rfl (built_fields (places := [(0, 32), (32, 1)]) tz31 (by kernel_rfl) (by kernel_rfl) (fill_next (vs := Tx.smallP.tx.map u8v) (.agg (Tx.smallP.tx.map u8v).toArray) rfl rfl rfl rfl (Nat.le_of_ble_eq_true rfl) (fill_next (vs := [.int .i64 2]) (.int .i64 2) rfl (by rfl) rfl rfl (Nat.le_of_ble_eq_true rfl) (fill_end (by rfl)))))) ?_
 refine sR rfl rfl (d_build (vs := inC Tx.smallP none 0 0) rfl (built_fields (places := [(0, 33), (33, 1)]) tz34 (by kernel_rfl) (by kernel_rfl) (fill_next (vs := pointC Tx.smallP) (.agg (pointC Tx.smallP).toArray) rfl rfl rfl rfl (Nat.le_of_ble_eq_true rfl) (fill_end (by rfl))))) ?_
 refine s_eff (e_bsl (xs := [.tmp 3]) (vals := [.agg (inC Tx.smallP none 0 0).toArray]) (vs := (inC Tx.smallP none 0 0)) (w_none rfl) rfl rfl rfl rfl rfl rfl tu23 ts34 ty34 rfl (by simp [agg_cells, len_in (p := Tx.smallP) rfl]) (by simp [agg_cells]) H ?_)
 clear H; intro g1 W H
 replace H := H.torow (s := 34) 1 (by rw [len_in (p := Tx.smallP) rfl]) (by decide)
 refine sR rfl rfl (d_build (vs := outC 5 none 0 0) rfl (built_fields (places := [(0, 1), (1, 1)]) tz37 (by kernel_rfl) (by kernel_rfl) (fill_next (vs := [.int .i64 5]) (.int .i64 5) rfl rfl rfl rfl (Nat.le_of_ble_eq_true rfl) (fill_end (by rfl))))) ?_
 refine s_eff (e_bsl (xs := [.tmp 5]) (vals := [.agg (outC 5 none 0 0).toArray]) (vs := (outC 5 none 0 0)) (w_none rfl) rfl rfl rfl rfl rfl rfl tu24 ts37 ty37 rfl (by simp [agg_cells, outC]) (by simp [agg_cells]) H ?_)
 clear H; intro g2 W H
 replace H := H.torow (s := 2) 1 rfl (by decide)
 refine sR rfl rfl (d_build (vs := txC (some ⟨g1, 0, none⟩) 1 1 (some ⟨g2, 0, none⟩) 1 1 0) rfl (built_fields (places := [(0, 1), (1, 1), (2, 1)]) tz26 (by kernel_rfl) (by kernel_rfl) (fill_next (vs := [.slice (some ⟨g1, 0, none⟩) 1 1]) (.slice (some ⟨g1, 0, none⟩) 1 1) rfl rfl rfl rfl (Nat.le_of_ble_eq_true rfl) (fill_next (vs := [.slice (some ⟨g2, 0, none⟩) 1 1]) (.slice (some ⟨g2, 0, none⟩) 1 1) rfl (by rfl) rfl rfl (Nat.le_of_ble_eq_true rfl) (fill_end (by rfl)))))) ?_
 refine s_eff (e_sto (w_none rfl) rfl rfl rfl rfl rfl ts26 rfl H rfl ?_)
 clear H; intro W H
 refine l_nil (k_ret ?_)
 repeat (first | refine r_then ?_ | refine r_blk ?_)
 refine q_retc rfl (c := txC (some ⟨g1, 0, none⟩) 1 1 (some ⟨g2, 0, none⟩) 1 1 0) (g := go) H rfl ta26 ts26 ⟨_, rfl, g1, g2, rfl, ?_⟩
 exact (H.sub (L' := [_, _]) (by repeat (first | exact .refl _ | exact List.nil_sublist _ | refine .cons_cons _ ?_ | refine .cons _ ?_))).perm (.swap _ _ _)

set_option maxHeartbeats 4000000 in
theorem txKnown (w : World) (hG : Gat w 0 formsC) (hB : Old.Gl w) : Calls Tryz.prog 3 [].toArray w (Ret (Is w (.bool true))) := by
 refine k_enter (l := []) Tryz.func3 rfl rfl ?_
 have H := St.start nT w
 refine k_seq (k_region (sAb rfl rfl rfl rfl (l_nil (k_seq (k_region (s_eff (e_bsl (xs := [.const (.int .i64 (-9223372036854775808)), .const (.int .i64 (-1)), .const (.int .i64 0), .const (.int .i64 1), .const (.int .i64 2), .const (.int .i64 7), .const (.int .i64 8), .const (.int .i64 9), .const (.int .i64 1073741824), .const (.int .i64 1073741825), .const (.int .i64 562949953421312), .const (.int .i64 562949953421313), .const (.int .i64 1125899906842624), .const (.int .i64 1125899906842625), .const (.int .i64 9223372036854775807)]) (vals := [.int .i64 _, .int .i64 _, .int .i64 _, .int .i64 _, .int .i64 _, .int .i64 _, .int .i64 _, .int .i64 _, .int .i64 _, .int .i64 _, .int .i64 _, .int .i64 _, .int .i64 _, .int .i64 _, .int .i64 _]) (vs := [.int .i64 _, .int .i64 _, .int .i64 _, .int .i64 _, .int .i64 _, .int .i64 _, .int .i64 _, .int .i64 _, .int .i64 _, .int .i64 _, .int .i64 _, .int .i64 _, .int .i64 _, .int .i64 _, .int .i64 _]) (w_none rfl) rfl rfl rfl rfl rfl rfl tu22 ts3 ty3 rfl rfl rfl H ?_)))))))
 clear H; intro gn W H
 replace H : St nT w W [Fact.blk gn (Tk.ks.map (Value.int .i64)) 3] := H
 refine sAs rfl rfl rfl rfl (l_nil (k_seq (k_seq (k_region (sAi rfl rfl rfl rfl (l_nil (k_block (k_loop 16 [0, 2, 3, 4] (fun mm sl W => ∃ i : Nat, 15 - i = mm ∧ sl = [(2, .int .i64 (i : Int))] ∧ (i ≤ 15) ∧ St nT w W [Fact.blk gn (Tk.ks.map (Value.int .i64)) 3]) _ _ ⟨0, rfl, rfl, Nat.zero_le _, H⟩ ⟨rfl, trivial⟩ (fun mm sl ρv W hJ => ?_)))))))))
 clear H; obtain ⟨i, rfl, rfl, hi, H⟩ := hJ
 refine k_one (k_seq (k_seq (k_region (sMi rfl rfl rfl rfl (sMs rfl rfl rfl rfl (sR rfl rfl (d_len rfl rfl tu22) (sR rfl rfl (d_lt rfl rfl rfl) (l_nil (k_cond rfl (fun hc19 => ?_) (fun hc19 => ?_))))))))))
 ·have hi15 : i < 15 := by have : Tk.ks.length = 15 := rfl; simp at hc19; omega
  have hks := Tk.ks_ok hi15
  refine k_skip (k_seq (k_block (k_seq (k_region (sAi rfl rfl rfl rfl (l_nil (k_block (k_loop 22 [0, 3, 4] (fun mm sl W => ∃ k : Nat, 4 - k = mm ∧ sl = [(3, .int .i64 (k : Int))] ∧ (k ≤ 4) ∧ St nT w W [Fact.blk gn (Tk.ks.map (Value.int .i64)) 3]) _ _ ⟨0, rfl, rfl, Nat.zero_le _, H⟩ ⟨rfl, trivial⟩ (fun mm sl ρv W hJ => ?_)))))))))
  clear H; obtain ⟨k, rfl, rfl, hk, H⟩ := hJ
  refine k_one (k_seq (k_seq (k_region (sMi rfl rfl rfl rfl (sR rfl rfl (d_lt rfl rfl rfl) (l_nil (k_cond rfl (fun hc23 => ?_) (fun hc23 => ?_))))))))
  ·have hk4 : k < 4 := by simp at hc23; omega
   refine k_skip (k_seq (k_block (k_seq (k_region (sC rfl rfl rfl Tryz.func4 rfl rfl rfl (smallC _) ?_)))))
   rintro _ W ⟨g1, g2, rfl, hn_⟩
   replace H := H.add2 hn_
   clear hn_
   refine s_eff (e_alloc (w_none rfl) rfl rfl [.slice none 0 0, .slice none 0 0, .int .i64 0] tz26 H ?_)
   clear H; intro gt W H
   refine s_eff (e_stoK (txC (some ⟨g1, 0, none⟩) 1 1 (some ⟨g2, 0, none⟩) 1 1 0) (w_none rfl) rfl rfl rfl rfl rfl ts26 rfl rfl H (by decide) rfl ?_)
   clear H; intro W H
   refine l_nil (k_seq (k_seq (k_region (sMi rfl rfl rfl rfl (l_nil (k_bcut 28 [] (fun sl W => ∃ ps : List DPoint, ∃ vs : List Int, ∃ lk : Int, ∃ A : Option Addr, ∃ c : Nat, ∃ B : Option Addr, ∃ d : Nat, sl = [] ∧ (∀ p ∈ ps, Tk.OkP p) ∧ (∀ v ∈ vs, I64 v) ∧ (I64 lk) ∧ St nT w W [Fact.blk gt (txC A ps.length c B vs.length d lk) 26, Fact.row 34 34 (.slice A ps.length c) ps.length (Tk.insZ ps), Fact.row 37 2 (.slice B vs.length d) vs.length (Tk.outsZ vs), Fact.blk gn (Tk.ks.map (Value.int .i64)) 3]) ?_ (fun sl ρv W hJ => ?_)))))))
   ·skip
    refine k_seq (k_region (sR rfl rfl (d_eq rfl rfl rfl) (sAb rfl rfl rfl rfl (l_nil (k_cond rfl (fun hc28 => ?_) (fun hc28 => ?_))))))
    ·skip
     refine k_draw [(0, true), (1, true), (2, true), (3, true), (4, true), (5, true), (6, true), (7, true), (8, true), (9, false)] [Fact.blk gt (txC (some ⟨g1, 0, none⟩) 1 1 (some ⟨g2, 0, none⟩) 1 1 0) 26, Fact.blk gn (Tk.ks.map (Value.int .i64)) 3] (by kernel_rfl) (by kernel_rfl) H (by repeat (first | exact .refl _ | exact List.nil_sublist _ | refine .cons_cons _ ?_ | refine .cons _ ?_)) ?_
     clear H; intro W H
     refine cR rfl rfl rfl (fun W H => d_fa rfl rfl tf26_0) (cR rfl rfl rfl (fun W H => d_ldX (g := gt) (off := 0) rfl H rfl rfl rfl ta23) (cR rfl rfl rfl (fun W H => mv_s rfl rfl) (cR rfl rfl rfl (fun W H => mv_i rfl rfl) (cR rfl rfl rfl (fun W H => d_iaS rfl (rd_blk (m := 15) (H.blk (g := gn)) rfl) rfl rfl (q := i) rfl hi15 tu22 ts3) (cR rfl rfl rfl (fun W H => d_ldR0 rfl (rd_blk (m := 15) (H.blk (g := gn)) rfl) rfl ta3 (Tk.ks_get hi15)) (cR rfl rfl rfl (fun W H => d_iaP (q := 0) rfl rfl rfl rfl (by decide) tu23 ts34) ?_))))))
     refine cR rfl rfl rfl (fun W H => d_fa rfl rfl tf34_0) (cR rfl rfl rfl (fun W H => d_fa rfl rfl tf31_1) (c_eff rfl (e_stoG (v := .int .i64 (Tk.ks.getD i 0)) (k := 32) (s := 34) (e := 34) (m := 1) (c := 1) (w_none rfl) rfl rfl rfl (by omega) rfl rfl ts3 rfl H (by omega) ?_)))
     clear H; intro W H
     refine ⟨H.sub (by repeat (first | exact .refl _ | exact List.nil_sublist _ | refine .cons_cons _ ?_ | refine .cons _ ?_)), ?_⟩
     refine c_nil ?_
     rw [Tk.in_set rfl] at H
     refine k_nil (b_endc ?_)
     refine ⟨_, _, rfl, ?_, ?_, ⟨[⟨Tx.smallP.tx, (Tk.ks.getD i 0)⟩], [5], 0, (some ⟨g1, 0, none⟩), 1, (some ⟨g2, 0, none⟩), 1, rfl, (Tk.all1 ⟨rfl, hks⟩), (Tk.all1 ⟨by decide, by decide⟩), ⟨by decide, by decide⟩, (by rw [Tk.ins_one, Tk.outs_one]; exact H)⟩⟩
     ·repeat (first | with_reducible exact .refl | (with_reducible refine .updl _ (.ovr2 ?_ ?_) ?_); rotate_left; exact rfl; exact rfl | (with_reducible refine .upd ?_ ?_); rotate_left; exact rfl)
     ·exact trivial
    ·skip
     refine k_seq (k_region (sR rfl rfl (d_eq rfl rfl rfl) (sAb rfl rfl rfl rfl (l_nil (k_cond rfl (fun hc39 => ?_) (fun hc39 => ?_))))))
     ·skip
      refine k_region (sMs rfl rfl rfl rfl (sMi rfl rfl rfl rfl (sR rfl rfl (d_iaS rfl (rd_blk (m := 15) (H.blk (g := gn)) rfl) rfl rfl (q := i) rfl hi15 tu22 ts3) (sR rfl rfl (d_ldR0 rfl (rd_blk (m := 15) (H.blk (g := gn)) rfl) rfl ta3 (Tk.ks_get hi15)) (sR rfl rfl (d_fa rfl rfl tf26_2) (s_eff (e_stoK (v := .int .i64 (Tk.ks.getD i 0)) (vs := [.int .i64 (Tk.ks.getD i 0)]) (txC (some ⟨g1, 0, none⟩) 1 1 (some ⟨g2, 0, none⟩) 1 1 (Tk.ks.getD i 0)) (w_none rfl) rfl rfl rfl rfl rfl ts3 rfl rfl H (Nat.le_of_ble_eq_true rfl) rfl ?_)))))))
      clear H; intro W H
      refine l_nil (k_nil (b_endc ?_))
      refine ⟨_, _, rfl, ?_, ?_, ⟨[Tx.smallP], [5], (Tk.ks.getD i 0), (some ⟨g1, 0, none⟩), 1, (some ⟨g2, 0, none⟩), 1, rfl, (Tk.all1 ⟨rfl, by decide, by decide⟩), (Tk.all1 ⟨by decide, by decide⟩), hks, (by rw [Tk.ins_one, Tk.outs_one]; exact H)⟩⟩
      ·repeat (first | with_reducible exact .refl | (with_reducible refine .updl _ (.ovr2 ?_ ?_) ?_); rotate_left; exact rfl; exact rfl | (with_reducible refine .upd ?_ ?_); rotate_left; exact rfl)
      ·exact trivial
     ·skip
      refine k_seq (k_region (sR rfl rfl (d_eq rfl rfl rfl) (sAb rfl rfl rfl rfl (l_nil (k_cond rfl (fun hc46 => ?_) (fun hc46 => ?_))))))
      ·skip
       refine k_cut 48 [] (fun sl W => ∃ A7 : Option Addr, ∃ c7 : Nat, sl = [] ∧ St nT w W [Fact.blk gt (txC (some ⟨g1, 0, none⟩) 1 1 A7 (1 + 1) c7 0) 26, Fact.row 34 34 (.slice (some ⟨g1, 0, none⟩) 1 1) 1 (inC Tx.smallP none 0 0), Fact.row 37 2 (.slice A7 (1 + 1) c7) (1 + 1) (outC 5 none 0 0 ++ outC (Tk.ks.getD i 0) none 0 0), Fact.blk gn (Tk.ks.map (Value.int .i64)) 3]) ?_ (fun sl ρv W hJ => ?_)
       ·skip
        refine k_drawT (.rd 0 (.rd 2 (.rd 3 (.rd 4 (.rd 5 (.rd 6 (.many 4 [1, 7] fun j => (bif Nat.beq j 1 then (.ef 7 (.ef 8 (.rd 9 (.ef 10 .nil)))) else (.ef 1 (.ef 8 (.rd 9 (.ef 10 .nil)))))))))))) [Fact.blk gn (Tk.ks.map (Value.int .i64)) 3] (by kernel_rfl) (by kernel_rfl) H (by repeat (first | exact .refl _ | exact List.nil_sublist _ | refine .cons_cons _ ?_ | refine .cons _ ?_)) ?_
        clear H; intro W H
        refine t_run rfl (w_none rfl) rfl (fun W H => d_fa rfl rfl tf26_1) (t_run rfl (w_none rfl) rfl (fun W H => mv_s rfl rfl) (t_run rfl (w_none rfl) rfl (fun W H => mv_i rfl rfl) (t_run rfl (w_none rfl) rfl (fun W H => d_iaS rfl (rd_blk (m := 15) (H.blk (g := gn)) rfl) rfl rfl (q := i) rfl hi15 tu22 ts3) (t_run rfl (w_none rfl) rfl (fun W H => d_ldR0 rfl (rd_blk (m := 15) (H.blk (g := gn)) rfl) rfl ta3 (Tk.ks_get hi15)) (t_run rfl (w_none rfl) rfl (fun W H => d_build (vs := outC (Tk.ks.getD i 0) none 0 0) rfl (built_fields (places := [(0, 1), (1, 1)]) tz37 (by kernel_rfl) (by kernel_rfl) (fill_next (vs := [.int .i64 (Tk.ks.getD i 0)]) (.int .i64 (Tk.ks.getD i 0)) rfl rfl rfl rfl (Nat.le_of_ble_eq_true rfl) (fill_end (by rfl))))) ?_)))))
        refine t_each ?_ ?_
        ·skip
         refine t_eff rfl (e_run (w_none rfl) rfl (d_ldX (g := gt) (off := 1) rfl H rfl rfl rfl ta24) ?_)
         refine ⟨_, fun _ h => h, H.sub (by repeat (first | exact .refl _ | exact List.nil_sublist _ | refine .cons_cons _ ?_ | refine .cons _ ?_)), ?_⟩
         refine t_eff rfl (e_bsl (xs := [.tmp 54]) (vals := [.agg (outC (Tk.ks.getD i 0) none 0 0).toArray]) (vs := (outC (Tk.ks.getD i 0) none 0 0)) (w_none rfl) rfl rfl rfl rfl rfl rfl tu24 ts37 ty37 rfl (by simp [agg_cells, outC]) (by simp [agg_cells]) H ?_)
         clear H; intro g15_7 W H
         refine ⟨_, fun _ h => h, H.sub (by repeat (first | exact .refl _ | exact List.nil_sublist _ | refine .cons_cons _ ?_ | refine .cons _ ?_)), ?_⟩
         refine t_eff rfl (e_app (w_none rfl) rfl rfl tu24 tx37 rfl rfl rfl H (rd_blk (m := 1) H.blk rfl) (rfl) (by omega) rfl ?_)
         clear H; intro A7 c7 W hc7 hd7 H
         replace H := H.drop
         refine ⟨_, fun _ h => h, H.sub (by repeat (first | exact .refl _ | exact List.nil_sublist _ | refine .cons_cons _ ?_ | refine .cons _ ?_)), ?_⟩
         refine t_run rfl (w_none rfl) rfl (fun W H => d_fa rfl rfl tf26_1) (t_eff rfl (e_stoK (v := .slice A7 (1 + 1) c7) (vs := [.slice A7 (1 + 1) c7]) (txC (some ⟨g1, 0, none⟩) 1 1 A7 (1 + 1) c7 0) (w_none rfl) rfl rfl rfl rfl rfl ts24 rfl rfl H (Nat.le_of_ble_eq_true rfl) rfl ?_))
         clear H; intro W H
         refine ⟨_, fun _ h => h, H.sub (by repeat (first | exact .refl _ | exact List.nil_sublist _ | refine .cons_cons _ ?_ | refine .cons _ ?_)), ?_⟩
         refine t_nil (k_nil (n_then ?_))
         refine ⟨_, _, rfl, ?_, ?_, ⟨A7, c7, rfl, H⟩⟩
         ·repeat (first | with_reducible exact .refl | (with_reducible refine .updl _ (.ovr2 ?_ ?_) ?_); rotate_left; exact rfl; exact rfl | (with_reducible refine .upd ?_ ?_); rotate_left; exact rfl)
         ·exact trivial
        refine t_each ?_ ?_
        ·skip
         refine t_eff rfl (e_bsl (xs := [.tmp 54]) (vals := [.agg (outC (Tk.ks.getD i 0) none 0 0).toArray]) (vs := (outC (Tk.ks.getD i 0) none 0 0)) (w_none rfl) rfl rfl rfl rfl rfl rfl tu24 ts37 ty37 rfl (by simp [agg_cells, outC]) (by simp [agg_cells]) H ?_)
         clear H; intro g15_7 W H
         refine ⟨_, fun _ h => h, H.sub (by repeat (first | exact .refl _ | exact List.nil_sublist _ | refine .cons_cons _ ?_ | refine .cons _ ?_)), ?_⟩
         refine t_eff rfl (e_run (w_none rfl) rfl (d_ldX (g := gt) (off := 1) rfl H rfl rfl rfl ta24) ?_)
         refine ⟨_, fun _ h => h, H.sub (by repeat (first | exact .refl _ | exact List.nil_sublist _ | refine .cons_cons _ ?_ | refine .cons _ ?_)), ?_⟩
         refine t_eff rfl (e_app (w_none rfl) rfl rfl tu24 tx37 rfl rfl rfl H (rd_blk (m := 1) H.blk rfl) (rfl) (by omega) rfl ?_)
         clear H; intro A7 c7 W hc7 hd7 H
         replace H := H.drop
         refine ⟨_, fun _ h => h, H.sub (by repeat (first | exact .refl _ | exact List.nil_sublist _ | refine .cons_cons _ ?_ | refine .cons _ ?_)), ?_⟩
         refine t_run rfl (w_none rfl) rfl (fun W H => d_fa rfl rfl tf26_1) (t_eff rfl (e_stoK (v := .slice A7 (1 + 1) c7) (vs := [.slice A7 (1 + 1) c7]) (txC (some ⟨g1, 0, none⟩) 1 1 A7 (1 + 1) c7 0) (w_none rfl) rfl rfl rfl rfl rfl ts24 rfl rfl H (Nat.le_of_ble_eq_true rfl) rfl ?_))
         clear H; intro W H
         refine ⟨_, fun _ h => h, H.sub (by repeat (first | exact .refl _ | exact List.nil_sublist _ | refine .cons_cons _ ?_ | refine .cons _ ?_)), ?_⟩
         refine t_nil (k_nil (n_then ?_))
         refine ⟨_, _, rfl, ?_, ?_, ⟨A7, c7, rfl, H⟩⟩
         ·repeat (first | with_reducible exact .refl | (with_reducible refine .updl _ (.ovr2 ?_ ?_) ?_); rotate_left; exact rfl; exact rfl | (with_reducible refine .upd ?_ ?_); rotate_left; exact rfl)
         ·exact trivial
        exact t_none
       clear H; obtain ⟨A7, c7, rfl, H⟩ := hJ
       refine k_nil (b_endc ?_)
       refine ⟨_, _, rfl, ?_, ?_, ⟨[Tx.smallP], [5, (Tk.ks.getD i 0)], 0, (some ⟨g1, 0, none⟩), 1, A7, c7, rfl, (Tk.all1 ⟨rfl, by decide, by decide⟩), (Tk.all2 ⟨by decide, by decide⟩ hks), ⟨by decide, by decide⟩, (by rw [Tk.ins_one, Tk.outs_two]; exact H.perm (by repeat (first | exact .refl _ | refine .cons _ ?_ | refine .trans (.cons _ ?_) (List.perm_middle (l₁ := [_])).symm | refine .trans (.cons _ ?_) (List.perm_middle (l₁ := [_, _])).symm | refine .trans (.cons _ ?_) (List.perm_middle (l₁ := [_, _, _])).symm | refine .trans (.cons _ ?_) (List.perm_middle (l₁ := [_, _, _, _])).symm | refine .trans (.cons _ ?_) (List.perm_middle (l₁ := [_, _, _, _, _])).symm | refine .trans (.cons _ ?_) (List.perm_middle (l₁ := [_, _, _, _, _, _])).symm | refine .trans (.cons _ ?_) (List.perm_middle (l₁ := [_, _, _, _, _, _, _])).symm)))⟩⟩
       ·repeat (first | with_reducible exact .refl | (with_reducible refine .updl _ (.ovr2 ?_ ?_) ?_); rotate_left; exact rfl; exact rfl | (with_reducible refine .upd ?_ ?_); rotate_left; exact rfl)
       ·exact trivial
      ·skip
       refine k_seq (k_region (sR rfl rfl (d_eq rfl rfl rfl) (sAb rfl rfl rfl rfl (l_nil (k_cond rfl (fun hc58 => ?_) (fun hc58 => ?_))))))
       ·skip
        refine k_region (sR rfl rfl (d_build (vs := outC 562949953421312 none 0 0) rfl (built_fields (places := [(0, 1), (1, 1)]) tz37 (by kernel_rfl) (by kernel_rfl) (fill_next (vs := [.int .i64 562949953421312]) (.int .i64 562949953421312) rfl rfl rfl rfl (Nat.le_of_ble_eq_true rfl) (fill_end (by rfl))))) ?_)
        refine sMs rfl rfl rfl rfl (sMi rfl rfl rfl rfl (sR rfl rfl (d_iaS rfl (rd_blk (m := 15) (H.blk (g := gn)) rfl) rfl rfl (q := i) rfl hi15 tu22 ts3) (sR rfl rfl (d_ldR0 rfl (rd_blk (m := 15) (H.blk (g := gn)) rfl) rfl ta3 (Tk.ks_get hi15)) (sR rfl rfl (d_build (vs := outC (Tk.ks.getD i 0) none 0 0) rfl (built_fields (places := [(0, 1), (1, 1)]) tz37 (by kernel_rfl) (by kernel_rfl) (fill_next (vs := [.int .i64 (Tk.ks.getD i 0)]) (.int .i64 (Tk.ks.getD i 0)) rfl rfl rfl rfl (Nat.le_of_ble_eq_true rfl) (fill_end (by rfl))))) ?_))))
        refine s_eff (e_bsl (xs := [.tmp 60, .tmp 65]) (vals := [.agg (outC 562949953421312 none 0 0).toArray, .agg (outC (Tk.ks.getD i 0) none 0 0).toArray]) (vs := (outC 562949953421312 none 0 0 ++ outC (Tk.ks.getD i 0) none 0 0)) (w_none rfl) rfl rfl rfl rfl rfl rfl tu24 ts37 ty37 rfl (by simp [agg_cells, outC]) (by simp [agg_cells]) H ?_)
        clear H; intro g3 W H
        replace H := H.torow (s := 2) 2 (by rfl) (by decide)
        refine sR rfl rfl (d_fa rfl rfl tf26_1) (s_eff (e_stoK (v := .slice (some ⟨g3, 0, none⟩) 2 2) (vs := [.slice (some ⟨g3, 0, none⟩) 2 2]) (txC (some ⟨g1, 0, none⟩) 1 1 (some ⟨g3, 0, none⟩) 2 2 0) (w_none rfl) rfl rfl rfl rfl rfl ts24 rfl rfl H (Nat.le_of_ble_eq_true rfl) rfl ?_))
        clear H; intro W H
        refine l_nil (k_nil (b_endc ?_))
        refine ⟨_, _, rfl, ?_, ?_, ⟨[Tx.smallP], [562949953421312, (Tk.ks.getD i 0)], 0, (some ⟨g1, 0, none⟩), 1, (some ⟨g3, 0, none⟩), 2, rfl, (Tk.all1 ⟨rfl, by decide, by decide⟩), (Tk.all2 ⟨by decide, by decide⟩ hks), ⟨by decide, by decide⟩, (by rw [Tk.ins_one, Tk.outs_two]; exact (H.perm (.trans (.swap _ _ _) (.cons _ (.swap _ _ _)))).sub (L' := [_, _, _, _]) (by repeat (first | exact .refl _ | exact List.nil_sublist _ | refine .cons_cons _ ?_ | refine .cons _ ?_)))⟩⟩
        ·repeat (first | with_reducible exact .refl | (with_reducible refine .updl _ (.ovr2 ?_ ?_) ?_); rotate_left; exact rfl; exact rfl | (with_reducible refine .upd ?_ ?_); rotate_left; exact rfl)
        ·exact trivial
       ·skip
        refine k_skip (k_nil (b_endc ?_))
        refine ⟨_, _, rfl, ?_, ?_, ⟨[Tx.smallP], [5], 0, (some ⟨g1, 0, none⟩), 1, (some ⟨g2, 0, none⟩), 1, rfl, (Tk.all1 ⟨rfl, by decide, by decide⟩), (Tk.all1 ⟨by decide, by decide⟩), ⟨by decide, by decide⟩, (by rw [Tk.ins_one, Tk.outs_one]; exact H)⟩⟩
        ·repeat (first | with_reducible exact .refl | (with_reducible refine .updl _ (.ovr2 ?_ ?_) ?_); rotate_left; exact rfl; exact rfl | (with_reducible refine .upd ?_ ?_); rotate_left; exact rfl)
        ·exact trivial
   clear H; obtain ⟨ps, vs, lk, A, c, B, d, rfl, hps, hvs, hlk, H⟩ := hJ
   refine k_seq (k_region (sR rfl rfl (d_ldXM (g := gt) (off := 0) rfl H (sub_all (a := txC A ps.length c B vs.length d lk) (m := 3) rfl) rfl rfl rfl rfl ta26 ts26) (sC rfl rfl rfl Tryz.func5 rfl rfl rfl (txPuts (t := (Tk.flatT ps vs lk)) _ (H.gat hG) (H.gl hB) (Tk.flat_tx (eI := 34) (eO := 37) H rfl rfl hps hvs hlk) Tk.szd_flat) ?_)))
   rintro _ W ⟨rfl, hb⟩
   replace H := H.below hb
   clear hb
   refine sR rfl rfl (d_not rfl rfl) (sR rfl rfl (mv_bx (c := false) rfl rfl (rfl)) (s_run (w_g rfl rfl rfl rfl) rfl (d_ldXM (g := gt) (off := 0) rfl H (sub_all (a := txC A ps.length c B vs.length d lk) (m := 3) rfl) rfl rfl rfl rfl ta26 ts26) (s_eff (e_call (w_g rfl rfl rfl rfl) rfl rfl Tryz.func6 rfl rfl rfl (txBack (S1 := nT) (u := .slice none 0 0) (b := []) (t := (Tk.flatT ps vs lk)) _ (H.gat hG) (H.gl hB) (Tk.flat_tx (eI := 34) (eO := 37) H rfl rfl hps hvs hlk) Tk.szd_flat Bs.nil) ?_))))
   rintro _ W ⟨rfl, hb⟩
   replace H := H.below hb
   clear hb
   refine s_run (w_g rfl rfl rfl rfl) rfl (d_not rfl rfl) (sR rfl rfl (d_pickF rfl rfl rfl) (sR rfl rfl (mv_bx (c := false) rfl rfl (rfl)) (s_run (w_g rfl rfl rfl rfl) rfl (d_ldXM (g := gt) (off := 0) rfl H (sub_all (a := txC A ps.length c B vs.length d lk) (m := 3) rfl) rfl rfl rfl rfl ta26 ts26) (s_run (w_g rfl rfl rfl rfl) rfl (mv_i rfl rfl) (s_eff (e_call (w_g rfl rfl rfl rfl) rfl rfl Tryz.func7 rfl rfl rfl (txBare (ct := (i : Int)) (t := (Tk.flatT ps vs lk)) _ (H.gat hG) (H.gl hB) (Tk.flat_tx (eI := 34) (eO := 37) H rfl rfl hps hvs hlk) Tk.szd_flat) ?_))))))
   rintro _ W ⟨rfl, hb⟩
   replace H := H.below hb
   clear hb
   refine s_run (w_g rfl rfl rfl rfl) rfl (d_not rfl rfl) (sR rfl rfl (d_pickF rfl rfl rfl) (l_nil (k_condF rfl rfl (k_skip (k_nil (b_end (k_region (sMi rfl rfl rfl rfl (sR rfl rfl (d_add rfl rfl rfl (by omega)) (sAi rfl rfl rfl rfl ?_))))))))))
   refine l_nil (k_nil (k_next ?_))
   refine ⟨_, _, _, ?_, rfl, ?_, ?_, ⟨k + 1, rfl, rfl, by omega, H.sub (by repeat (first | exact .refl _ | exact List.nil_sublist _ | refine .cons_cons _ ?_ | refine .cons _ ?_))⟩⟩
   ·omega
   ·repeat (first | (with_reducible refine .updl _ .ovr ?_); exact rfl | (with_reducible refine .updl _ (.ovr2 ?_ ?_) ?_); rotate_left; exact rfl; exact rfl | (with_reducible refine .upd ?_ ?_); rotate_left; exact rfl)
   ·refine ⟨?_, trivial⟩
    ·exact vi (by omega)
  ·skip
   refine k_exit (x_then (x_then ?_))
   refine x_hit (k_nil (b_end (k_region (sMi rfl rfl rfl rfl (sR rfl rfl (d_add rfl rfl rfl (by omega)) (sAi rfl rfl rfl rfl (l_nil (k_nil (k_next ?_)))))))))
   refine ⟨_, _, _, ?_, rfl, ?_, ?_, ⟨i + 1, rfl, rfl, by omega, H.sub (by repeat (first | exact .refl _ | exact List.nil_sublist _ | refine .cons_cons _ ?_ | refine .cons _ ?_))⟩⟩
   ·omega
   ·repeat (first | (with_reducible refine .updl _ .ovr ?_); exact rfl | (with_reducible refine .updl _ (.ovr2 ?_ ?_) ?_); rotate_left; exact rfl; exact rfl | (with_reducible refine .upd ?_ ?_); rotate_left; exact rfl)
   ·refine ⟨?_, trivial⟩
    ·exact vi (by omega)
 ·skip
  refine k_exit (x_then (x_then ?_))
  refine x_hit (k_seq (k_seq (k_region (sAi rfl rfl rfl rfl (l_nil (k_block (k_loop 82 [0, 5, 6, 7, 8] (fun mm sl W => ∃ i : Nat, 20 - i = mm ∧ sl = [(5, .int .i64 (i : Int))] ∧ (i ≤ 20) ∧ St nT w W []) _ _ ⟨0, rfl, rfl, Nat.zero_le _, (H.sub (List.nil_sublist _))⟩ ⟨rfl, trivial⟩ (fun mm sl ρv W hJ => ?_))))))))
  clear H; obtain ⟨i, rfl, rfl, hi, H⟩ := hJ
  refine k_one (k_seq (k_seq (k_region (sMi rfl rfl rfl rfl (sR rfl rfl (d_lt rfl rfl rfl) (l_nil (k_cond rfl (fun hc83 => ?_) (fun hc83 => ?_))))))))
  ·have hi20 : i < 20 := by simp at hc83; omega
   refine k_skip (k_seq (k_block (k_seq (k_cut 86 [6] (fun sl W => ∃ gs : Nat, ∃ g3 : Nat, ∃ g4 : Nat, sl = [(6, .pointer (some ⟨gs, 0, none⟩))] ∧ St nT w W [Fact.blk gs (txC (some ⟨g3, 0, none⟩) i i (some ⟨g4, 0, none⟩) (20 - i) (20 - i) 0) 26, Fact.row 34 34 (.slice (some ⟨g3, 0, none⟩) i i) i (Tk.insZ (List.replicate i zPt)), Fact.row 37 2 (.slice (some ⟨g4, 0, none⟩) (20 - i) (20 - i)) (20 - i) (Tk.outsZ (List.replicate (20 - i) 0))]) ?_ (fun sl ρv W hJ => ?_)))))
   ·skip
    refine k_drawT (.rd 0 (.rd 2 (.rd 3 (.many 4 [1, 4, 6] fun j => (bif Nat.beq j 1 then (.many 3 [4, 6] fun j => (bif Nat.beq j 4 then (.rd 5 (.ef 6 (.ef 7 .nil))) else (.ef 4 (.rd 5 (.ef 7 .nil))))) else (bif Nat.beq j 4 then (.many 3 [1, 6] fun j => (bif Nat.beq j 1 then (.rd 5 (.ef 6 (.ef 7 .nil))) else (.ef 1 (.rd 5 (.ef 7 .nil))))) else (.many 3 [1, 4] fun j => (bif Nat.beq j 1 then (.ef 4 (.rd 5 (.ef 7 .nil))) else (.ef 1 (.rd 5 (.ef 7 .nil))))))))))) [] (by kernel_rfl) (by kernel_rfl) H (List.nil_sublist _) ?_
    clear H; intro W H
    refine t_run rfl (w_none rfl) rfl (fun W H => mv_i rfl rfl) (t_run rfl (w_none rfl) rfl (fun W H => mv_i rfl rfl) (t_run rfl (w_none rfl) rfl (fun W H => d_sub rfl rfl rfl (by omega)) (t_each ?_ ?_)))
    ·skip
     refine t_eff rfl (e_mkX (m := i) (b := 64) (s := 34) (z := (inC zPt none 0 0)) (w_none rfl) rfl rfl rfl rfl (by omega) (by omega) tu23 tzIn ts34 (by kernel_rfl) (by decide) (len_in (p := zPt) rfl) (by decide) Tk.ins_rep H ?_)
     clear H; intro g3 W H
     refine ⟨_, fun _ h => h, H.sub (by repeat (first | exact .refl _ | exact List.nil_sublist _ | refine .cons_cons _ ?_ | refine .cons _ ?_)), ?_⟩
     refine t_each ?_ ?_
     ·skip
      refine t_eff rfl (e_mkX (m := (20 - i)) (b := 32) (s := 2) (z := (outC 0 none 0 0)) (w_none rfl) rfl rfl rfl rfl (by omega) (by omega) tu24 tz37 ts37 (by kernel_rfl) (by decide) rfl (by decide) Tk.outs_rep H ?_)
      clear H; intro g4 W H
      refine ⟨_, fun _ h => h, H.sub (by repeat (first | exact .refl _ | exact List.nil_sublist _ | refine .cons_cons _ ?_ | refine .cons _ ?_)), ?_⟩
      refine t_run rfl (w_none rfl) rfl (fun W H => d_build (vs := txC (some ⟨g3, 0, none⟩) i i (some ⟨g4, 0, none⟩) (20 - i) (20 - i) 0) rfl (built_fields (places := [(0, 1), (1, 1), (2, 1)]) tz26 (by kernel_rfl) (by kernel_rfl) (fill_next (vs := [.slice (some ⟨g3, 0, none⟩) i i]) (.slice (some ⟨g3, 0, none⟩) i i) rfl rfl rfl rfl (Nat.le_of_ble_eq_true rfl) (fill_next (vs := [.slice (some ⟨g4, 0, none⟩) (20 - i) (20 - i)]) (.slice (some ⟨g4, 0, none⟩) (20 - i) (20 - i)) rfl (by rfl) rfl rfl (Nat.le_of_ble_eq_true rfl) (fill_end (by rfl)))))) ?_
      refine t_eff rfl (e_alloc (w_none rfl) rfl rfl [.slice none 0 0, .slice none 0 0, .int .i64 0] tz26 H ?_)
      clear H; intro gs W H
      refine ⟨_, fun _ h => h, H.sub (by repeat (first | exact .refl _ | exact List.nil_sublist _ | refine .cons_cons _ ?_ | refine .cons _ ?_)), ?_⟩
      refine t_eff rfl (e_stoK (txC (some ⟨g3, 0, none⟩) i i (some ⟨g4, 0, none⟩) (20 - i) (20 - i) 0) (w_none rfl) rfl rfl rfl rfl rfl ts26 rfl rfl H (by decide) rfl ?_)
      clear H; intro W H
      refine ⟨_, fun _ h => h, H.sub (by repeat (first | exact .refl _ | exact List.nil_sublist _ | refine .cons_cons _ ?_ | refine .cons _ ?_)), ?_⟩
      refine t_nil (k_nil (n_then ?_))
      refine ⟨_, _, rfl, ?_, ?_, ⟨gs, g3, g4, rfl, H.perm (by repeat (first | exact .refl _ | refine .cons _ ?_ | refine .trans (.cons _ ?_) (List.perm_middle (l₁ := [_])).symm | refine .trans (.cons _ ?_) (List.perm_middle (l₁ := [_, _])).symm | refine .trans (.cons _ ?_) (List.perm_middle (l₁ := [_, _, _])).symm | refine .trans (.cons _ ?_) (List.perm_middle (l₁ := [_, _, _, _])).symm | refine .trans (.cons _ ?_) (List.perm_middle (l₁ := [_, _, _, _, _])).symm | refine .trans (.cons _ ?_) (List.perm_middle (l₁ := [_, _, _, _, _, _])).symm | refine .trans (.cons _ ?_) (List.perm_middle (l₁ := [_, _, _, _, _, _, _])).symm))⟩⟩
      ·repeat (first | with_reducible exact .refl | (with_reducible refine .updl _ (.ovr2 ?_ ?_) ?_); rotate_left; exact rfl; exact rfl | (with_reducible refine .upd ?_ ?_); rotate_left; exact rfl)
      ·refine ⟨?_, trivial⟩
       ·exact rfl
     refine t_each ?_ ?_
     ·skip
      refine t_eff rfl (e_alloc (w_none rfl) rfl rfl [.slice none 0 0, .slice none 0 0, .int .i64 0] tz26 H ?_)
      clear H; intro gs W H
      refine ⟨_, fun _ h => h, H.sub (by repeat (first | exact .refl _ | exact List.nil_sublist _ | refine .cons_cons _ ?_ | refine .cons _ ?_)), ?_⟩
      refine t_eff rfl (e_mkX (m := (20 - i)) (b := 32) (s := 2) (z := (outC 0 none 0 0)) (w_none rfl) rfl rfl rfl rfl (by omega) (by omega) tu24 tz37 ts37 (by kernel_rfl) (by decide) rfl (by decide) Tk.outs_rep H ?_)
      clear H; intro g4 W H
      refine ⟨_, fun _ h => h, H.sub (by repeat (first | exact .refl _ | exact List.nil_sublist _ | refine .cons_cons _ ?_ | refine .cons _ ?_)), ?_⟩
      refine t_run rfl (w_none rfl) rfl (fun W H => d_build (vs := txC (some ⟨g3, 0, none⟩) i i (some ⟨g4, 0, none⟩) (20 - i) (20 - i) 0) rfl (built_fields (places := [(0, 1), (1, 1), (2, 1)]) tz26 (by kernel_rfl) (by kernel_rfl) (fill_next (vs := [.slice (some ⟨g3, 0, none⟩) i i]) (.slice (some ⟨g3, 0, none⟩) i i) rfl rfl rfl rfl (Nat.le_of_ble_eq_true rfl) (fill_next (vs := [.slice (some ⟨g4, 0, none⟩) (20 - i) (20 - i)]) (.slice (some ⟨g4, 0, none⟩) (20 - i) (20 - i)) rfl (by rfl) rfl rfl (Nat.le_of_ble_eq_true rfl) (fill_end (by rfl)))))) ?_
      refine t_eff rfl (e_stoK (txC (some ⟨g3, 0, none⟩) i i (some ⟨g4, 0, none⟩) (20 - i) (20 - i) 0) (w_none rfl) rfl rfl rfl rfl rfl ts26 rfl rfl H (by decide) rfl ?_)
      clear H; intro W H
      refine ⟨_, fun _ h => h, H.sub (by repeat (first | exact .refl _ | exact List.nil_sublist _ | refine .cons_cons _ ?_ | refine .cons _ ?_)), ?_⟩
      refine t_nil (k_nil (n_then ?_))
      refine ⟨_, _, rfl, ?_, ?_, ⟨gs, g3, g4, rfl, H.perm (by repeat (first | exact .refl _ | refine .cons _ ?_ | refine .trans (.cons _ ?_) (List.perm_middle (l₁ := [_])).symm | refine .trans (.cons _ ?_) (List.perm_middle (l₁ := [_, _])).symm | refine .trans (.cons _ ?_) (List.perm_middle (l₁ := [_, _, _])).symm | refine .trans (.cons _ ?_) (List.perm_middle (l₁ := [_, _, _, _])).symm | refine .trans (.cons _ ?_) (List.perm_middle (l₁ := [_, _, _, _, _])).symm | refine .trans (.cons _ ?_) (List.perm_middle (l₁ := [_, _, _, _, _, _])).symm | refine .trans (.cons _ ?_) (List.perm_middle (l₁ := [_, _, _, _, _, _, _])).symm))⟩⟩
      ·repeat (first | with_reducible exact .refl | (with_reducible refine .updl _ (.ovr2 ?_ ?_) ?_); rotate_left; exact rfl; exact rfl | (with_reducible refine .upd ?_ ?_); rotate_left; exact rfl)
      ·refine ⟨?_, trivial⟩
       ·exact rfl
     exact t_none
    refine t_each ?_ ?_
    ·skip
     refine t_eff rfl (e_mkX (m := (20 - i)) (b := 32) (s := 2) (z := (outC 0 none 0 0)) (w_none rfl) rfl rfl rfl rfl (by omega) (by omega) tu24 tz37 ts37 (by kernel_rfl) (by decide) rfl (by decide) Tk.outs_rep H ?_)
     clear H; intro g4 W H
     refine ⟨_, fun _ h => h, H.sub (by repeat (first | exact .refl _ | exact List.nil_sublist _ | refine .cons_cons _ ?_ | refine .cons _ ?_)), ?_⟩
     refine t_each ?_ ?_
     ·skip
      refine t_eff rfl (e_mkX (m := i) (b := 64) (s := 34) (z := (inC zPt none 0 0)) (w_none rfl) rfl rfl rfl rfl (by omega) (by omega) tu23 tzIn ts34 (by kernel_rfl) (by decide) (len_in (p := zPt) rfl) (by decide) Tk.ins_rep H ?_)
      clear H; intro g3 W H
      refine ⟨_, fun _ h => h, H.sub (by repeat (first | exact .refl _ | exact List.nil_sublist _ | refine .cons_cons _ ?_ | refine .cons _ ?_)), ?_⟩
      refine t_run rfl (w_none rfl) rfl (fun W H => d_build (vs := txC (some ⟨g3, 0, none⟩) i i (some ⟨g4, 0, none⟩) (20 - i) (20 - i) 0) rfl (built_fields (places := [(0, 1), (1, 1), (2, 1)]) tz26 (by kernel_rfl) (by kernel_rfl) (fill_next (vs := [.slice (some ⟨g3, 0, none⟩) i i]) (.slice (some ⟨g3, 0, none⟩) i i) rfl rfl rfl rfl (Nat.le_of_ble_eq_true rfl) (fill_next (vs := [.slice (some ⟨g4, 0, none⟩) (20 - i) (20 - i)]) (.slice (some ⟨g4, 0, none⟩) (20 - i) (20 - i)) rfl (by rfl) rfl rfl (Nat.le_of_ble_eq_true rfl) (fill_end (by rfl)))))) ?_
      refine t_eff rfl (e_alloc (w_none rfl) rfl rfl [.slice none 0 0, .slice none 0 0, .int .i64 0] tz26 H ?_)
      clear H; intro gs W H
      refine ⟨_, fun _ h => h, H.sub (by repeat (first | exact .refl _ | exact List.nil_sublist _ | refine .cons_cons _ ?_ | refine .cons _ ?_)), ?_⟩
      refine t_eff rfl (e_stoK (txC (some ⟨g3, 0, none⟩) i i (some ⟨g4, 0, none⟩) (20 - i) (20 - i) 0) (w_none rfl) rfl rfl rfl rfl rfl ts26 rfl rfl H (by decide) rfl ?_)
      clear H; intro W H
      refine ⟨_, fun _ h => h, H.sub (by repeat (first | exact .refl _ | exact List.nil_sublist _ | refine .cons_cons _ ?_ | refine .cons _ ?_)), ?_⟩
      refine t_nil (k_nil (n_then ?_))
      refine ⟨_, _, rfl, ?_, ?_, ⟨gs, g3, g4, rfl, H.perm (by repeat (first | exact .refl _ | refine .cons _ ?_ | refine .trans (.cons _ ?_) (List.perm_middle (l₁ := [_])).symm | refine .trans (.cons _ ?_) (List.perm_middle (l₁ := [_, _])).symm | refine .trans (.cons _ ?_) (List.perm_middle (l₁ := [_, _, _])).symm | refine .trans (.cons _ ?_) (List.perm_middle (l₁ := [_, _, _, _])).symm | refine .trans (.cons _ ?_) (List.perm_middle (l₁ := [_, _, _, _, _])).symm | refine .trans (.cons _ ?_) (List.perm_middle (l₁ := [_, _, _, _, _, _])).symm | refine .trans (.cons _ ?_) (List.perm_middle (l₁ := [_, _, _, _, _, _, _])).symm))⟩⟩
      ·repeat (first | with_reducible exact .refl | (with_reducible refine .updl _ (.ovr2 ?_ ?_) ?_); rotate_left; exact rfl; exact rfl | (with_reducible refine .upd ?_ ?_); rotate_left; exact rfl)
      ·refine ⟨?_, trivial⟩
       ·exact rfl
     refine t_each ?_ ?_
     ·skip
      refine t_eff rfl (e_alloc (w_none rfl) rfl rfl [.slice none 0 0, .slice none 0 0, .int .i64 0] tz26 H ?_)
      clear H; intro gs W H
      refine ⟨_, fun _ h => h, H.sub (by repeat (first | exact .refl _ | exact List.nil_sublist _ | refine .cons_cons _ ?_ | refine .cons _ ?_)), ?_⟩
      refine t_eff rfl (e_mkX (m := i) (b := 64) (s := 34) (z := (inC zPt none 0 0)) (w_none rfl) rfl rfl rfl rfl (by omega) (by omega) tu23 tzIn ts34 (by kernel_rfl) (by decide) (len_in (p := zPt) rfl) (by decide) Tk.ins_rep H ?_)
      clear H; intro g3 W H
      refine ⟨_, fun _ h => h, H.sub (by repeat (first | exact .refl _ | exact List.nil_sublist _ | refine .cons_cons _ ?_ | refine .cons _ ?_)), ?_⟩
      refine t_run rfl (w_none rfl) rfl (fun W H => d_build (vs := txC (some ⟨g3, 0, none⟩) i i (some ⟨g4, 0, none⟩) (20 - i) (20 - i) 0) rfl (built_fields (places := [(0, 1), (1, 1), (2, 1)]) tz26 (by kernel_rfl) (by kernel_rfl) (fill_next (vs := [.slice (some ⟨g3, 0, none⟩) i i]) (.slice (some ⟨g3, 0, none⟩) i i) rfl rfl rfl rfl (Nat.le_of_ble_eq_true rfl) (fill_next (vs := [.slice (some ⟨g4, 0, none⟩) (20 - i) (20 - i)]) (.slice (some ⟨g4, 0, none⟩) (20 - i) (20 - i)) rfl (by rfl) rfl rfl (Nat.le_of_ble_eq_true rfl) (fill_end (by rfl)))))) ?_
      refine t_eff rfl (e_stoK (txC (some ⟨g3, 0, none⟩) i i (some ⟨g4, 0, none⟩) (20 - i) (20 - i) 0) (w_none rfl) rfl rfl rfl rfl rfl ts26 rfl rfl H (by decide) rfl ?_)
      clear H; intro W H
      refine ⟨_, fun _ h => h, H.sub (by repeat (first | exact .refl _ | exact List.nil_sublist _ | refine .cons_cons _ ?_ | refine .cons _ ?_)), ?_⟩
      refine t_nil (k_nil (n_then ?_))
      refine ⟨_, _, rfl, ?_, ?_, ⟨gs, g3, g4, rfl, H.perm (by repeat (first | exact .refl _ | refine .cons _ ?_ | refine .trans (.cons _ ?_) (List.perm_middle (l₁ := [_])).symm | refine .trans (.cons _ ?_) (List.perm_middle (l₁ := [_, _])).symm | refine .trans (.cons _ ?_) (List.perm_middle (l₁ := [_, _, _])).symm | refine .trans (.cons _ ?_) (List.perm_middle (l₁ := [_, _, _, _])).symm | refine .trans (.cons _ ?_) (List.perm_middle (l₁ := [_, _, _, _, _])).symm | refine .trans (.cons _ ?_) (List.perm_middle (l₁ := [_, _, _, _, _, _])).symm | refine .trans (.cons _ ?_) (List.perm_middle (l₁ := [_, _, _, _, _, _, _])).symm))⟩⟩
      ·repeat (first | with_reducible exact .refl | (with_reducible refine .updl _ (.ovr2 ?_ ?_) ?_); rotate_left; exact rfl; exact rfl | (with_reducible refine .upd ?_ ?_); rotate_left; exact rfl)
      ·refine ⟨?_, trivial⟩
       ·exact rfl
     exact t_none
    refine t_each ?_ ?_
    ·skip
     refine t_eff rfl (e_alloc (w_none rfl) rfl rfl [.slice none 0 0, .slice none 0 0, .int .i64 0] tz26 H ?_)
     clear H; intro gs W H
     refine ⟨_, fun _ h => h, H.sub (by repeat (first | exact .refl _ | exact List.nil_sublist _ | refine .cons_cons _ ?_ | refine .cons _ ?_)), ?_⟩
     refine t_each ?_ ?_
     ·skip
      refine t_eff rfl (e_mkX (m := i) (b := 64) (s := 34) (z := (inC zPt none 0 0)) (w_none rfl) rfl rfl rfl rfl (by omega) (by omega) tu23 tzIn ts34 (by kernel_rfl) (by decide) (len_in (p := zPt) rfl) (by decide) Tk.ins_rep H ?_)
      clear H; intro g3 W H
      refine ⟨_, fun _ h => h, H.sub (by repeat (first | exact .refl _ | exact List.nil_sublist _ | refine .cons_cons _ ?_ | refine .cons _ ?_)), ?_⟩
      refine t_eff rfl (e_mkX (m := (20 - i)) (b := 32) (s := 2) (z := (outC 0 none 0 0)) (w_none rfl) rfl rfl rfl rfl (by omega) (by omega) tu24 tz37 ts37 (by kernel_rfl) (by decide) rfl (by decide) Tk.outs_rep H ?_)
      clear H; intro g4 W H
      refine ⟨_, fun _ h => h, H.sub (by repeat (first | exact .refl _ | exact List.nil_sublist _ | refine .cons_cons _ ?_ | refine .cons _ ?_)), ?_⟩
      refine t_run rfl (w_none rfl) rfl (fun W H => d_build (vs := txC (some ⟨g3, 0, none⟩) i i (some ⟨g4, 0, none⟩) (20 - i) (20 - i) 0) rfl (built_fields (places := [(0, 1), (1, 1), (2, 1)]) tz26 (by kernel_rfl) (by kernel_rfl) (fill_next (vs := [.slice (some ⟨g3, 0, none⟩) i i]) (.slice (some ⟨g3, 0, none⟩) i i) rfl rfl rfl rfl (Nat.le_of_ble_eq_true rfl) (fill_next (vs := [.slice (some ⟨g4, 0, none⟩) (20 - i) (20 - i)]) (.slice (some ⟨g4, 0, none⟩) (20 - i) (20 - i)) rfl (by rfl) rfl rfl (Nat.le_of_ble_eq_true rfl) (fill_end (by rfl)))))) ?_
      refine t_eff rfl (e_stoK (txC (some ⟨g3, 0, none⟩) i i (some ⟨g4, 0, none⟩) (20 - i) (20 - i) 0) (w_none rfl) rfl rfl rfl rfl rfl ts26 rfl rfl H (by decide) rfl ?_)
      clear H; intro W H
      refine ⟨_, fun _ h => h, H.sub (by repeat (first | exact .refl _ | exact List.nil_sublist _ | refine .cons_cons _ ?_ | refine .cons _ ?_)), ?_⟩
      refine t_nil (k_nil (n_then ?_))
      refine ⟨_, _, rfl, ?_, ?_, ⟨gs, g3, g4, rfl, H.perm (by repeat (first | exact .refl _ | refine .cons _ ?_ | refine .trans (.cons _ ?_) (List.perm_middle (l₁ := [_])).symm | refine .trans (.cons _ ?_) (List.perm_middle (l₁ := [_, _])).symm | refine .trans (.cons _ ?_) (List.perm_middle (l₁ := [_, _, _])).symm | refine .trans (.cons _ ?_) (List.perm_middle (l₁ := [_, _, _, _])).symm | refine .trans (.cons _ ?_) (List.perm_middle (l₁ := [_, _, _, _, _])).symm | refine .trans (.cons _ ?_) (List.perm_middle (l₁ := [_, _, _, _, _, _])).symm | refine .trans (.cons _ ?_) (List.perm_middle (l₁ := [_, _, _, _, _, _, _])).symm))⟩⟩
      ·repeat (first | with_reducible exact .refl | (with_reducible refine .updl _ (.ovr2 ?_ ?_) ?_); rotate_left; exact rfl; exact rfl | (with_reducible refine .upd ?_ ?_); rotate_left; exact rfl)
      ·refine ⟨?_, trivial⟩
       ·exact rfl
     refine t_each ?_ ?_
     ·skip
      refine t_eff rfl (e_mkX (m := (20 - i)) (b := 32) (s := 2) (z := (outC 0 none 0 0)) (w_none rfl) rfl rfl rfl rfl (by omega) (by omega) tu24 tz37 ts37 (by kernel_rfl) (by decide) rfl (by decide) Tk.outs_rep H ?_)
      clear H; intro g4 W H
      refine ⟨_, fun _ h => h, H.sub (by repeat (first | exact .refl _ | exact List.nil_sublist _ | refine .cons_cons _ ?_ | refine .cons _ ?_)), ?_⟩
      refine t_eff rfl (e_mkX (m := i) (b := 64) (s := 34) (z := (inC zPt none 0 0)) (w_none rfl) rfl rfl rfl rfl (by omega) (by omega) tu23 tzIn ts34 (by kernel_rfl) (by decide) (len_in (p := zPt) rfl) (by decide) Tk.ins_rep H ?_)
      clear H; intro g3 W H
      refine ⟨_, fun _ h => h, H.sub (by repeat (first | exact .refl _ | exact List.nil_sublist _ | refine .cons_cons _ ?_ | refine .cons _ ?_)), ?_⟩
      refine t_run rfl (w_none rfl) rfl (fun W H => d_build (vs := txC (some ⟨g3, 0, none⟩) i i (some ⟨g4, 0, none⟩) (20 - i) (20 - i) 0) rfl (built_fields (places := [(0, 1), (1, 1), (2, 1)]) tz26 (by kernel_rfl) (by kernel_rfl) (fill_next (vs := [.slice (some ⟨g3, 0, none⟩) i i]) (.slice (some ⟨g3, 0, none⟩) i i) rfl rfl rfl rfl (Nat.le_of_ble_eq_true rfl) (fill_next (vs := [.slice (some ⟨g4, 0, none⟩) (20 - i) (20 - i)]) (.slice (some ⟨g4, 0, none⟩) (20 - i) (20 - i)) rfl (by rfl) rfl rfl (Nat.le_of_ble_eq_true rfl) (fill_end (by rfl)))))) ?_
      refine t_eff rfl (e_stoK (txC (some ⟨g3, 0, none⟩) i i (some ⟨g4, 0, none⟩) (20 - i) (20 - i) 0) (w_none rfl) rfl rfl rfl rfl rfl ts26 rfl rfl H (by decide) rfl ?_)
      clear H; intro W H
      refine ⟨_, fun _ h => h, H.sub (by repeat (first | exact .refl _ | exact List.nil_sublist _ | refine .cons_cons _ ?_ | refine .cons _ ?_)), ?_⟩
      refine t_nil (k_nil (n_then ?_))
      refine ⟨_, _, rfl, ?_, ?_, ⟨gs, g3, g4, rfl, H.perm (by repeat (first | exact .refl _ | refine .cons _ ?_ | refine .trans (.cons _ ?_) (List.perm_middle (l₁ := [_])).symm | refine .trans (.cons _ ?_) (List.perm_middle (l₁ := [_, _])).symm | refine .trans (.cons _ ?_) (List.perm_middle (l₁ := [_, _, _])).symm | refine .trans (.cons _ ?_) (List.perm_middle (l₁ := [_, _, _, _])).symm | refine .trans (.cons _ ?_) (List.perm_middle (l₁ := [_, _, _, _, _])).symm | refine .trans (.cons _ ?_) (List.perm_middle (l₁ := [_, _, _, _, _, _])).symm | refine .trans (.cons _ ?_) (List.perm_middle (l₁ := [_, _, _, _, _, _, _])).symm))⟩⟩
      ·repeat (first | with_reducible exact .refl | (with_reducible refine .updl _ (.ovr2 ?_ ?_) ?_); rotate_left; exact rfl; exact rfl | (with_reducible refine .upd ?_ ?_); rotate_left; exact rfl)
      ·refine ⟨?_, trivial⟩
       ·exact rfl
     exact t_none
    exact t_none
   clear H; obtain ⟨gs, g3, g4, rfl, H⟩ := hJ
   refine k_seq (k_region (sC rfl rfl rfl Tryz.func4 rfl rfl rfl (smallC _) ?_))
   rintro _ W ⟨g1, g2, rfl, hn_⟩
   replace H := H.add2 hn_
   clear hn_
   refine s_eff (e_alloc (w_none rfl) rfl rfl [.slice none 0 0, .slice none 0 0, .int .i64 0] tz26 H ?_)
   clear H; intro gu W H
   refine s_eff (e_stoK (txC (some ⟨g1, 0, none⟩) 1 1 (some ⟨g2, 0, none⟩) 1 1 0) (w_none rfl) rfl rfl rfl rfl rfl ts26 rfl rfl H (by decide) rfl ?_)
   clear H; intro W H
   refine l_nil (k_seq (k_region (sR rfl rfl (d_fa rfl rfl tf26_0) (sR rfl rfl (d_ldX (g := gu) (off := 0) rfl H rfl rfl rfl ta23) (sR rfl rfl (d_fa rfl rfl tf26_0) (sR rfl rfl (d_ldX (g := gu) (off := 0) rfl H rfl rfl rfl ta23) (s_eff (e_app (w_none rfl) rfl rfl tu23 tx34 rfl rfl rfl H (H.rowrd (A := (some ⟨g1, 0, none⟩))) (in_one) (by omega) rfl ?_))))))))
   clear H; intro A7 c7 W hc7 hd7 H
   refine sR rfl rfl (d_fa rfl rfl tf26_0) (s_eff (e_stoK (v := .slice A7 (1 + 1) c7) (vs := [.slice A7 (1 + 1) c7]) (txC A7 (1 + 1) c7 (some ⟨g2, 0, none⟩) 1 1 0) (w_none rfl) rfl rfl rfl rfl rfl ts23 rfl rfl H (Nat.le_of_ble_eq_true rfl) rfl ?_))
   clear H; intro W H
   refine l_nil ?_
   obtain ⟨g7, rfl⟩ := row_own (H.get (f := Fact.row 34 34 (.slice A7 (1 + 1) c7) (1 + 1) (inC Tx.smallP none 0 0 ++ inC Tx.smallP none 0 0))) (by omega)
   replace H : St nT w W [Fact.blk gu (txC (some ⟨g7, 0, none⟩) 2 c7 (some ⟨g2, 0, none⟩) 1 1 0) 26, Fact.row 34 34 (.slice (some ⟨g7, 0, none⟩) 2 c7) 2 (inC Tx.smallP none 0 0 ++ inC Tx.smallP none 0 0), Fact.row 37 2 (.slice (some ⟨g2, 0, none⟩) 1 1) 1 (outC 5 none 0 0), Fact.blk gs (txC (some ⟨g3, 0, none⟩) i i (some ⟨g4, 0, none⟩) (20 - i) (20 - i) 0) 26, Fact.row 34 34 (.slice (some ⟨g3, 0, none⟩) i i) i (Tk.insZ (List.replicate i zPt)), Fact.row 37 2 (.slice (some ⟨g4, 0, none⟩) (20 - i) (20 - i)) (20 - i) (Tk.outsZ (List.replicate (20 - i) 0))] := H
   refine k_seq (k_region (sR rfl rfl (d_fa rfl rfl tf26_0) (sR rfl rfl (d_ldX (g := gu) (off := 0) rfl H rfl rfl rfl ta23) (sMi rfl rfl rfl rfl (sR rfl rfl (d_iaP (q := 1) rfl rfl rfl rfl (by decide) tu23 ts34) ?_)))))
   refine sR rfl rfl (d_fa rfl rfl tf34_0) (sR rfl rfl (d_fa rfl rfl tf31_1) (s_eff (e_stoG (v := .int .i64 (i : Int)) (k := 66) (s := 34) (e := 34) (m := 2) (c := c7) (w_none rfl) rfl rfl rfl (by omega) rfl rfl ts3 rfl H (by omega) ?_)))
   clear H; intro W H
   refine l_nil ?_
   rw [Tk.u_set rfl rfl] at H
   refine k_seq (k_seq (k_region (sAi rfl rfl rfl rfl (l_nil (k_block (k_loop 105 [8] (fun mm sl W => ∃ k : Nat, ∃ ps : List DPoint, ∃ A9 : Option Addr, ∃ c9 : Nat, ∃ zs : List Value, ∃ S9 : Nat → Prop, ∃ ws : List (List UInt8), i - k = mm ∧ sl = [(8, .int .i64 (k : Int))] ∧ (k ≤ i) ∧ (ps.length = i) ∧ (∀ p ∈ ps, Tk.OkP p) ∧ (ws.length = k) ∧ (∀ b ∈ ws, b.length ≤ 1000) ∧ (k ≤ c9 ∧ c9 ≤ 9223372036854775807) ∧ St nT w W [Fact.row 35 1 (.slice A9 k c9) k (zs), Fact.els RB 1 S9 zs ws, Fact.blk gu (txC (some ⟨g7, 0, none⟩) 2 c7 (some ⟨g2, 0, none⟩) 1 1 0) 26, Fact.row 34 34 (.slice (some ⟨g7, 0, none⟩) 2 c7) 2 (inC Tx.smallP A9 k c9 ++ inC ⟨Tx.smallP.tx, (i : Int)⟩ none 0 0), Fact.row 37 2 (.slice (some ⟨g2, 0, none⟩) 1 1) 1 (outC 5 none 0 0), Fact.blk gs (txC (some ⟨g3, 0, none⟩) i i (some ⟨g4, 0, none⟩) (20 - i) (20 - i) 0) 26, Fact.row 34 34 (.slice (some ⟨g3, 0, none⟩) i i) i (Tk.insZ ps), Fact.row 37 2 (.slice (some ⟨g4, 0, none⟩) (20 - i) (20 - i)) (20 - i) (Tk.outsZ (List.replicate (20 - i) 0))]) _ _ ⟨0, (List.replicate i zPt), none, 0, [], (fun _ => False), [], rfl, rfl, Nat.zero_le _, List.length_replicate, (Tk.all_rep ⟨rfl, by decide, by decide⟩), rfl, (fun _ h => by cases h), ⟨Nat.le_refl _, by omega⟩, ((H.els0 RB 1).nilrow 35 1)⟩ ⟨rfl, trivial⟩ (fun mm sl ρv W hJ => ?_)))))))
   clear H; obtain ⟨k, ps, A9, c9, zs, S9, ws, rfl, rfl, hk, hpl, hps, hwl, hwb, hd9, H⟩ := hJ
   refine k_one (k_seq (k_seq (k_region (sMi rfl rfl rfl rfl (sMi rfl rfl rfl rfl (sR rfl rfl (d_lt rfl rfl rfl) (l_nil (k_cond rfl (fun hc107 => ?_) (fun hc107 => ?_)))))))))
   ·have hki : k < i := by simp at hc107; omega
    obtain ⟨p, hp⟩ := get_lt (l := ps) (i := k) (by omega)
    have hz9 : I64 ((k : Int) % 9) := ⟨by omega, by omega⟩
    refine k_skip (k_seq (k_block (k_seq (k_region (sR rfl rfl (d_fa rfl rfl tf26_0) (sR rfl rfl (d_ldX (g := gs) (off := 0) rfl H rfl rfl rfl ta23) (sMi rfl rfl rfl rfl (sMi rfl rfl rfl rfl (sR rfl rfl (d_rem rfl rfl rfl (by omega)) (sR rfl rfl (d_iaP (q := k) rfl rfl rfl rfl hki tu23 ts34) ?_))))))))))
    refine sR rfl rfl (d_fa rfl rfl tf34_0) (sR rfl rfl (d_fa rfl rfl tf31_1) (s_eff (e_stoG (v := .int .i64 ((k : Int) % 9)) (k := k * 34 + 32) (s := 34) (e := 34) (m := i) (c := i) (w_none rfl) rfl rfl rfl (by omega) rfl rfl ts3 rfl H (by omega) ?_)))
    clear H; intro W H
    refine l_nil ?_
    rw [Tk.ins_set hps hp] at H
    refine k_cut 118 [] (fun sl W => ∃ A8 : Option Addr, ∃ c8 : Nat, ∃ zs8 : List Value, ∃ S8 : Nat → Prop, sl = [] ∧ (k + 1 ≤ c8 ∧ c8 ≤ 9223372036854775807) ∧ St nT w W [Fact.row 35 1 (.slice A8 (k + 1) c8) (k + 1) (zs8), Fact.els RB 1 S8 zs8 (ws ++ [rowL (i * 4)]), Fact.blk gu (txC (some ⟨g7, 0, none⟩) 2 c7 (some ⟨g2, 0, none⟩) 1 1 0) 26, Fact.row 34 34 (.slice (some ⟨g7, 0, none⟩) 2 c7) 2 (inC Tx.smallP A8 (k + 1) c8 ++ inC ⟨Tx.smallP.tx, (i : Int)⟩ none 0 0), Fact.row 37 2 (.slice (some ⟨g2, 0, none⟩) 1 1) 1 (outC 5 none 0 0), Fact.blk gs (txC (some ⟨g3, 0, none⟩) i i (some ⟨g4, 0, none⟩) (20 - i) (20 - i) 0) 26, Fact.row 34 34 (.slice (some ⟨g3, 0, none⟩) i i) i (Tk.insZ (ps.set k ⟨p.tx, (k : Int) % 9⟩)), Fact.row 37 2 (.slice (some ⟨g4, 0, none⟩) (20 - i) (20 - i)) (20 - i) (Tk.outsZ (List.replicate (20 - i) 0))]) ?_ (fun sl ρv W hJ => ?_)
    ·skip
     refine k_drawT (.rd 0 (.rd 1 (.rd 2 (.rd 3 (.rd 4 (.rd 5 (.rd 7 (.rd 8 (.many 6 [6, 9] fun j => (bif Nat.beq j 6 then (.ef 9 (.ef 10 (.ef 11 (.rd 12 (.rd 13 (.ef 14 .nil)))))) else (.many 5 [6, 10] fun j => (bif Nat.beq j 6 then (.ef 10 (.ef 11 (.rd 12 (.rd 13 (.ef 14 .nil))))) else (.ef 6 (.ef 11 (.rd 12 (.rd 13 (.ef 14 .nil))))))))))))))))) [Fact.blk gu (txC (some ⟨g7, 0, none⟩) 2 c7 (some ⟨g2, 0, none⟩) 1 1 0) 26] (by kernel_rfl) (by kernel_rfl) H (by repeat (first | exact .refl _ | exact List.nil_sublist _ | refine .cons_cons _ ?_ | refine .cons _ ?_)) ?_
     clear H; intro W H
     refine t_run rfl (w_none rfl) rfl (fun W H => d_fa rfl rfl tf26_0) (t_run rfl (w_none rfl) rfl (fun W H => d_ldX (g := gu) (off := 0) rfl H rfl rfl rfl ta23) (t_run rfl (w_none rfl) rfl (fun W H => d_fa rfl rfl tf26_0) (t_run rfl (w_none rfl) rfl (fun W H => d_ldX (g := gu) (off := 0) rfl H rfl rfl rfl ta23) (t_run rfl (w_none rfl) rfl (fun W H => d_iaP (q := 0) rfl rfl rfl rfl (by decide) tu23 ts34) ?_))))
     refine t_run rfl (w_none rfl) rfl (fun W H => d_fa rfl rfl tf34_1) (t_run rfl (w_none rfl) rfl (fun W H => mv_i rfl rfl) (t_run rfl (w_none rfl) rfl (fun W H => d_mul rfl rfl rfl (by omega)) (t_each ?_ ?_)))
     ·skip
      refine t_eff rfl (e_run (w_none rfl) rfl (d_ldE (q := 0) (off := 33) rfl (H.rowrd (A := (some ⟨g7, 0, none⟩))) (by decide) (Tk.w_sub rfl) (sub_in_w rfl) rfl rfl (by omega) ta32) ?_)
      refine ⟨_, fun _ h => h, H.sub (by repeat (first | exact .refl _ | exact List.nil_sublist _ | refine .cons_cons _ ?_ | refine .cons _ ?_)), ?_⟩
      refine t_eff rfl (e_call (w_none rfl) rfl rfl Tryz.func8 rfl rfl rfl (row_any (i * 4) _ _ (by omega) (by omega)) ?_)
      rintro _ W ⟨A5, c5, rfl, hc5, hd5, hn⟩
      replace H := H.new hn
      clear hn
      refine ⟨_, fun _ h => h, H.sub (by repeat (first | exact .refl _ | exact List.nil_sublist _ | refine .cons_cons _ ?_ | refine .cons _ ?_)), ?_⟩
      refine t_eff rfl (e_bsl (xs := [.tmp 127]) (vals := [.slice A5 (rowL (i * 4)).length c5]) (vs := [.slice A5 (rowL (i * 4)).length c5]) (w_none rfl) rfl rfl rfl rfl rfl rfl tu32 ts35 ty35 rfl rfl rfl H ?_)
      clear H; intro g31_10 W H
      refine ⟨_, fun _ h => h, H.sub (by repeat (first | exact .refl _ | exact List.nil_sublist _ | refine .cons_cons _ ?_ | refine .cons _ ?_)), ?_⟩
      refine t_eff rfl (e_app (w_none rfl) rfl rfl tu32 tx35 rfl rfl rfl H (rd_blk (m := 1) H.blk rfl) (rfl) (by omega) rfl ?_)
      clear H; intro A8 c8 W hc8 hd8 H
      replace H := H.drop
      refine ⟨_, fun _ h => h, H.sub (by repeat (first | exact .refl _ | exact List.nil_sublist _ | refine .cons_cons _ ?_ | refine .cons _ ?_)), ?_⟩
      refine t_run rfl (w_none rfl) rfl (fun W H => d_iaP (q := 0) rfl rfl rfl rfl (by decide) tu23 ts34) ?_
      refine t_run rfl (w_none rfl) rfl (fun W H => d_fa rfl rfl tf34_1) (t_eff rfl (e_stoG (v := .slice A8 (k + 1) c8) (k := 33) (s := 34) (e := 34) (m := 2) (c := c7) (w_none rfl) rfl rfl rfl (by omega) rfl rfl ts32 rfl H (by omega) ?_))
      clear H; intro W H
      refine ⟨_, fun _ h => h, H.sub (by repeat (first | exact .refl _ | exact List.nil_sublist _ | refine .cons_cons _ ?_ | refine .cons _ ?_)), ?_⟩
      refine t_nil (k_nil (n_then ?_))
      replace H := H.torb rfl
      replace H := (St.elsnoc (H.perm (.cons _ (.swap _ _ _))) rfl).perm (.swap _ _ _)
      rw [Tk.w_set rfl] at H
      refine ⟨_, _, rfl, ?_, ?_, ⟨A8, c8, _, _, rfl, ⟨hc8, hd8⟩, H⟩⟩
      ·repeat (first | with_reducible exact .refl | (with_reducible refine .updl _ (.ovr2 ?_ ?_) ?_); rotate_left; exact rfl; exact rfl | (with_reducible refine .upd ?_ ?_); rotate_left; exact rfl)
      ·exact trivial
     refine t_each ?_ ?_
     ·skip
      refine t_eff rfl (e_call (w_none rfl) rfl rfl Tryz.func8 rfl rfl rfl (row_any (i * 4) _ _ (by omega) (by omega)) ?_)
      rintro _ W ⟨A5, c5, rfl, hc5, hd5, hn⟩
      replace H := H.new hn
      clear hn
      refine ⟨_, fun _ h => h, H.sub (by repeat (first | exact .refl _ | exact List.nil_sublist _ | refine .cons_cons _ ?_ | refine .cons _ ?_)), ?_⟩
      refine t_each ?_ ?_
      ·skip
       refine t_eff rfl (e_run (w_none rfl) rfl (d_ldE (q := 0) (off := 33) rfl (H.rowrd (A := (some ⟨g7, 0, none⟩))) (by decide) (Tk.w_sub rfl) (sub_in_w rfl) rfl rfl (by omega) ta32) ?_)
       refine ⟨_, fun _ h => h, H.sub (by repeat (first | exact .refl _ | exact List.nil_sublist _ | refine .cons_cons _ ?_ | refine .cons _ ?_)), ?_⟩
       refine t_eff rfl (e_bsl (xs := [.tmp 127]) (vals := [.slice A5 (rowL (i * 4)).length c5]) (vs := [.slice A5 (rowL (i * 4)).length c5]) (w_none rfl) rfl rfl rfl rfl rfl rfl tu32 ts35 ty35 rfl rfl rfl H ?_)
       clear H; intro g31_10 W H
       refine ⟨_, fun _ h => h, H.sub (by repeat (first | exact .refl _ | exact List.nil_sublist _ | refine .cons_cons _ ?_ | refine .cons _ ?_)), ?_⟩
       refine t_eff rfl (e_app (w_none rfl) rfl rfl tu32 tx35 rfl rfl rfl H (rd_blk (m := 1) H.blk rfl) (rfl) (by omega) rfl ?_)
       clear H; intro A8 c8 W hc8 hd8 H
       replace H := H.drop
       refine ⟨_, fun _ h => h, H.sub (by repeat (first | exact .refl _ | exact List.nil_sublist _ | refine .cons_cons _ ?_ | refine .cons _ ?_)), ?_⟩
       refine t_run rfl (w_none rfl) rfl (fun W H => d_iaP (q := 0) rfl rfl rfl rfl (by decide) tu23 ts34) ?_
       refine t_run rfl (w_none rfl) rfl (fun W H => d_fa rfl rfl tf34_1) (t_eff rfl (e_stoG (v := .slice A8 (k + 1) c8) (k := 33) (s := 34) (e := 34) (m := 2) (c := c7) (w_none rfl) rfl rfl rfl (by omega) rfl rfl ts32 rfl H (by omega) ?_))
       clear H; intro W H
       refine ⟨_, fun _ h => h, H.sub (by repeat (first | exact .refl _ | exact List.nil_sublist _ | refine .cons_cons _ ?_ | refine .cons _ ?_)), ?_⟩
       refine t_nil (k_nil (n_then ?_))
       replace H := H.torb rfl
       replace H := (St.elsnoc (H.perm (.cons _ (.swap _ _ _))) rfl).perm (.swap _ _ _)
       rw [Tk.w_set rfl] at H
       refine ⟨_, _, rfl, ?_, ?_, ⟨A8, c8, _, _, rfl, ⟨hc8, hd8⟩, H⟩⟩
       ·repeat (first | with_reducible exact .refl | (with_reducible refine .updl _ (.ovr2 ?_ ?_) ?_); rotate_left; exact rfl; exact rfl | (with_reducible refine .upd ?_ ?_); rotate_left; exact rfl)
       ·exact trivial
      refine t_each ?_ ?_
      ·skip
       refine t_eff rfl (e_bsl (xs := [.tmp 127]) (vals := [.slice A5 (rowL (i * 4)).length c5]) (vs := [.slice A5 (rowL (i * 4)).length c5]) (w_none rfl) rfl rfl rfl rfl rfl rfl tu32 ts35 ty35 rfl rfl rfl H ?_)
       clear H; intro g31_10 W H
       refine ⟨_, fun _ h => h, H.sub (by repeat (first | exact .refl _ | exact List.nil_sublist _ | refine .cons_cons _ ?_ | refine .cons _ ?_)), ?_⟩
       refine t_eff rfl (e_run (w_none rfl) rfl (d_ldE (q := 0) (off := 33) rfl (H.rowrd (A := (some ⟨g7, 0, none⟩))) (by decide) (Tk.w_sub rfl) (sub_in_w rfl) rfl rfl (by omega) ta32) ?_)
       refine ⟨_, fun _ h => h, H.sub (by repeat (first | exact .refl _ | exact List.nil_sublist _ | refine .cons_cons _ ?_ | refine .cons _ ?_)), ?_⟩
       refine t_eff rfl (e_app (w_none rfl) rfl rfl tu32 tx35 rfl rfl rfl H (rd_blk (m := 1) H.blk rfl) (rfl) (by omega) rfl ?_)
       clear H; intro A8 c8 W hc8 hd8 H
       replace H := H.drop
       refine ⟨_, fun _ h => h, H.sub (by repeat (first | exact .refl _ | exact List.nil_sublist _ | refine .cons_cons _ ?_ | refine .cons _ ?_)), ?_⟩
       refine t_run rfl (w_none rfl) rfl (fun W H => d_iaP (q := 0) rfl rfl rfl rfl (by decide) tu23 ts34) ?_
       refine t_run rfl (w_none rfl) rfl (fun W H => d_fa rfl rfl tf34_1) (t_eff rfl (e_stoG (v := .slice A8 (k + 1) c8) (k := 33) (s := 34) (e := 34) (m := 2) (c := c7) (w_none rfl) rfl rfl rfl (by omega) rfl rfl ts32 rfl H (by omega) ?_))
       clear H; intro W H
       refine ⟨_, fun _ h => h, H.sub (by repeat (first | exact .refl _ | exact List.nil_sublist _ | refine .cons_cons _ ?_ | refine .cons _ ?_)), ?_⟩
       refine t_nil (k_nil (n_then ?_))
       replace H := H.torb rfl
       replace H := (St.elsnoc (H.perm (.cons _ (.swap _ _ _))) rfl).perm (.swap _ _ _)
       rw [Tk.w_set rfl] at H
       refine ⟨_, _, rfl, ?_, ?_, ⟨A8, c8, _, _, rfl, ⟨hc8, hd8⟩, H⟩⟩
       ·repeat (first | with_reducible exact .refl | (with_reducible refine .updl _ (.ovr2 ?_ ?_) ?_); rotate_left; exact rfl; exact rfl | (with_reducible refine .upd ?_ ?_); rotate_left; exact rfl)
       ·exact trivial
      exact t_none
     exact t_none
    clear H; obtain ⟨A8, c8, zs8, S8, rfl, hd8, H⟩ := hJ
    refine k_nil (b_end (k_region (sMi rfl rfl rfl rfl (sR rfl rfl (d_add rfl rfl rfl (by omega)) (sAi rfl rfl rfl rfl (l_nil (k_nil (k_next ?_))))))))
    refine ⟨_, _, _, ?_, rfl, ?_, ?_, ⟨k + 1, (ps.set k ⟨p.tx, (k : Int) % 9⟩), A8, c8, zs8, S8, (ws ++ [rowL (i * 4)]), rfl, rfl, by omega, (by rw [List.length_set]; exact hpl), (Tk.ok_set hps hp hz9), (by rw [List.length_append, hwl]; rfl), (Tk.all_snoc hwb (by rw [rowL_len]; omega)), hd8, H⟩⟩
    ·omega
    ·repeat (first | (with_reducible refine .updl _ .ovr ?_); exact rfl | (with_reducible refine .updl _ (.ovr2 ?_ ?_) ?_); rotate_left; exact rfl; exact rfl | (with_reducible refine .upd ?_ ?_); rotate_left; exact rfl)
    ·refine ⟨?_, trivial⟩
     ·exact vi (by omega)
   ·obtain rfl : i = k := by simp at hc107; omega
    refine k_exit (x_then (x_then ?_))
    refine x_hit (k_seq (k_draw [(0, true), (1, true), (2, true), (3, true), (4, false), (5, true), (6, true), (7, false)] [Fact.blk gu (txC (some ⟨g7, 0, none⟩) 2 c7 (some ⟨g2, 0, none⟩) 1 1 0) 26] (by kernel_rfl) (by kernel_rfl) H (by repeat (first | exact .refl _ | exact List.nil_sublist _ | refine .cons_cons _ ?_ | refine .cons _ ?_)) ?_))
    clear H; intro W H
    refine cR rfl rfl rfl (fun W H => d_fa rfl rfl tf26_1) (cR rfl rfl rfl (fun W H => d_ldX (g := gu) (off := 1) rfl H rfl rfl rfl ta24) (cR rfl rfl rfl (fun W H => mv_i rfl rfl) (cR rfl rfl rfl (fun W H => d_add rfl rfl rfl (by omega)) (c_eff rfl (e_call (w_none rfl) rfl rfl Tryz.func8 rfl rfl rfl (row_any (240 + i) _ _ (by omega) (by omega)) ?_)))))
    rintro _ W ⟨A6, c6, rfl, hc6, hd6, hn⟩
    replace H := H.new hn
    clear hn
    refine ⟨H.sub (by repeat (first | exact .refl _ | exact List.nil_sublist _ | refine .cons_cons _ ?_ | refine .cons _ ?_)), ?_⟩
    refine cR rfl rfl rfl (fun W H => d_iaP (q := 0) rfl rfl rfl rfl (by decide) tu24 ts37) ?_
    refine cR rfl rfl rfl (fun W H => d_fa rfl rfl tf37_1) (c_eff rfl (e_stoG (v := .slice A6 (rowL (240 + i)).length c6) (k := 1) (s := 2) (e := 37) (m := 1) (c := 1) (w_none rfl) rfl rfl rfl (by omega) rfl rfl ts35 rfl H (by omega) ?_))
    clear H; intro W H
    refine ⟨H.sub (by repeat (first | exact .refl _ | exact List.nil_sublist _ | refine .cons_cons _ ?_ | refine .cons _ ?_)), ?_⟩
    refine c_nil ?_
    replace H : St nT w W [Fact.row 5 1 (.slice A6 (rowL (240 + i)).length c6) (rowL (240 + i)).length ((rowL (240 + i)).map u8v), Fact.row 35 1 (.slice A9 i c9) i (zs), Fact.els RB 1 S9 zs ws, Fact.blk gu (txC (some ⟨g7, 0, none⟩) 2 c7 (some ⟨g2, 0, none⟩) 1 1 0) 26, Fact.row 34 34 (.slice (some ⟨g7, 0, none⟩) 2 c7) 2 (inC Tx.smallP A9 i c9 ++ inC ⟨Tx.smallP.tx, (i : Int)⟩ none 0 0), Fact.row 37 2 (.slice (some ⟨g2, 0, none⟩) 1 1) 1 (outC 5 A6 (rowL (240 + i)).length c6), Fact.blk gs (txC (some ⟨g3, 0, none⟩) i i (some ⟨g4, 0, none⟩) (20 - i) (20 - i) 0) 26, Fact.row 34 34 (.slice (some ⟨g3, 0, none⟩) i i) i (Tk.insZ ps), Fact.row 37 2 (.slice (some ⟨g4, 0, none⟩) (20 - i) (20 - i)) (20 - i) (Tk.outsZ (List.replicate (20 - i) 0))] := H
    refine k_seq (k_region (sR rfl rfl (d_ldXM (g := gs) (off := 0) rfl H (sub_all (a := txC (some ⟨g3, 0, none⟩) i i (some ⟨g4, 0, none⟩) (20 - i) (20 - i) 0) (m := 3) rfl) rfl rfl rfl rfl ta26 ts26) (sC rfl rfl rfl Tryz.func5 rfl rfl rfl (txPuts (t := (Tk.flatT ps (List.replicate (20 - i) 0) 0)) _ (H.gat hG) (H.gl hB) (Tk.flat_tx (eI := 34) (eO := 37) H hpl List.length_replicate hps (Tk.all_rep ⟨by decide, by decide⟩) ⟨by decide, by decide⟩) Tk.szd_flat) ?_)))
    rintro _ W ⟨rfl, hb⟩
    replace H := H.below hb
    clear hb
    refine sR rfl rfl (d_not rfl rfl) (sR rfl rfl (mv_bx (c := false) rfl rfl (rfl)) (s_run (w_g rfl rfl rfl rfl) rfl (d_ldXM (g := gu) (off := 0) rfl H (sub_all (a := txC (some ⟨g7, 0, none⟩) 2 c7 (some ⟨g2, 0, none⟩) 1 1 0) (m := 3) rfl) rfl rfl rfl rfl ta26 ts26) (s_eff (e_call (w_g rfl rfl rfl rfl) rfl rfl Tryz.func5 rfl rfl rfl (txPuts (t := (Tk.uT Tx.smallP ⟨Tx.smallP.tx, (i : Int)⟩ ws (rowL (240 + i)))) _ (H.gat hG) (H.gl hB) (Tk.u_tx (eI := 34) (eO := 37) (eW := 35) (eB := 5) (zs := zs) (S9 := S9) H hwl rfl ⟨rfl, by decide, by decide⟩ ⟨rfl, by show (-9223372036854775808 : Int) ≤ (i : Int); omega, by show (i : Int) ≤ 9223372036854775807; omega⟩) (Tk.szd_u hwb (by rw [rowL_len]; omega))) ?_))))
    rintro _ W ⟨rfl, hb⟩
    replace H := H.below hb
    clear hb
    refine s_run (w_g rfl rfl rfl rfl) rfl (d_not rfl rfl) (sR rfl rfl (d_pickF rfl rfl rfl) (sR rfl rfl (mv_bx (c := false) rfl rfl (rfl)) (s_run (w_g rfl rfl rfl rfl) rfl (d_ldXM (g := gu) (off := 0) rfl H (sub_all (a := txC (some ⟨g7, 0, none⟩) 2 c7 (some ⟨g2, 0, none⟩) 1 1 0) (m := 3) rfl) rfl rfl rfl rfl ta26 ts26) (s_eff (e_call (w_g rfl rfl rfl rfl) rfl rfl Tryz.func7 rfl rfl rfl (txBare (ct := 0) (t := (Tk.uT Tx.smallP ⟨Tx.smallP.tx, (i : Int)⟩ ws (rowL (240 + i)))) _ (H.gat hG) (H.gl hB) (Tk.u_tx (eI := 34) (eO := 37) (eW := 35) (eB := 5) (zs := zs) (S9 := S9) H hwl rfl ⟨rfl, by decide, by decide⟩ ⟨rfl, by show (-9223372036854775808 : Int) ≤ (i : Int); omega, by show (i : Int) ≤ 9223372036854775807; omega⟩) (Tk.szd_u hwb (by rw [rowL_len]; omega))) ?_)))))
    rintro _ W ⟨rfl, hb⟩
    replace H := H.below hb
    clear hb
    refine s_run (w_g rfl rfl rfl rfl) rfl (d_not rfl rfl) (sR rfl rfl (d_pickF rfl rfl rfl) (l_nil (k_condF rfl rfl (k_skip (k_nil (b_end (k_region (sMi rfl rfl rfl rfl (sR rfl rfl (d_add rfl rfl rfl (by omega)) (sAi rfl rfl rfl rfl ?_))))))))))
    refine l_nil (k_nil (k_next ?_))
    refine ⟨_, _, _, ?_, rfl, ?_, ?_, ⟨i + 1, rfl, rfl, by omega, (H.sub (List.nil_sublist _))⟩⟩
    ·omega
    ·repeat (first | (with_reducible refine .updl _ .ovr ?_); exact rfl | (with_reducible refine .updl _ (.ovr2 ?_ ?_) ?_); rotate_left; exact rfl; exact rfl | (with_reducible refine .upd ?_ ?_); rotate_left; exact rfl)
    ·refine ⟨?_, trivial⟩
     ·exact vi (by omega)
  ·skip
   refine k_exit (x_then (x_then ?_))
   refine x_hit (k_seq (k_region (sC rfl rfl rfl Tryz.func4 rfl rfl rfl (smallC _) ?_)))
   rintro _ W ⟨g1, g2, rfl, hn_⟩
   replace H := H.add2 hn_
   clear hn_
   refine s_eff (e_alloc (w_none rfl) rfl rfl [.slice none 0 0, .slice none 0 0, .int .i64 0] tz26 H ?_)
   clear H; intro gv W H
   refine s_eff (e_stoK (txC (some ⟨g1, 0, none⟩) 1 1 (some ⟨g2, 0, none⟩) 1 1 0) (w_none rfl) rfl rfl rfl rfl rfl ts26 rfl rfl H (by decide) rfl ?_)
   clear H; intro W H
   refine l_nil (k_seq (k_region (sR rfl rfl (d_fa rfl rfl tf26_0) (sR rfl rfl (d_ldX (g := gv) (off := 0) rfl H rfl rfl rfl ta23) (s_eff (e_bsl (xs := [.const (.int .u8 1), .const (.int .u8 2)]) (vals := [.int .u8 _, .int .u8 _]) (vs := [.int .u8 _, .int .u8 _]) (w_none rfl) rfl rfl rfl rfl rfl rfl tu35 ts5 ty5 rfl rfl rfl H ?_))))))
   clear H; intro h1 W H
   refine s_eff (e_bsl (xs := [.tmp 155, .const (.slice none 0 0)]) (vals := [.slice _ _ _, .slice _ _ _]) (vs := [.slice _ _ _, .slice _ _ _]) (w_none rfl) rfl rfl rfl rfl rfl rfl tu32 ts35 ty35 rfl rfl rfl H ?_)
   clear H; intro h2 W H
   refine sR rfl rfl (d_iaP (q := 0) rfl rfl rfl rfl (by decide) tu23 ts34) ?_
   refine sR rfl rfl (d_fa rfl rfl tf34_1) (s_eff (e_stoG (v := .slice (some ⟨h2, 0, none⟩) 2 2) (k := 33) (s := 34) (e := 34) (m := 1) (c := 1) (w_none rfl) rfl rfl rfl (by omega) rfl rfl ts32 rfl H (by omega) ?_))
   clear H; intro W H
   refine l_nil ?_
   rw [set_in_w rfl] at H
   replace H : St nT w W [Fact.blk h2 [.slice (some ⟨h1, 0, none⟩) 2 2, .slice none 0 0] 35, Fact.blk h1 (([1, 2] : List UInt8).map u8v) 5, Fact.blk gv (txC (some ⟨g1, 0, none⟩) 1 1 (some ⟨g2, 0, none⟩) 1 1 0) 26, Fact.row 34 34 (.slice (some ⟨g1, 0, none⟩) 1 1) 1 (inC Tx.smallP (some ⟨h2, 0, none⟩) 2 2), Fact.row 37 2 (.slice (some ⟨g2, 0, none⟩) 1 1) 1 (outC 5 none 0 0)] := H
   refine k_seq (k_region (sR rfl rfl (d_ldXM (g := gv) (off := 0) rfl H (sub_all (a := txC (some ⟨g1, 0, none⟩) 1 1 (some ⟨g2, 0, none⟩) 1 1 0) (m := 3) rfl) rfl rfl rfl rfl ta26 ts26) (sC rfl rfl rfl Tryz.func9 rfl rfl rfl (putTP (t := (Tk.wT Tx.smallP [1, 2])) _ (Tk.w_tx (A := some ⟨g1, 0, none⟩) (B := some ⟨g2, 0, none⟩) (c := 1) (d := 1) (g1 := h1) (g2 := h2) (b := [1, 2]) (eI := 34) (eO := 37) (eW := 35) (eB := 5) H rfl (by decide) ⟨rfl, by decide, by decide⟩) (H.gat hG)) ?_)))
   rintro _ W ⟨_, rfl, A6, c6, rfl, hc6, hd6, hn⟩
   replace H := H.new hn
   clear hn
   refine sR rfl rfl (mv_t rfl rfl) (sR rfl rfl (d_ext rfl rfl rfl) (sR rfl rfl (d_ext rfl rfl rfl) (sAs rfl rfl rfl rfl (sAi rfl rfl rfl rfl (l_nil ?_)))))
   have hl6 := Tx.len_put (tx_ok (t := (Tk.wT Tx.smallP [1, 2])) (Tk.w_tx (A := some ⟨g1, 0, none⟩) (B := some ⟨g2, 0, none⟩) (c := 1) (d := 1) (g1 := h1) (g2 := h2) (b := [1, 2]) (eI := 34) (eO := 37) (eW := 35) (eB := 5) H rfl (by decide) ⟨rfl, by decide, by decide⟩))
   refine k_seq (k_seq (k_region (sAi rfl rfl rfl rfl (l_nil (k_block (k_loop 164 [0, 12, 13, 14] (fun mm sl W => ∃ i : Nat, (Tx.put (Tk.wT Tx.smallP [1, 2])).length - i = mm ∧ sl = [(12, .int .i64 (i : Int))] ∧ (i ≤ (Tx.put (Tk.wT Tx.smallP [1, 2])).length) ∧ St nT w W [Fact.row 5 1 (.slice A6 (Tx.put (Tk.wT Tx.smallP [1, 2])).length c6) (Tx.put (Tk.wT Tx.smallP [1, 2])).length ((Tx.put (Tk.wT Tx.smallP [1, 2])).map u8v), Fact.blk h2 [.slice (some ⟨h1, 0, none⟩) 2 2, .slice none 0 0] 35, Fact.blk h1 (([1, 2] : List UInt8).map u8v) 5, Fact.blk gv (txC (some ⟨g1, 0, none⟩) 1 1 (some ⟨g2, 0, none⟩) 1 1 0) 26, Fact.row 34 34 (.slice (some ⟨g1, 0, none⟩) 1 1) 1 (inC Tx.smallP (some ⟨h2, 0, none⟩) 2 2), Fact.row 37 2 (.slice (some ⟨g2, 0, none⟩) 1 1) 1 (outC 5 none 0 0)]) _ _ ⟨0, rfl, rfl, Nat.zero_le _, H⟩ ⟨rfl, trivial⟩ (fun mm sl ρv W hJ => ?_)))))))
   clear H; obtain ⟨i, rfl, rfl, hi, H⟩ := hJ
   refine k_one (k_seq (k_seq (k_region (sMi rfl rfl rfl rfl (sMs rfl rfl rfl rfl (sR rfl rfl (d_len rfl rfl tu35) (sR rfl rfl (d_lt rfl rfl rfl) (l_nil (k_cond rfl (fun hc167 => ?_) (fun hc167 => ?_))))))))))
   ·have hil : i < (Tx.put (Tk.wT Tx.smallP [1, 2])).length := by simp at hc167; omega
    refine k_skip (k_seq (k_block (k_seq (k_region (sMs rfl rfl rfl rfl (sC rfl rfl rfl Tryz.func10 rfl rfl rfl (copyBytes _ _ _ (H.rowbs (A := A6) rfl) (by omega)) ?_))))))
    rintro _ W ⟨A10, c10, rfl, hc10, hd10, hn⟩
    replace H := H.new hn
    clear hn
    refine sAs rfl rfl rfl rfl (l_nil (k_seq (k_region (sMs rfl rfl rfl rfl (sMi rfl rfl rfl rfl (sMs rfl rfl rfl rfl (sMi rfl rfl rfl rfl (sR rfl rfl (d_iaB rfl (H.rowrd (A := A10)) rfl rfl (q := i) rfl (by omega) tu35 ts5) (sR rfl rfl (d_ldB rfl (H.rowrd (A := A10)) (l_get (k := i) (by omega)) rfl ta5) (sR rfl rfl (d_bitW rfl rfl rfl Tk.xor1) ?_))))))))))
    refine sR rfl rfl (d_iaB rfl (H.rowrd (A := A10)) rfl rfl (q := i) rfl (by omega) tu35 ts5) (s_eff (e_stoR (e := 5) (A := A10) (m := (Tx.put (Tk.wT Tx.smallP [1, 2])).length) (c := c10) (q := 0) (k := i) (w_none rfl) rfl rfl rfl rfl Tk.add0 rfl ts5 rfl H (by omega) ?_))
    clear H; intro W H
    obtain ⟨l2, hl2, hm2⟩ : ∃ l2 : List UInt8, l2.length = (Tx.put (Tk.wT Tx.smallP [1, 2])).length ∧ ((Tx.put (Tk.wT Tx.smallP [1, 2])).map u8v).set (0 + i) (u8v ((Tx.put (Tk.wT Tx.smallP [1, 2])).getD i 0 ^^^ 1)) = l2.map u8v := ⟨(Tx.put (Tk.wT Tx.smallP [1, 2])).set i ((Tx.put (Tk.wT Tx.smallP [1, 2])).getD i 0 ^^^ 1), by simp, by rw [List.map_set, Nat.zero_add]⟩
    replace H : St nT w W [Fact.row 5 1 (.slice A10 (Tx.put (Tk.wT Tx.smallP [1, 2])).length c10) (Tx.put (Tk.wT Tx.smallP [1, 2])).length (((Tx.put (Tk.wT Tx.smallP [1, 2])).map u8v).set (0 + i) (u8v ((Tx.put (Tk.wT Tx.smallP [1, 2])).getD i 0 ^^^ 1))), Fact.row 5 1 (.slice A6 (Tx.put (Tk.wT Tx.smallP [1, 2])).length c6) (Tx.put (Tk.wT Tx.smallP [1, 2])).length ((Tx.put (Tk.wT Tx.smallP [1, 2])).map u8v), Fact.blk h2 [.slice (some ⟨h1, 0, none⟩) 2 2, .slice none 0 0] 35, Fact.blk h1 (([1, 2] : List UInt8).map u8v) 5, Fact.blk gv (txC (some ⟨g1, 0, none⟩) 1 1 (some ⟨g2, 0, none⟩) 1 1 0) 26, Fact.row 34 34 (.slice (some ⟨g1, 0, none⟩) 1 1) 1 (inC Tx.smallP (some ⟨h2, 0, none⟩) 2 2), Fact.row 37 2 (.slice (some ⟨g2, 0, none⟩) 1 1) 1 (outC 5 none 0 0)] := H
    rw [hm2] at H
    refine l_nil (k_seq (k_region (sMs rfl rfl rfl rfl (sC rfl rfl rfl Tryz.func10 rfl rfl rfl (copyBytes _ _ _ (H.rowbs (A := A6) rfl) (by omega)) ?_))))
    rintro _ W ⟨A11, c11, rfl, hc11, hd11, hn⟩
    replace H := H.new hn
    clear hn
    refine sAs rfl rfl rfl rfl (l_nil (k_seq (k_region (sMs rfl rfl rfl rfl (sMi rfl rfl rfl rfl (sR rfl rfl (d_iaB rfl (H.rowrd (A := A11)) rfl rfl (q := i) rfl (by omega) tu35 ts5) (s_eff (e_stoR (e := 5) (A := A11) (m := (Tx.put (Tk.wT Tx.smallP [1, 2])).length) (c := c11) (q := 0) (k := i) (w_none rfl) rfl rfl rfl rfl Tk.add0 rfl ts5 rfl H (by omega) ?_))))))))
    clear H; intro W H
    obtain ⟨l3, hl3, hm3⟩ : ∃ l2 : List UInt8, l2.length = (Tx.put (Tk.wT Tx.smallP [1, 2])).length ∧ ((Tx.put (Tk.wT Tx.smallP [1, 2])).map u8v).set (0 + i) (u8v ((253 : UInt8))) = l2.map u8v := ⟨(Tx.put (Tk.wT Tx.smallP [1, 2])).set i ((253 : UInt8)), by simp, by rw [List.map_set, Nat.zero_add]⟩
    replace H : St nT w W [Fact.row 5 1 (.slice A11 (Tx.put (Tk.wT Tx.smallP [1, 2])).length c11) (Tx.put (Tk.wT Tx.smallP [1, 2])).length (((Tx.put (Tk.wT Tx.smallP [1, 2])).map u8v).set (0 + i) (u8v ((253 : UInt8)))), Fact.row 5 1 (.slice A10 (Tx.put (Tk.wT Tx.smallP [1, 2])).length c10) (Tx.put (Tk.wT Tx.smallP [1, 2])).length (l2.map u8v), Fact.row 5 1 (.slice A6 (Tx.put (Tk.wT Tx.smallP [1, 2])).length c6) (Tx.put (Tk.wT Tx.smallP [1, 2])).length ((Tx.put (Tk.wT Tx.smallP [1, 2])).map u8v), Fact.blk h2 [.slice (some ⟨h1, 0, none⟩) 2 2, .slice none 0 0] 35, Fact.blk h1 (([1, 2] : List UInt8).map u8v) 5, Fact.blk gv (txC (some ⟨g1, 0, none⟩) 1 1 (some ⟨g2, 0, none⟩) 1 1 0) 26, Fact.row 34 34 (.slice (some ⟨g1, 0, none⟩) 1 1) 1 (inC Tx.smallP (some ⟨h2, 0, none⟩) 2 2), Fact.row 37 2 (.slice (some ⟨g2, 0, none⟩) 1 1) 1 (outC 5 none 0 0)] := H
    rw [hm3] at H
    refine l_nil (k_seq (k_region (sMs rfl rfl rfl rfl (sC rfl rfl rfl Tryz.func11 rfl rfl rfl (txGets (b := l2) _ (H.gat hG) (H.gl hB) (H.rowbs (A := A10) hl2)) ?_))))
    rintro _ W ⟨rfl, hb⟩
    replace H := H.below hb
    clear hb
    refine sR rfl rfl (d_not rfl rfl) (sR rfl rfl (mv_bx (c := false) rfl rfl (rfl)) (s_run (w_g rfl rfl rfl rfl) rfl (mv_s rfl rfl) (s_eff (e_call (w_g rfl rfl rfl rfl) rfl rfl Tryz.func11 rfl rfl rfl (txGets (b := l3) _ (H.gat hG) (H.gl hB) (H.rowbs (A := A11) hl3)) ?_))))
    rintro _ W ⟨rfl, hb⟩
    replace H := H.below hb
    clear hb
    refine s_run (w_g rfl rfl rfl rfl) rfl (d_not rfl rfl) (sR rfl rfl (d_pickF rfl rfl rfl) (sR rfl rfl (mv_bx (c := false) rfl rfl (rfl)) (s_run (w_g rfl rfl rfl rfl) rfl (mv_s rfl rfl) (s_run (w_g rfl rfl rfl rfl) rfl (mv_i rfl rfl) (s_run (w_g rfl rfl rfl rfl) rfl (d_cutP rfl rfl (h := i) rfl (by omega) rfl tu35 ts5) (s_eff (e_call (w_g rfl rfl rfl rfl) rfl rfl Tryz.func11 rfl rfl rfl (txGets (b := (Tx.put (Tk.wT Tx.smallP [1, 2])).take i) _ (H.gat hG) (H.gl hB) (Bs.first (h := i) (H.rowbs (A := A6) rfl) rfl (by omega))) ?_)))))))
    rintro _ W ⟨rfl, hb⟩
    replace H := H.below hb
    clear hb
    refine s_run (w_g rfl rfl rfl rfl) rfl (d_not rfl rfl) (sR rfl rfl (d_pickF rfl rfl rfl) (sR rfl rfl (mv_bx (c := false) rfl rfl (rfl)) (s_run (w_g rfl rfl rfl rfl) rfl (d_ldXM (g := gv) (off := 0) rfl H (sub_all (a := txC (some ⟨g1, 0, none⟩) 1 1 (some ⟨g2, 0, none⟩) 1 1 0) (m := 3) rfl) rfl rfl rfl rfl ta26 ts26) (s_run (w_g rfl rfl rfl rfl) rfl (mv_i rfl rfl) (s_eff (e_bsl (xs := [.const (.int .u8 0)]) (vals := [.int .u8 _]) (vs := [.int .u8 _]) (w_g rfl rfl rfl rfl) rfl rfl rfl rfl rfl rfl tu35 ts5 ty5 rfl rfl rfl H ?_))))))
    clear H; intro g12 W H
    refine s_eff (e_call (w_g rfl rfl rfl rfl) rfl rfl Tryz.func12 rfl rfl rfl (txCut (S1 := (· = g12)) (ct := (i : Int)) (m := [0]) (t := (Tk.wT Tx.smallP [1, 2])) _ (H.gat hG) (H.gl hB) (Tk.w_tx (A := some ⟨g1, 0, none⟩) (B := some ⟨g2, 0, none⟩) (c := 1) (d := 1) (g1 := h1) (g2 := h2) (b := [1, 2]) (eI := 34) (eO := 37) (eW := 35) (eB := 5) H rfl (by decide) ⟨rfl, by decide, by decide⟩) (Tk.szd_w (by decide)) (Bs.mk (S := (· = g12)) (l := [0]) (rd_blk H.blk rfl) (by decide) (by decide))) ?_)
    rintro _ W ⟨rfl, hb⟩
    replace H := H.below hb
    clear hb
    refine s_run (w_g rfl rfl rfl rfl) rfl (d_not rfl rfl) (sR rfl rfl (d_pickF rfl rfl rfl) (l_nil (k_condF rfl rfl (k_skip (k_nil (b_end (k_region (sMi rfl rfl rfl rfl (sR rfl rfl (d_add rfl rfl rfl (by omega)) (sAi rfl rfl rfl rfl ?_))))))))))
    refine l_nil (k_nil (k_next ?_))
    refine ⟨_, _, _, ?_, rfl, ?_, ?_, ⟨i + 1, rfl, rfl, by omega, H.sub (by repeat (first | exact .refl _ | exact List.nil_sublist _ | refine .cons_cons _ ?_ | refine .cons _ ?_))⟩⟩
    ·omega
    ·repeat (first | (with_reducible refine .updl _ .ovr ?_); exact rfl | (with_reducible refine .updl _ (.ovr2 ?_ ?_) ?_); rotate_left; exact rfl; exact rfl | (with_reducible refine .upd ?_ ?_); rotate_left; exact rfl)
    ·refine ⟨?_, trivial⟩
     ·exact vi (by omega)
   ·skip
    refine k_exit (x_then (x_then ?_))
    refine x_hit (k_seq (k_region (sR rfl rfl (d_ldXM (g := gv) (off := 0) rfl H (sub_all (a := txC (some ⟨g1, 0, none⟩) 1 1 (some ⟨g2, 0, none⟩) 1 1 0) (m := 3) rfl) rfl rfl rfl rfl ta26 ts26) (sC rfl rfl rfl Tryz.func12 rfl rfl rfl (txCut (S1 := nT) (u := .slice none 0 0) (ct := 0) (m := []) (t := (Tk.wT Tx.smallP [1, 2])) _ (H.gat hG) (H.gl hB) (Tk.w_tx (A := some ⟨g1, 0, none⟩) (B := some ⟨g2, 0, none⟩) (c := 1) (d := 1) (g1 := h1) (g2 := h2) (b := [1, 2]) (eI := 34) (eO := 37) (eW := 35) (eB := 5) H rfl (by decide) ⟨rfl, by decide, by decide⟩) (Tk.szd_w (by decide)) Bs.nil) ?_))))
    rintro _ W ⟨rfl, hb⟩
    replace H := H.below hb
    clear hb
    refine sR rfl rfl (mv_bx (c := true) rfl rfl (rfl)) (s_eff (e_call (w_g rfl rfl rfl rfl) rfl rfl Tryz.func13 rfl rfl rfl (works07 _ (H.gat hG) (H.gl hB)) ?_))
    rintro _ W ⟨rfl, hb⟩
    replace H := H.below hb
    clear hb
    refine sR rfl rfl (d_pickT rfl rfl rfl) (sAb rfl rfl rfl rfl (l_nil (k_ret ?_)))
    repeat (first | refine r_then ?_ | refine r_blk ?_)
    exact q_ret (v := .bool _) rfl rfl ⟨_, rfl, rfl, H.under⟩
end Go.Proofs.YteakkflhndifbaaGreatDoor
