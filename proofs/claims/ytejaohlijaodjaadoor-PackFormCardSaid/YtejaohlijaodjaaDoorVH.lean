/- The program's reader: what is left of a row of bytes, and an error. No program stands in this text. -/
import Derived.Test.YtejaohlijaodjaaDoorVG
namespace Go.Proofs.YtejaohlijaodjaaDoor
open Go Go.RowKit

/-- What is left begins at o. -/
def LeftP (A0 : Option Addr) (n0 c0 : Nat) (A : Option Addr) (c o : Nat) (ys : List UInt8) (s : RS) : Prop :=
  ys.length = n0 ∧ o ≤ n0 ∧ s.1.length ≤ c ∧ c ≤ 9223372036854775807 ∧ (s.2 = 0 → s.1 = ys.drop o ∧ c + o = c0 ∧ (0 < s.1.length → A = A0.map (·.add o))) ∧ (s.2 ≠ 0 → s.1 = [])
/-- v reads as b, of what is taken. -/
def HeldP (A0 : Option Addr) (o : Nat) (ys : List UInt8) (v : Value) (b : List UInt8) : Prop :=
  ∃ B cb q, v = .slice B b.length cb ∧ b.length ≤ cb ∧ cb ≤ 9223372036854775807 ∧ (0 < b.length → B = A0.map (·.add q)) ∧ q + b.length ≤ o ∧ (ys.drop q).take b.length = b
def RdT (r : Nat) (A0 : Option Addr) (n0 c0 : Nat) (g : Nat) : Prop := g = r ∨ (Value.slice A0 n0 c0).ownBlock = some g
/-- Block r holds the program's reader in state s; Y: what is known of all its bytes. -/
def RdYB (u t r : Nat) (A0 : Option Addr) (n0 c0 : Nat) (Y : List UInt8 → Prop) (v : Value) (b : List UInt8) (s : RS) : Fact :=
  ⟨RdT r A0 n0 c0, fun W => ∃ (A : Option Addr) (c o : Nat) (ys : List UInt8), W.heap[r]? = some (.cells [.slice A s.1.length c, .int .i64 s.2].toArray t (0, 0)) ∧ W.ownsRow 0 u 1 (.slice A0 n0 c0) n0 (ys.map u8v) ∧ ¬ (Value.slice A0 n0 c0).ownBlock = some r ∧ LeftP A0 n0 c0 A c o ys s ∧ HeldP A0 o ys v b ∧ Y ys,
    fun _ _ h k => by
      obtain ⟨A, c, o, ys, h1, h2, h3⟩ := h
      exact ⟨A, c, o, ys, (k r (.inl rfl)).trans h1, ownsRow_keep h2 (fun g hg => k g (.inr hg)), h3⟩⟩
abbrev RdYP (u t r : Nat) (A0 : Option Addr) (n0 c0 : Nat) (Y : List UInt8 → Prop) (s : RS) : Fact := RdYB u t r A0 n0 c0 Y (.slice none 0 0) [] s
abbrev RdB (u t r : Nat) (A0 : Option Addr) (n0 c0 : Nat) (v : Value) (b : List UInt8) (s : RS) : Fact := RdYB u t r A0 n0 c0 (fun _ => True) v b s
abbrev RdP (u t r : Nat) (A0 : Option Addr) (n0 c0 : Nat) (s : RS) : Fact := RdB u t r A0 n0 c0 (.slice none 0 0) [] s
theorem held_nil {A0 : Option Addr} {o : Nat} {ys : List UInt8} : HeldP A0 o ys (.slice none 0 0) [] := ⟨none, 0, 0, rfl, Nat.le_refl _, by omega, fun h => absurd h (by decide), by simp, by simp⟩
section
variable {T : Nat → Prop} {w w0 W W' : World} {L : List Fact} {u t r n0 c0 : Nat} {A0 A : Option Addr} {v : Value} {b : List UInt8} {s : RS} {Y : List UInt8 → Prop}
theorem RdB.toP (h : (RdYB u t r A0 n0 c0 Y v b s).p W) : (RdYP u t r A0 n0 c0 Y s).p W := by
  obtain ⟨A, c, o, ys, h1, h2, h3, h4, _, h5⟩ := h
  exact ⟨A, c, o, ys, h1, h2, h3, h4, held_nil, h5⟩
theorem RdB.lt (h : (RdYB u t r A0 n0 c0 Y v b s).p W) : ∀ g, RdT r A0 n0 c0 g → g < W.heap.size := by
  obtain ⟨A, c, o, ys, h1, h2, _⟩ := h
  rintro g (rfl | hg)
  · exact blk_lt h1
  · exact (World.ownsRow.lt h2 g hg).2
/-- The fact as two: the reader's block and the row. -/
theorem RdB.two (h : (RdYB u t r A0 n0 c0 Y v b s).p W) : ∃ (A : Option Addr) (c o : Nat) (ys : List UInt8), Y ys ∧ LeftP A0 n0 c0 A c o ys s ∧ HeldP A0 o ys v b ∧ n0 ≤ c0 ∧ c0 ≤ 9223372036854775807 ∧
    St (RdT r A0 n0 c0) W W [Fact.blk r [.slice A s.1.length c, .int .i64 s.2] t, Fact.row u 1 (.slice A0 n0 c0) n0 (ys.map u8v)] := by
  have hlt := RdB.lt h
  obtain ⟨A, c, o, ys, h1, h2, h3, h4, h5, h6⟩ := h
  obtain ⟨_, _, hv, hc1, hc2⟩ := row_form h2
  cases hv
  refine ⟨A, c, o, ys, h6, h4, h5, hc1, hc2, Fr.refl, fun x hx => ?_, fun x hx g hg => ?_, ?_⟩
  · simp only [List.mem_cons, List.not_mem_nil, or_false] at hx
    rcases hx with rfl | rfl
    · exact h1
    · exact h2
  · simp only [List.mem_cons, List.not_mem_nil, or_false] at hx
    rcases hx with rfl | rfl
    · exact ⟨.inl (.inl hg), hlt g (.inl hg)⟩
    · exact ⟨.inl (.inr hg), hlt g (.inr hg)⟩
  · refine List.pairwise_cons.2 ⟨fun x hx g hg hxg => ?_, by simp⟩
    simp only [List.mem_cons, List.not_mem_nil, or_false] at hx
    subst hx
    cases hg
    exact h3 hxg
theorem RdB.of {m : Nat} {e : Int} {c o : Nat} {ys : List UInt8} (hY : Y ys) (H : St T w0 W L) [hb : Blk r L [.slice A m c, .int .i64 e] t] [hr : In (Fact.row u 1 (.slice A0 n0 c0) n0 (ys.map u8v)) L] (hne : ¬ (Value.slice A0 n0 c0).ownBlock = some r) (hm : m = s.1.length) (he : e = s.2) (hL : LeftP A0 n0 c0 A c o ys s) (hH : HeldP A0 o ys v b) : (RdYB u t r A0 n0 c0 Y v b s).p W := by
  subst hm he
  exact ⟨A, c, o, ys, H.blk, H.get (f := Fact.row u 1 (.slice A0 n0 c0) n0 (ys.map u8v)), hne, hL, hH, hY⟩
theorem row_addr {xs : List Value} (h : W.ownsRow 0 u 1 (.slice A0 n0 c0) n0 xs) : A0 = none ∨ ∃ g, A0 = some ⟨g, 0, none⟩ := by
  rcases h.2 with ⟨h1, _⟩ | ⟨g, cap, cur, hv, _⟩
  · cases h1; exact .inl rfl
  · cases hv; exact .inr ⟨g, rfl⟩
theorem LeftP.step {c o n : Nat} {ys : List UInt8} (h : LeftP A0 n0 c0 A c o ys s) (ha : A0 = none ∨ ∃ g, A0 = some ⟨g, 0, none⟩) (he : s.2 = 0) (hn : n ≤ s.1.length) : LeftP A0 n0 c0 (if c = n then A else A.map (·.add (n * 1))) (c - n) (o + n) ys (s.1.drop n, 0) := by
  obtain ⟨h1, h2, h3, h4, h5, h6⟩ := h
  obtain ⟨h7, h8, h9⟩ := h5 he
  have hl : s.1.length = ys.length - o := by rw [h7, List.length_drop]
  refine ⟨h1, by omega, by rw [List.length_drop]; omega, by omega, fun _ => ⟨?_, by omega, fun hp => ?_⟩, fun h => absurd rfl h⟩
  · show s.1.drop n = ys.drop (o + n)
    rw [h7, List.drop_drop]
  · rw [List.length_drop] at hp
    rw [if_neg (by omega), h9 (by omega)]
    rcases ha with rfl | ⟨g, rfl⟩
    · rfl
    · simp only [Option.map_some, Addr.add_mid, Nat.mul_one, Nat.add_assoc]
theorem HeldP.step {c o n : Nat} {ys : List UInt8} (h : LeftP A0 n0 c0 A c o ys s) (he : s.2 = 0) (hn : n ≤ s.1.length) : HeldP A0 (o + n) ys (.slice A n n) (s.1.take n) := by
  obtain ⟨h1, h2, h3, h4, h5, h6⟩ := h
  obtain ⟨h7, h8, h9⟩ := h5 he
  have hl : (s.1.take n).length = n := by rw [List.length_take]; omega
  refine ⟨A, n, o, by rw [hl], by rw [hl]; exact Nat.le_refl _, by omega, fun hp => h9 (by omega), by rw [hl]; exact Nat.le_refl _, by rw [hl, h7]⟩
theorem RdB.ne (h : (RdYB u t r A0 n0 c0 Y v b s).p W) : ¬ (Value.slice A0 n0 c0).ownBlock = some r := by
  obtain ⟨A, c, o, ys, h1, h2, h3, _⟩ := h; exact h3
theorem RdB.bs (h : (RdYB u t r A0 n0 c0 Y v b s).p W) : Bs W (0 ≤ ·) v b := by
  obtain ⟨A, c, o, ys, h1, h2, h3, ⟨h4, h5, _⟩, ⟨B, cb, q, rfl, h6, h7, h8, h9, h10⟩, _⟩ := h
  refine Bs.mk ?_ h6 h7
  rcases Nat.eq_zero_or_pos b.length with hz | hz
  · exact ⟨by simp, fun h => by omega⟩
  · obtain ⟨_, _, hv, hc1, hc2⟩ := row_form h2
    cases hv
    have hb := bs_cut (bs_row h2 h4) h4 (a := q) (b := q + b.length) (by omega) (by omega)
    rw [if_neg (by omega), Nat.mul_one, Nat.add_sub_cancel_left, h10, ← h8 hz] at hb
    obtain ⟨_, _, hv, _, _, hr⟩ := hb.op
    cases hv
    exact hr
/-- One fact more, of old blocks. -/
theorem St.old {f : Fact} (H : St T W W L) (hp : f.p W) (hlt : ∀ g, f.fp g → g < W.heap.size) (hd : ∀ x ∈ L, ∀ g, f.fp g → ¬ x.fp g) : St (fun g => f.fp g ∨ T g) W W (f :: L) := by
  refine ⟨Fr.refl, fun x hx => ?_, fun x hx g hg => ?_, List.pairwise_cons.2 ⟨fun x hx g hg => hd x hx g hg, H.apart⟩⟩
  · rcases List.mem_cons.1 hx with rfl | hx
    · exact hp
    · exact H.holds x hx
  · rcases List.mem_cons.1 hx with rfl | hx
    · exact ⟨.inl (.inl hg), hlt g hg⟩
    · have h := H.own x hx g hg
      exact ⟨h.1.imp .inr id, h.2⟩
theorem LeftP.bad {c o : Nat} {ys : List UInt8} {k : Int} (h : LeftP A0 n0 c0 A c o ys s) (hk : k ≠ 0) : LeftP A0 n0 c0 none 0 o ys ([], k) := ⟨h.1, h.2.1, Nat.le_refl _, by omega, fun h => absurd h hk, fun _ => rfl⟩
theorem RdB.form (h : (RdYB u t r A0 n0 c0 Y v b s).p W) : ∃ B cb, v = .slice B b.length cb := by
  obtain ⟨_, _, _, _, _, _, _, _, ⟨B, cb, _, rfl, _⟩, _⟩ := h
  exact ⟨B, cb, rfl⟩
theorem RdB.rd {B : Option Addr} {cb : Nat} (h : (RdYB u t r A0 n0 c0 Y (.slice B b.length cb) b s).p W) : Rd W (0 ≤ ·) 1 B b.length (b.map u8v) := by
  obtain ⟨_, _, hv, _, _, hr⟩ := (RdB.bs h).op
  cases hv
  exact hr
theorem St.merge {f f' F : Fact} (H : St T w0 W (f :: f' :: L)) (hp : F.p W) (hfp : ∀ g, F.fp g → f.fp g ∨ f'.fp g) : St T w0 W (F :: L) := by
  have h1 := List.pairwise_cons.1 H.apart
  have h2 := List.pairwise_cons.1 h1.2
  refine ⟨H.fr, fun x hx => ?_, fun x hx g hg => ?_, List.pairwise_cons.2 ⟨fun x hx g hg hxg => ?_, h2.2⟩⟩
  · rcases List.mem_cons.1 hx with rfl | hx
    · exact hp
    · exact H.holds x (.tail _ (.tail _ hx))
  · rcases List.mem_cons.1 hx with rfl | hx
    · rcases hfp g hg with h | h
      · exact H.own _ (.head _) g h
      · exact H.own _ (.tail _ (.head _)) g h
    · exact H.own x (.tail _ (.tail _ hx)) g hg
  · rcases hfp g hg with h | h
    · exact h1.1 x (.tail _ hx) g h hxg
    · exact h2.1 x hx g h hxg
theorem RdB.make {m c : Nat} {l : List UInt8} (hY : Y l) (H : St T w0 W (Fact.blk r [.slice A m c, .int .i64 0] t :: Fact.row u 1 (.slice A m c) m (l.map u8v) :: L)) (hm : l.length = m) : St T w0 W (RdYP u t r A m c Y (l, 0) :: L) := by
  have h2 : W.ownsRow 0 u 1 (.slice A m c) m (l.map u8v) := H.holds _ (.tail _ (.head _))
  obtain ⟨_, _, hv, hc1, hc2⟩ := row_form h2
  cases hv
  subst hm
  refine H.merge ⟨A, c, 0, l, H.holds _ (.head _), h2, (List.pairwise_cons.1 H.apart).1 _ (.head _) r rfl, ⟨rfl, Nat.zero_le _, hc1, hc2, fun _ => ⟨rfl, rfl, fun _ => ?_⟩, fun h => absurd rfl h⟩, held_nil, hY⟩ (fun g hg => hg)
  rcases row_addr h2 with rfl | ⟨g, rfl⟩
  · rfl
  · simp [Addr.add_mid]
end
end Go.Proofs.YtejaohlijaodjaaDoor
