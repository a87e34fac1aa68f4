/- What is known of memory as a list of facts, each with the blocks that it speaks of. No program stands in this text. -/
import Derived.Test.YtejaohlijaodjaaDoorV
namespace Go.Proofs.YtejaohlijaodjaaDoor
open Go Go.RowKit

structure Fact where
  fp : Nat → Prop
  p : World → Prop
  st : ∀ W W', p W → (∀ g, fp g → W'.heap[g]? = W.heap[g]?) → p W'

/-- A block of the call's own, known whole. -/
def Fact.blk (g : Nat) (c : List Value) (t : TypeId) : Fact := ⟨(· = g), fun W => W.heap[g]? = some (.cells c.toArray t (0, 0)), fun _ _ h k => (k g rfl).trans h⟩
/-- A row of the call's own: what it appends to. -/
def Fact.row (e size : Nat) (v : Value) (n : Nat) (xs : List Value) : Fact := ⟨fun g => v.ownBlock = some g, fun W => W.ownsRow 0 e size v n xs, fun _ _ h k => ownsRow_keep h (fun g hg => k g hg)⟩
/-- Bytes that read, in blocks of S. -/
def Fact.bs (S : Nat → Prop) (v : Value) (l : List UInt8) : Fact := ⟨S, fun W => Bs W S v l, fun _ _ h k => h.keep (fun g _ hs => k g hs)⟩
/-- Any. -/
def Fact.mk2 (S : Nat → Prop) (p : World → Prop) (h : ∀ W W', p W → (∀ g, S g → W'.heap[g]? = W.heap[g]?) → p W') : Fact := ⟨S, p, h⟩

/-- Since w0: old blocks outside T stand; the facts hold, of blocks of T or new ones, no block in two. -/
structure St (T : Nat → Prop) (w0 W : World) (L : List Fact) : Prop where
  fr : Fr T w0 W
  holds : ∀ f ∈ L, f.p W
  own : ∀ f ∈ L, ∀ g, f.fp g → (T g ∨ w0.heap.size ≤ g) ∧ g < W.heap.size
  apart : L.Pairwise (fun f f' => ∀ g, f.fp g → ¬ f'.fp g)

theorem Fr.drew {T : Nat → Prop} {w w' : World} (h : Fr T w w') : Fr T w w'.drew := ⟨h.os, h.tape, h.output, h.size, h.block⟩
theorem fr_of_below {w w' : World} (h : Below w.heap.size w w') (T : Nat → Prop) : Fr T w w' := ⟨h.os, h.tape, h.output, h.size, fun k hk _ => h.block k hk⟩

section
variable {T : Nat → Prop} {w0 W W' : World} {L L' : List Fact} {f f' : Fact}
theorem St.start (T : Nat → Prop) (w : World) : St T w w [] := ⟨Fr.refl, fun _ h => by (cases h), fun _ h => by (cases h), .nil⟩
theorem St.size (H : St T w0 W L) : w0.heap.size ≤ W.heap.size := H.fr.size
theorem St.perm (H : St T w0 W L) (h : L.Perm L') : St T w0 W L' :=
  ⟨H.fr, fun f hf => H.holds f (h.mem_iff.2 hf), fun f hf => H.own f (h.mem_iff.2 hf), (h.pairwise_iff (fun hxy g hg hy => hxy g hy hg)).1 H.apart⟩
theorem St.drop (H : St T w0 W (f :: L)) : St T w0 W L := ⟨H.fr, fun f hf => H.holds f (.tail _ hf), fun f hf => H.own f (.tail _ hf), (List.pairwise_cons.1 H.apart).2⟩
theorem St.sub (H : St T w0 W L) (h : L'.Sublist L) : St T w0 W L' := ⟨H.fr, fun f hf => H.holds f (h.subset hf), fun f hf => H.own f (h.subset hf), H.apart.sublist h⟩
/-- Old blocks stand. -/
theorem St.below (H : St T w0 W L) (hb : Below W.heap.size W W') : St T w0 W' L :=
  ⟨H.fr.trans (fr_of_below hb T) (fun _ _ h => h), fun f hf => f.st W W' (H.holds f hf) (fun g hg => hb.block g (H.own f hf g hg).2),
    fun f hf g hg => ⟨(H.own f hf g hg).1, Nat.lt_of_lt_of_le (H.own f hf g hg).2 hb.size⟩, H.apart⟩
/-- A fact more, of new blocks. -/
theorem St.call (H : St T w0 W L) (hb : Below W.heap.size W W') (hp : f.p W') (hf : ∀ g, f.fp g → W.heap.size ≤ g ∧ g < W'.heap.size) : St T w0 W' (f :: L) := by
  have H' := H.below hb
  refine ⟨H'.fr, fun x hx => ?_, fun x hx g hg => ?_, List.pairwise_cons.2 ⟨fun x hx g hg hxg => ?_, H'.apart⟩⟩
  · rcases List.mem_cons.1 hx with rfl | hx
    · exact hp
    · exact H'.holds x hx
  · rcases List.mem_cons.1 hx with rfl | hx
    · have := hf g hg; have := H.size; exact ⟨.inr (by omega), by omega⟩
    · exact H'.own x hx g hg
  · have h1 := hf g hg
    have h2 := (H.own x hx g hxg).2
    omega
/-- The first fact turned. -/
theorem St.turn0 (H : St T w0 W (f :: L)) (hb : Fr f.fp W W') (hp : f'.p W') (hf : ∀ g, f'.fp g → f.fp g ∨ (W.heap.size ≤ g ∧ g < W'.heap.size)) : St T w0 W' (f' :: L) := by
  have hap := List.pairwise_cons.1 H.apart
  have hsz := hb.size
  refine ⟨H.fr.trans hb (fun g hg hf => ?_), fun x hx => ?_, fun x hx g hg => ?_, List.pairwise_cons.2 ⟨fun x hx g hg hxg => ?_, hap.2⟩⟩
  · rcases (H.own f (.head _) g hf).1 with h | h
    · exact h
    · omega
  · rcases List.mem_cons.1 hx with rfl | hx
    · exact hp
    · exact x.st W W' (H.holds x (.tail _ hx)) (fun g hg => hb.block g (H.own x (.tail _ hx) g hg).2 (fun hfg => hap.1 x hx g hfg hg))
  · rcases List.mem_cons.1 hx with rfl | hx
    · rcases hf g hg with h | h
      · have := H.own f (.head _) g h; exact ⟨this.1, by omega⟩
      · have := H.size; exact ⟨.inr (by omega), h.2⟩
    · have := H.own x (.tail _ hx) g hg; exact ⟨this.1, by omega⟩
  · rcases hf g hg with h | h
    · exact hap.1 x hx g h hxg
    · have := (H.own x (.tail _ hx) g hxg).2; omega

/-- One fact of a list, and it turned. -/
class In (f : Fact) (L : List Fact) : Prop where mem : f ∈ L
class Turn (f f' : Fact) (L : List Fact) (L' : outParam (List Fact)) : Prop where perm : ∃ M, L.Perm (f :: M) ∧ L'.Perm (f' :: M)
instance (priority := low) In.tail [h : In f L] : In f (f' :: L) := ⟨.tail _ h.mem⟩
instance In.head : In f (f :: L) := ⟨.head _⟩
instance (priority := low) Turn.tail {x : Fact} [h : Turn f f' L L'] : Turn f f' (x :: L) (x :: L') := ⟨by
  obtain ⟨M, h1, h2⟩ := h.perm
  exact ⟨x :: M, (h1.cons x).trans (.swap _ _ _), (h2.cons x).trans (.swap _ _ _)⟩⟩
instance Turn.head : Turn f f' (f :: L) (f' :: L) := ⟨L, .refl _, .refl _⟩
theorem St.turn (H : St T w0 W L) [h : Turn f f' L L'] (hb : Fr f.fp W W') (hp : f'.p W') (hf : ∀ g, f'.fp g → f.fp g ∨ (W.heap.size ≤ g ∧ g < W'.heap.size)) : St T w0 W' L' := by
  obtain ⟨M, h1, h2⟩ := h.perm
  exact ((H.perm h1).turn0 hb hp hf).perm h2.symm
theorem St.get (H : St T w0 W L) [h : In f L] : f.p W := H.holds f h.mem
class Blk (g : Nat) (L : List Fact) (c : outParam (List Value)) (t : outParam TypeId) : Prop where mem : Fact.blk g c t ∈ L
class BlkTo (g : Nat) (c' : List Value) (L : List Fact) (L' : outParam (List Fact)) : Prop where perm : ∃ c t M, L.Perm (Fact.blk g c t :: M) ∧ L'.Perm (Fact.blk g c' t :: M)
instance (priority := low) Blk.tail {g : Nat} {c : List Value} {t : TypeId} [h : Blk g L c t] : Blk g (f' :: L) c t := ⟨.tail _ h.mem⟩
instance Blk.head {g : Nat} {c : List Value} {t : TypeId} : Blk g (Fact.blk g c t :: L) c t := ⟨.head _⟩
theorem St.blk (H : St T w0 W L) {g : Nat} {c : List Value} {t : TypeId} [h : Blk g L c t] : W.heap[g]? = some (.cells c.toArray t (0, 0)) := H.holds _ h.mem
theorem St.alloc (H : St T w0 W L) (c : List Value) (t : TypeId) : St T w0 (W.alloc (.cells c.toArray t)) (Fact.blk W.heap.size c t :: L) :=
  H.call ((Below.refl _ _).alloc (Nat.le_refl _) _) (heap_alloc_new W _) (fun g hg => by
    have : g = W.heap.size := hg
    subst this; simp)
theorem St.drew (H : St T w0 W L) : St T w0 W.drew L := ⟨H.fr.drew, fun f hf => f.st W _ (H.holds f hf) (fun _ _ => rfl), H.own, H.apart⟩
end
end Go.Proofs.YtejaohlijaodjaaDoor
