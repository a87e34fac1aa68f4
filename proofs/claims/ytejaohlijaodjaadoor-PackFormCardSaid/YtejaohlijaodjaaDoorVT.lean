/- Calls that write what came in: T names the blocks; readers. No program stands in this text. -/
import Derived.Test.YtejaohlijaodjaaDoorVZ
import Derived.Test.YtejaohlijaodjaaDoorRdSpec
namespace Go.Proofs.YtejaohlijaodjaaDoor
open Go Go.RowKit

section
variable {T : Nat → Prop} {w0 W W' : World} {L L' : List Fact} {f f' fn : Fact} {S : Nat → Prop} {v : Value} {l : List UInt8} {g : Nat} {c : List Value}
theorem St.bsT (H : St T w0 W L) (h : Bs w0 S v l) (hd : ∀ g, S g → ¬ T g) : Bs W S v l := h.keep fun g hg hs => H.fr.block g hg (hd g hs)
theorem St.rdT (H : St T w0 W L) {size n : Nat} {A : Option Addr} {xs : List Value} (h : Rd w0 S size A n xs) (hd : ∀ g, S g → ¬ T g) : Rd W S size A n xs := h.keep fun g hg hs => H.fr.block g hg (hd g hs)
theorem St.gatT (H : St T w0 W L) (h : Gat w0 g c) (hd : ¬ T g) : Gat W g c := by
  have hb := H.fr.block g h.1 hd
  exact ⟨lt_of_block h.1 hb, fun j v hv => (World.cell?_of_block (a := ⟨g, 0 + j, none⟩) hb).trans (h.2 j v hv)⟩
/-- A fact turned by a call. -/
theorem St.mut (H : St T w0 W L) [h : Turn f f' L L'] (hb : Fr f.fp W W') (hp : f'.p W') (hf : ∀ g, f'.fp g → f.fp g) : St T w0 W' L' := H.turn hb hp (fun g hg => .inl (hf g hg))
/-- And a new one. -/
theorem St.mutnew (H : St T w0 W L) [h : Turn f f' L L'] (hb : Fr f.fp W W') (hp : f'.p W') (hf : ∀ g, f'.fp g → f.fp g) (hn : fn.p W') (hfn : ∀ g, fn.fp g → W.heap.size ≤ g ∧ g < W'.heap.size) : St T w0 W' (fn :: L') := by
  have H' := H.mut (h := h) hb hp hf
  obtain ⟨M, h1, h2⟩ := h.perm
  refine ⟨H'.fr, fun x hx => ?_, fun x hx g hg => ?_, List.pairwise_cons.2 ⟨fun x hx g hg hxg => ?_, H'.apart⟩⟩
  · rcases List.mem_cons.1 hx with rfl | hx
    · exact hn
    · exact H'.holds x hx
  · rcases List.mem_cons.1 hx with rfl | hx
    · have := hfn g hg; have := H.size; exact ⟨.inr (by omega), by omega⟩
    · exact H'.own x hx g hg
  · have h3 := (hfn g hg).1
    rcases List.mem_cons.1 (h2.mem_iff.1 hx) with rfl | hx'
    · have := (H.own f (h1.mem_iff.2 (.head _)) g (hf g hxg)).2; omega
    · have := (H.own x (h1.mem_iff.2 (.tail _ hx')) g hxg).2; omega
/-- A fact of blocks of T, to begin with. -/
theorem St.begin (hp : f.p W) (hf : ∀ g, f.fp g → g < W.heap.size) : St f.fp W W [f] :=
  ⟨Fr.refl, fun x hx => by
    obtain rfl : x = f := by simpa using hx
    exact hp, fun x hx g hg => by
    obtain rfl : x = f := by simpa using hx
    exact ⟨.inl hg, hf g hg⟩, by simp⟩
theorem blk_lt {g : Nat} {c : List Value} {t : TypeId} {q : Nat × Nat} (h : W.heap[g]? = some (.cells c.toArray t q)) : g < W.heap.size := by
  rcases Nat.lt_or_ge g W.heap.size with h1 | h1
  · exact h1
  · rw [Array.getElem?_eq_none h1] at h; cases h
/-- New bytes; of old memory only blocks of T may have turned. -/
def NewBT (T : Nat → Prop) (t : TypeId) (w : World) (l : List UInt8) (v : Value) (w' : World) : Prop :=
  ∃ A c, v = .slice A l.length c ∧ l.length ≤ c ∧ c ≤ 9223372036854775807 ∧ w'.ownsRow 0 t 1 v l.length (l.map u8v) ∧ (∀ g, v.ownBlock = some g → w.heap.size ≤ g ∧ g < w'.heap.size) ∧ Fr T w w'
end

/- The reference's reader: B, At, E. -/
/-- Block r holds a reader of the bytes cur (they lie at A, capacity c), in state s. -/
def RefR (t : TypeId) (r : Nat) (A : Option Addr) (c : Nat) (cur : List UInt8) (s : RS) : Fact :=
  ⟨(· = r), fun W => ∃ a : Nat, W.heap[r]? = some (.cells [.slice A cur.length c, .int .i64 (a : Int), .int .i64 s.2].toArray t (0, 0)) ∧ a ≤ cur.length ∧ s.1 = (if s.2 = 0 then cur.drop a else []),
    fun _ _ h k => by obtain ⟨a, h1, h2⟩ := h; exact ⟨a, (k r rfl).trans h1, h2⟩⟩
/- The program's reader: left, why. -/
def PrgR (t : TypeId) (r : Nat) (A0 : Option Addr) (c0 : Nat) (cur : List UInt8) (s : RS) : Fact :=
  ⟨(· = r), fun W => ∃ (A : Option Addr) (c o : Nat), W.heap[r]? = some (.cells [.slice A s.1.length c, .int .i64 s.2].toArray t (0, 0)) ∧ o ≤ cur.length ∧ s.1 = (if s.2 = 0 then cur.drop o else []) ∧ s.1.length ≤ c ∧ c ≤ c0 ∧ (0 < s.1.length → A = A0.map (·.add o)),
    fun _ _ h k => by obtain ⟨A, c, o, h1, h2⟩ := h; exact ⟨A, c, o, (k r rfl).trans h1, h2⟩⟩
/-- What the reference's reader hands back: new bytes l; it is in state s' then. -/
def NextP (u t : TypeId) (r : Nat) (A : Option Addr) (c : Nat) (cur : List UInt8) (w : World) (l : List UInt8) (s' : RS) (v : Value) (w' : World) : Prop := NewBT (· = r) u w l v w' ∧ (RefR t r A c cur s').p w'
theorem St.nextP {w W : World} {u t r c m d q : Nat} {A B : Option Addr} {cur l : List UInt8} {xs : List Value} {a e : Int} {s' : RS} (H : St (· = r) w W [Fact.row u 1 (.slice B m d) m xs, Fact.blk r [.slice A cur.length c, .int .i64 a, .int .i64 e] t]) (hm : l.length = m) (hx : xs = l.map u8v) (hc : m ≤ d) (hd : d ≤ 9223372036854775807)
    (ha : a = (q : Int)) (hq : q ≤ cur.length) (he : s'.2 = e) (hs : s'.1 = if e = 0 then cur.drop q else []) : NextP u t r A c cur w l s' (.slice B m d) W := by
  subst hm hx ha he
  refine ⟨⟨B, d, rfl, hc, hd, H.holds _ (.head _), fun g hg => ?_, H.fr⟩, ⟨q, H.holds _ (.tail _ (.head _)), hq, hs⟩⟩
  have h1 := H.own _ (.head _) g hg
  have h2 := (List.pairwise_cons.1 H.apart).1 _ (.head _) g hg
  exact ⟨h1.1.resolve_left h2, h1.2⟩
theorem St.nextP' {w W : World} {u t r c d : Nat} {A B : Option Addr} {cur l : List UInt8} {s' : RS} (H : St (· = r) w W [Fact.row u 1 (.slice B l.length d) l.length (l.map u8v), RefR t r A c cur s']) (hc : l.length ≤ d) (hd : d ≤ 9223372036854775807) : NextP u t r A c cur w l s' (.slice B l.length d) W := by
  refine ⟨⟨B, d, rfl, hc, hd, H.holds _ (.head _), fun g hg => ?_, H.fr⟩, H.holds _ (.tail _ (.head _))⟩
  have h1 := H.own _ (.head _) g hg
  have h2 := (List.pairwise_cons.1 H.apart).1 _ (.head _) g hg
  exact ⟨h1.1.resolve_left h2, h1.2⟩
/-- What the reference's reader tells, and its state then. -/
def ValP (t : TypeId) (r : Nat) (A : Option Addr) (c : Nat) (cur : List UInt8) (w : World) (x : Value) (s' : RS) (v : Value) (w' : World) : Prop := v = x ∧ (RefR t r A c cur s').p w' ∧ Fr (· = r) w w'
theorem St.valP {w W : World} {L : List Fact} {t r c q : Nat} {A : Option Addr} {cur : List UInt8} {x : Value} {a e : Int} {s' : RS} (H : St (· = r) w W L) [hb : Blk r L [.slice A cur.length c, .int .i64 a, .int .i64 e] t]
    (ha : a = (q : Int)) (hq : q ≤ cur.length) (he : s'.2 = e) (hs : s'.1 = if e = 0 then cur.drop q else []) : ValP t r A c cur w x s' x W := by
  subst ha he
  exact ⟨rfl, ⟨q, H.blk, hq, hs⟩, H.fr⟩
theorem St.valP' {w W : World} {L : List Fact} {t r c : Nat} {A : Option Addr} {cur : List UInt8} {x : Value} {s' : RS} (H : St (· = r) w W L) [hb : In (RefR t r A c cur s') L] : ValP t r A c cur w x s' x W := ⟨rfl, H.get (f := RefR t r A c cur s'), H.fr⟩
theorem refR_lt {w : World} {t r c : Nat} {A : Option Addr} {cur : List UInt8} {s : RS} (h : (RefR t r A c cur s).p w) : r < w.heap.size := by
  obtain ⟨a, h1, _⟩ := h; exact blk_lt h1
theorem Pk.ok0 {s : RS} (he : s.2 = 0) : s = (s.1, 0) := by rw [← he]
end Go.Proofs.YtejaohlijaodjaaDoor
