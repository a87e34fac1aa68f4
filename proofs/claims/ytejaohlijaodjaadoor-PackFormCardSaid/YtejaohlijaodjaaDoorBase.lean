/- Words for memory that all walks of this seat share: slices that read as lists, frames. No program stands in this text. -/
import Derived.WalkKit
import Derived.WalkSpells
import Derived.KernelRfl
import Derived.Deep.QuietTactic
import Derived.BigQuiet
import Derived.Deep.Draws
import Derived.Lib.Hide
import Derived.Maps.AppendAt
import Derived.StillTailTactics
import Derived.Laws.CopyOwn
namespace Go.Proofs.YtejaohlijaodjaaDoor
open Go Go.RowKit

abbrev u8v (b : UInt8) : Value := .int .u8 (b.toNat : Int)
abbrev u32v (b : UInt32) : Value := .int .u32 (b.toNat : Int)
abbrev i64v (b : Int) : Value := .int .i64 b

/-- A slice of n elements, size cells each, at A: its cells are xs; its block is one of S. -/
def Rd (w : World) (S : Nat → Prop) (size : Nat) (A : Option Addr) (n : Nat) (xs : List Value) : Prop :=
  xs.length = n * size ∧ (0 < n → ∃ g o, A = some ⟨g, o, none⟩ ∧ (g < w.heap.size ∧ S g) ∧ ∀ j u, xs[j]? = some u → w.cell? ⟨g, o + j, none⟩ = some u)

/-- A slice value that reads as bytes. -/
def Bs (w : World) (S : Nat → Prop) (v : Value) (l : List UInt8) : Prop :=
  ∃ A c, v = .slice A l.length c ∧ l.length ≤ c ∧ c ≤ maxLen ∧ Rd w S 1 A l.length (l.map u8v)

/-- Old blocks outside T are as they were. -/
structure Fr (T : Nat → Prop) (w w' : World) : Prop where
  os : w'.os = w.os
  tape : w'.tape = w.tape
  output : w'.output = w.output
  size : w.heap.size ≤ w'.heap.size
  block : ∀ k, k < w.heap.size → ¬ T k → w'.heap[k]? = w.heap[k]?

theorem lt_of_block {w w' : World} {g : Nat} (hg : g < w.heap.size) (h : w'.heap[g]? = w.heap[g]?) : g < w'.heap.size := by
  rcases Nat.lt_or_ge g w'.heap.size with h1 | h1
  · exact h1
  · rw [Array.getElem?_eq_none h1, Array.getElem?_eq_getElem hg] at h
    cases h

section
variable {w w' w'' : World} {T T' S S' : Nat → Prop} {A : Option Addr} {n size : Nat} {xs : List Value} {l : List UInt8} {v : Value}

theorem Fr.refl : Fr T w w := ⟨rfl, rfl, rfl, Nat.le_refl _, fun _ _ _ => rfl⟩
theorem Fr.trans (h : Fr T w w') (k : Fr T' w' w'') (ht : ∀ g, g < w.heap.size → T' g → T g) : Fr T w w'' :=
  ⟨k.os.trans h.os, k.tape.trans h.tape, k.output.trans h.output, Nat.le_trans h.size k.size,
    fun i hi hn => (k.block i (Nat.lt_of_lt_of_le hi h.size) (fun e => hn (ht i hi e))).trans (h.block i hi hn)⟩
theorem Fr.mono (h : Fr T w w') (ht : ∀ g, g < w.heap.size → T g → T' g) : Fr T' w w' :=
  ⟨h.os, h.tape, h.output, h.size, fun i hi hn => h.block i hi (fun e => hn (ht i hi e))⟩
theorem Fr.below {B : Nat} (h : Fr T w w') (hB : B ≤ w.heap.size) (ht : ∀ g, T g → B ≤ g) : Below B w w' :=
  ⟨h.os, h.tape, h.output, h.size, fun i hi => h.block i (by omega) (fun e => by have := ht i e; omega)⟩
theorem Fr.of_below {B : Nat} (h : Below B w w') (ht : ∀ g, g < w.heap.size → B ≤ g → T g) : Fr T w w' :=
  ⟨h.os, h.tape, h.output, h.size, fun i hi hn => h.block i (by
    rcases Nat.lt_or_ge i B with h1 | h1
    · exact h1
    · exact absurd (ht i hi h1) hn)⟩

theorem Rd.keep (h : Rd w S size A n xs) (hk : ∀ g, g < w.heap.size → S g → w'.heap[g]? = w.heap[g]?) : Rd w' S size A n xs :=
  ⟨h.1, fun hn => by
    obtain ⟨g, o, e, ⟨hlt, hb⟩, hc⟩ := h.2 hn
    exact ⟨g, o, e, ⟨lt_of_block hlt (hk g hlt hb), hb⟩, fun j u hu => (World.cell?_of_block (a := ⟨g, o + j, none⟩) (hk g hlt hb)).trans (hc j u hu)⟩⟩
theorem Rd.mono (h : Rd w S size A n xs) (hk : ∀ g, g < w.heap.size → S g → S' g) : Rd w S' size A n xs :=
  ⟨h.1, fun hn => by
    obtain ⟨g, o, e, ⟨hlt, hb⟩, hc⟩ := h.2 hn
    exact ⟨g, o, e, ⟨hlt, hk g hlt hb⟩, hc⟩⟩
theorem Rd.below {B : Nat} (h : Rd w S size A n xs) (hb : Below B w w') (hB : w.heap.size ≤ B) : Rd w' S size A n xs :=
  h.keep fun g hg _ => hb.block g (by omega)
theorem Rd.drewN (h : Rd w S size A n xs) (k : Nat) : Rd (w.drewN k) S size A n xs := h
theorem Rd.nil : Rd w S size A 0 [] := ⟨by simp, fun h => absurd h (by omega)⟩
theorem Rd.cell (h : Rd w S size A n xs) {k : Nat} (hn : 0 < n) (hk : k < n * size) : ∃ g o u, A = some ⟨g, o, none⟩ ∧ (g < w.heap.size ∧ S g) ∧ xs[k]? = some u ∧ w.cell? ⟨g, o + k, none⟩ = some u := by
  obtain ⟨g, o, e, hb, hc⟩ := h.2 hn
  have hl : k < xs.length := by rw [h.1]; exact hk
  exact ⟨g, o, xs[k], e, hb, List.getElem?_eq_getElem hl, hc k _ (List.getElem?_eq_getElem hl)⟩
theorem Rd.byte (h : Rd w S 1 A n (l.map u8v)) {k : Nat} (hk : k < n) : ∃ g o b, A = some ⟨g, o, none⟩ ∧ (g < w.heap.size ∧ S g) ∧ l[k]? = some b ∧ w.cell? ⟨g, o + k, none⟩ = some (.int .u8 (b.toNat : Int)) := by
  obtain ⟨g, o, u, e, hb, hu, hc⟩ := h.cell (k := k) (by omega) (by omega)
  rw [List.getElem?_map] at hu
  cases hx : l[k]? with
  | none => rw [hx] at hu; cases hu
  | some b => rw [hx] at hu; cases hu; exact ⟨g, o, b, e, hb, rfl, hc⟩
/-- A part of a slice: xs[a:b]. -/
theorem Rd.cut (h : Rd w S size A n xs) {a b c : Nat} (hab : a ≤ b) (hb : b ≤ n) (hc : n ≤ c) :
    Rd w S size (if c = a then A else A.map (·.add (a * size))) (b - a) ((xs.drop (a * size)).take ((b - a) * size)) := by
  have hle : a * size ≤ n * size := Nat.mul_le_mul_right _ (by omega)
  have hle2 : (b - a) * size ≤ (n - a) * size := Nat.mul_le_mul_right _ (by omega)
  refine ⟨by rw [List.length_take, List.length_drop, h.1, ← Nat.sub_mul]; omega, fun hn => ?_⟩
  obtain ⟨g, o, rfl, hg, hcell⟩ := h.2 (by omega)
  rw [if_neg (by omega)]
  refine ⟨g, o + a * size, ?_, hg, fun j u hu => ?_⟩
  · simp only [Option.map_some, Addr.add]
    split
    · rename_i h0; simp [h0]
    · rfl
  · rw [List.getElem?_take] at hu
    split at hu
    · rw [List.getElem?_drop] at hu
      have := hcell _ u hu
      rw [← this]
      congr 2
      omega
    · cases hu

/-- A part of a row of bytes, its address in whatever spelling. -/
theorem Rd.cutv (h : Rd w S 1 A n (l.map u8v)) {a m : Nat} (ham : a + m ≤ n) {A' : Option Addr} (hA : 0 < m → A' = A.map (·.add a)) : Rd w S 1 A' m (((l.drop a).take m).map u8v) := by
  have hl : l.length = n := by simpa using h.1
  refine ⟨by simp; omega, fun hm => ?_⟩
  obtain ⟨g, o, rfl, hg, hc⟩ := h.2 (by omega)
  refine ⟨g, o + a, ?_, hg, fun j u hu => ?_⟩
  · rw [hA hm]
    simp only [Option.map_some, Addr.add]
    split
    · rename_i h0; simp [h0]
    · rfl
  · rw [List.getElem?_map, List.getElem?_take] at hu
    split at hu
    · rw [List.getElem?_drop] at hu
      rw [Nat.add_assoc]
      exact hc _ u (by rw [List.getElem?_map]; exact hu)
    · cases hu
theorem Bs.mk {c : Nat} (h : Rd w S 1 A n (l.map u8v)) (h1 : n ≤ c) (h2 : c ≤ 9223372036854775807) : Bs w S (.slice A n c) l := by
  have hl : l.length = n := by simpa using h.1
  subst hl
  exact ⟨A, c, rfl, h1, h2, h⟩
theorem Bs.op (h : Bs w S v l) : ∃ A c, v = .slice A l.length c ∧ l.length ≤ c ∧ c ≤ 9223372036854775807 ∧ Rd w S 1 A l.length (l.map u8v) := h
theorem Bs.keep (h : Bs w S v l) (hk : ∀ g, g < w.heap.size → S g → w'.heap[g]? = w.heap[g]?) : Bs w' S v l := by
  obtain ⟨A, c, e, h1, h2, h3⟩ := h
  exact ⟨A, c, e, h1, h2, h3.keep hk⟩
theorem Bs.mono (h : Bs w S v l) (hk : ∀ g, g < w.heap.size → S g → S' g) : Bs w S' v l := by
  obtain ⟨A, c, e, h1, h2, h3⟩ := h
  exact ⟨A, c, e, h1, h2, h3.mono hk⟩
theorem Bs.below {B : Nat} (h : Bs w S v l) (hb : Below B w w') (hB : w.heap.size ≤ B) : Bs w' S v l :=
  h.keep fun g hg _ => hb.block g (by omega)
theorem Bs.drewN (h : Bs w S v l) (k : Nat) : Bs (w.drewN k) S v l := h
theorem Bs.nil : Bs w S (.slice none 0 0) [] := ⟨none, 0, rfl, Nat.le_refl _, Nat.zero_le _, Rd.nil⟩
theorem Bs.len (h : Bs w S v l) : l.length ≤ 9223372036854775807 := by
  obtain ⟨A, c, e, h1, h2, h3⟩ := h
  unfold maxLen at h2
  omega

/-- A row of the call's own, read. -/
theorem Rd.of_own {base : Nat} {e : TypeId} {c : Nat} (h : w.ownsRow base e size (.slice A n c) n xs) : Rd w (base ≤ ·) size A n xs := by
  refine ⟨h.1, fun hn => ?_⟩
  rcases h.2 with ⟨_, h0⟩ | ⟨g, cap, cur, hv, hb, hh, _, _, hs, ht⟩
  · omega
  · injection hv with hA
    subst hA
    have hlt : g < w.heap.size := by
      rcases Nat.lt_or_ge g w.heap.size with h1 | h1
      · exact h1
      · rw [Array.getElem?_eq_none h1] at hh; cases hh
    refine ⟨g, 0, rfl, ⟨hlt, hb⟩, fun j u hu => ?_⟩
    rw [Nat.zero_add, cell_of_row w g j cur e (0, 0) hh]
    rw [← ht, List.getElem?_take] at hu
    split at hu
    · simpa using hu
    · cases hu
end

theorem ownsRow_keep {w w' : World} {base : Nat} {e : TypeId} {size : Nat} {v : Value} {n : Nat} {xs : List Value} (h : w.ownsRow base e size v n xs) (hk : ∀ g, v.ownBlock = some g → w'.heap[g]? = w.heap[g]?) : w'.ownsRow base e size v n xs := by
  refine ⟨h.1, ?_⟩
  rcases h.2 with hn | ⟨g, cap, cur, rfl, hb, hgg, rest⟩
  · exact .inl hn
  · exact .inr ⟨g, cap, cur, rfl, hb, by rw [hk g rfl]; exact hgg, rest⟩
theorem ownsRow_base {w : World} {base base' : Nat} {e : TypeId} {size : Nat} {v : Value} {n : Nat} {xs : List Value} (h : w.ownsRow base e size v n xs) (hk : base' ≤ base) : w.ownsRow base' e size v n xs := by
  refine ⟨h.1, ?_⟩
  rcases h.2 with hn | ⟨g, cap, cur, rfl, hb, hgg, rest⟩
  · exact .inl hn
  · exact .inr ⟨g, cap, cur, rfl, by omega, hgg, rest⟩

/-- Draws. -/
theorem Fr.drewN {T : Nat → Prop} {w : World} (k : Nat) : Fr T w (w.drewN k) := ⟨rfl, rfl, rfl, Nat.le_refl _, fun _ _ _ => rfl⟩
theorem below_drewN' {B : Nat} {w w' : World} (h : Below B w w') (k : Nat) : Below B w (w'.drewN k) := ⟨h.os, h.tape, h.output, h.size, h.block⟩

section
variable {P : Program} (w : World)
/-- append onto a row of the call's own; the source is nil, empty or not. -/
theorem run_app (base : Nat) (t ty e : TypeId) (i : TypeInfo) (z : Value) (size bytes : Nat) (ht : P.underlying t = some (.slice e)) (hi : P.info? e = some i) (hz : i.zero = some z)
    (hsize : i.size = size) (hby : i.bytes = bytes) (hzs : z.cells.size = size) (hsz : 0 < size)
    (v : Value) (n : Nat) (xs : List Value) (hown : w.ownsRow base e size v n xs)
    (S : Nat → Prop) (A : Option Addr) (m c : Nat) (news : List Value) (hr : Rd w S size A m news) (h1 : ∀ u ∈ news, u.oneCell' = true)
    (h63 : n + m ≤ maxLen) (hbytes : (n + m) * bytes ≤ 140737488355328) (hbase : base ≤ w.heap.size) :
    ∃ v' w', (Builtin.append_ #[t, t] ty #[v, .slice A m c]).run P w = .ok v' w' ∧ w'.ownsRow base e size v' (n + m) (xs ++ news) ∧ w.grownBy w' v.ownBlock ∧
      (v'.ownBlock = v.ownBlock ∨ v'.ownBlock = some w.heap.size) := by
  by_cases h0 : m = 0
  · subst h0
    have hn : news = [] := List.eq_nil_of_length_eq_zero (by simpa using hr.1)
    subst hn
    refine ⟨v, w, ?_, by simpa using hown, World.grownBy.refl w _, .inl rfl⟩
    rcases hown.2 with ⟨rfl, rfl⟩ | ⟨g, cap, cur, rfl, _, _, hnc, _⟩
    · rcases A with _ | ad <;> simp [Builtin.append_, run_underlying ht, sizeOf, typeInfo, hi, Builtin.lenOf, Builtin.firstCells, loadCells, loadCellsFrom]
    · rcases A with _ | ad <;> simp [Builtin.append_, run_underlying ht, sizeOf, typeInfo, hi, Builtin.lenOf, Builtin.firstCells, hnc, storeCells, loadCells, loadCellsFrom]
  · obtain ⟨g, o, rfl, _, hc⟩ := hr.2 (by omega)
    have hcells : ∀ j u, news[j]? = some u → w.cell? ((⟨g, o, none⟩ : Addr).add j) = some u := by
      intro j u hu
      have := hc j u hu
      unfold Addr.add
      split
      · rename_i hj; subst hj; simpa using this
      · exact this
    obtain ⟨v', w', hrun, h2, h3, _, h5⟩ := run_append_own_at (P := P) w base t ty e i z size bytes ht hi hz hsize hby hzs hsz v n xs hown ⟨g, o, none⟩ m c news hr.1 hcells h1 h63 hbytes hbase
    exact ⟨v', w', hrun, h2, h3, h5⟩

theorem wp_app {o : Oper} {a : Act} {K : Act → World → Prop} {Q : Exit → Act → World → Prop} (s x : Operand) (t : TypeId)
    (ho : o.op = .call { callee := .builtin .append, args := #[s, x], argTypes := #[t, t] })
    (base : Nat) (e : TypeId) (i : TypeInfo) (z : Value) (size bytes : Nat) (ht : P.underlying t = some (.slice e)) (hi : P.info? e = some i) (hz : i.zero = some z)
    (hsize : i.size = size) (hby : i.bytes = bytes) (hzs : z.cells.size = size) (hsz : 0 < size)
    (v : Value) (n : Nat) (xs : List Value) (hs : a.eval s = v) (hown : w.ownsRow base e size v n xs)
    (S : Nat → Prop) (A : Option Addr) (m c : Nat) (news : List Value) (hx : a.eval x = .slice A m c) (hr : Rd w S size A m news) (h1 : ∀ u ∈ news, u.oneCell' = true)
    (h63 : n + m ≤ maxLen) (hbytes : (n + m) * bytes ≤ 140737488355328) (hbase : base ≤ w.heap.size)
    (h : ∀ v' w', w'.ownsRow base e size v' (n + m) (xs ++ news) → w.grownBy w' v.ownBlock → (v'.ownBlock = v.ownBlock ∨ v'.ownBlock = some w.heap.size) → K (a.put o.dst v') w') : o.wp P a w K Q := by
  obtain ⟨v', w', hrun, h2, h3, h4⟩ := run_app (P := P) w base t o.type e i z size bytes ht hi hz hsize hby hzs hsz v n xs hown S A m c news hr h1 h63 hbytes hbase
  unfold Oper.wp execOp
  simp only [ho, resolve, invoke, builtin, Sem.run_bind, Sem.run_pure, Result.andThen_ok, List.map_toArray, List.map_cons, List.map_nil, hs, hx, hrun]
  exact h v' w' h2 h3 h4
end
theorem one_u8 (l : List UInt8) : ∀ u ∈ l.map u8v, u.oneCell' = true := by
  intro u hu
  obtain ⟨b, _, rfl⟩ := List.mem_map.1 hu
  rfl
theorem one_u32 (l : List UInt32) : ∀ u ∈ l.map u32v, u.oneCell' = true := by
  intro u hu
  obtain ⟨b, _, rfl⟩ := List.mem_map.1 hu
  rfl
/-- A region that draws its order: n operations that only read, a forced tail behind them: the text's order serves. -/
theorem region_tail {P : Program} {id : Nat} {Q : Exit → Act → World → Prop} {a : Act} {w : World} {l : List Oper} (n : Nat) (hm : P.follows .mixedOrders = true) (hB : Region.lexTailB .any l.toArray n = true)
    (h : wpStill P l.toArray w.drew (fun a' => wpList P l.toArray Q (l.drop n) a' w.drew) (l.take n) a) : (Code.region id l.toArray true).wp P Q a w := wp_region_still_tail n hm hB h
theorem u8_of {z : Int} {n : Nat} (h : z = n) : z % 256 = ((UInt8.ofNat n).toNat : Int) := by subst h; simp
theorem ret_int {k : IntKind} {a b : Int} (h : a = b) : Ending.returned (.int k a) = .returned (.int k b) := by rw [h]
end Go.Proofs.YtejaohlijaodjaaDoor
