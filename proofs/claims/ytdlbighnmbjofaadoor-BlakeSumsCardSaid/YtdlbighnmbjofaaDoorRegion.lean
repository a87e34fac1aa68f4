/- A region that draws its order: operations that only read, and an 'alloc' that waits for none of them: the text's order serves. No program stands in this text. -/
import Derived.Test.YtdlbighnmbjofaaDoorBase
import Derived.StillTail
namespace Go.Proofs.YtdlbighnmbjofaaDoor
open Go Go.RowKit

section
variable {P : Program} {ops : Array Oper} {Q : Exit → Act → World → Prop} {md : Region.Mode} {S : World → Prop}

/-- In every world that meets S the operation leaves v, and nothing else. -/
def YQ (P : Program) (ops : Array Oper) (S : World → Prop) (o : Oper) (v : Value) (a : Act) : Prop := ∀ w, S w → YieldsAt P ops w o v a

theorem YQ.wpOp {i : Nat} {o : Oper} {v : Value} {a : Act} (hi : ops[i]? = some o) (hy : YQ P ops S o v a) {K : Act → World → Prop} {w : World} (hS : S w) (h : K (a.put o.dst v) w) : wpOp P ops Q i K a w :=
  wpOp_of_stOp (K := fun a' => K a' w) (fun _ h => h) ((hy w hS).stOp hi h)

theorem YQ.of_same {o : Oper} {v : Value} {a a' : Act} (hy : YQ P ops S o v a) (he : execOp a'.eval o = execOp a.eval o)
    (hw : Region.wanted o (yielded ops a'.tmps) = Region.wanted o (yielded ops a.tmps)) : YQ P ops S o v a' := fun w hS => (hy w hS).of_same he hw

theorem wpOp_putQ {j : Nat} {oi oj : Oper} {v : Value} (hj : ops[j]? = some oj) (hap : oi.apart ops oj = true)
    (hsi : ∀ cs b, oi.op ≠ .select cs b) (hsj : ∀ cs b, oj.op ≠ .select cs b)
    (hQ : ∀ c a w, Q (.panic c) (a.put oi.dst v) w → Q (.panic c) a w) {K : Act → World → Prop} {a : Act} {w : World}
    (hy : YQ P ops S oi v a) (h : Go.wpOp P ops Q j K (a.put oi.dst v) w) :
    Go.wpOp P ops Q j (fun a' w' => YQ P ops S oi v a' ∧ K (a'.put oi.dst v) w') a w := by
  obtain ⟨h1, h2, h3⟩ := Oper.apart_spec hap
  have keep : ∀ (a : Act), YQ P ops S oi v a → ∀ u, YQ P ops S oi v (a.put oj.dst u) := fun a hy u =>
    hy.of_same (execOp_put oi hsi a oj.dst u h3) (wanted_put oi a oj.dst u h3)
  have keepD : ∀ d, YQ P ops S oi v { a with defers := d :: a.defers } := fun d => hy.of_same rfl rfl
  unfold Go.wpOp at *
  simp only [hj] at *
  rw [wanted_put oj a oi.dst v h1] at h
  split
  · rename_i hw
    simp only [hw, if_true] at h
    rcases h with h | ⟨hasks, hlets⟩
    case inr => exact .inr ⟨by unfold Oper.asks at *; rw [execOp_put oj hsj a oi.dst v h1] at hasks; exact hasks, hlets⟩
    refine .inl ?_
    unfold Oper.wp at *
    rw [execOp_put oj hsj a oi.dst v h1] at h
    generalize (execOp a.eval oj).run P w = r at *
    cases r with
    | ok n w' =>
      cases n <;> simp only [Oper.upon] at h ⊢
      case value u => exact ⟨keep a hy u, by rw [← Act.put_comm a v u h2]; exact h⟩
      case skip => exact ⟨keep a hy _, by rw [← Act.put_comm a v undef h2]; exact h⟩
      case defer d =>
        refine ⟨keep _ (keepD d) _, ?_⟩
        rw [← Act.put_comm _ v undef h2, ← Act.put_defers]
        exact h
      case enter f args =>
        refine Calls.mono h fun e w'' he => ?_
        cases e with
        | returned u => exact ⟨keep a hy u, by rw [← Act.put_comm a v u h2]; exact he⟩
        | panicked c => exact hQ _ _ _ he
        | outgrown => exact he
      case row row args => exact Rows.mono h fun u w'' he => ⟨keep a hy u, by rw [← Act.put_comm a v u h2]; exact he⟩
    | halt x w' =>
      cases x <;> simp only [Oper.upon] at h ⊢
      case panic u => exact hQ _ _ _ h
  · rename_i hw
    simp only [hw] at h
    exact ⟨keep a hy _, by rw [← Act.put_comm a v undef h2]; exact h⟩

/-- Whatever order comes, and S behind every operation but number z. -/
def wpAnyG (P : Program) (md : Region.Mode) (ops : Array Oper) (Q : Exit → Act → World → Prop) (S : World → Prop) (z : Nat) : Nat → Array Bool → Act → World → Prop
  | 0, listed, a, w => Region.ready md ops listed = [] ∧ Q .normal a w
  | fuel + 1, listed, a, w =>
    (Region.ready md ops listed = [] → Q .normal a w) ∧
    ∀ i ∈ Region.ready md ops listed, Go.wpOp P ops Q i (fun a' w' => (i ≠ z → S w') ∧ wpAnyG P md ops Q S z fuel (listed.setIfInBounds i true) a' w') a w

theorem wpAny_of_G {z : Nat} : ∀ (fuel : Nat) (listed : Array Bool) (a : Act) (w : World), wpAnyG P md ops Q S z fuel listed a w → wpAny P md ops Q fuel listed a w
  | 0, _, _, _, h => h
  | fuel + 1, _, _, _, h => ⟨h.1, fun i hi => wpOp_mono (fun a' w' h' => wpAny_of_G fuel _ a' w' h'.2) (h.2 i hi)⟩

theorem wpAnyG_first {i z : Nat} {oi : Oper} {v : Value} (hi : ops[i]? = some oi) (hsel : ∀ (j : Nat) (o : Oper) cs b, ops[j]? = some o → o.op ≠ .select cs b)
    (hQ : ∀ c a w, Q (.panic c) (a.put oi.dst v) w → Q (.panic c) a w) (hz : Region.waitsFor md ops z i = true) :
    ∀ (fuel : Nat) (listed : Array Bool) (a : Act) (w : World),
      (∀ j oj, ops[j]? = some oj → j ≠ i → listed.getD j true = false → (∀ e ∈ oj.after, Region.binds md e = true → e.on ≠ i) → oi.apart ops oj = true) →
      i ∈ Region.ready md ops listed → YQ P ops S oi v a → S w →
      wpAnyG P md ops Q S z fuel (listed.setIfInBounds i true) (a.put oi.dst v) w → wpAnyG P md ops Q S z (fuel + 1) listed a w := by
  intro fuel
  induction fuel with
  | zero =>
    intro listed a w _ hr hy hS H
    refine ⟨fun h => (by rw [h] at hr; cases hr), fun j hj => ?_⟩
    by_cases hji : j = i
    · subst hji; exact hy.wpOp hi hS ⟨fun _ => hS, H⟩
    · have := ready_mono hj hji
      rw [H.1] at this
      cases this
  | succ fuel ih =>
    intro listed a w hfree hr hy hS H
    refine ⟨fun h => (by rw [h] at hr; cases hr), fun j hj => ?_⟩
    by_cases hji : j = i
    · subst hji; exact hy.wpOp hi hS ⟨fun _ => hS, H⟩
    · have h1 := H.2 j (ready_mono hj hji)
      obtain ⟨hjun, oj, hoj, hall⟩ := mem_ready.1 hj
      have hnot : ∀ e ∈ oj.after, Region.binds md e = true → e.on ≠ i := fun e he hb heq => by
        have h1 := hall e he hb
        have h0 := (mem_ready.1 hr).1
        rw [heq, getD_both h0] at h1
        cases h1
      have h2 := wpOp_putQ hoj (hfree j oj hoj hji hjun hnot) (fun cs b => hsel i oi cs b hi) (fun cs b => hsel j oj cs b hoj) hQ hy h1
      have hfree' : ∀ k ok, ops[k]? = some ok → k ≠ i → (listed.setIfInBounds j true).getD k true = false →
          (∀ e ∈ ok.after, Region.binds md e = true → e.on ≠ i) → oi.apart ops ok = true := fun k ok hk hki hun hno => by
        refine hfree k ok hk hki ?_ hno
        by_cases hjk : j = k
        · subst hjk; exact hjun
        · rw [getD_set_ne true hjk] at hun; exact hun
      have hjz : j ≠ z := by
        rintro rfl
        obtain ⟨oz, hoz, e, he, hb, hon⟩ := Region.waitsFor_spec hz
        obtain rfl : oz = oj := Option.some.inj (hoz.symm.trans hoj)
        exact hnot e he hb hon
      refine wpOp_mono (fun a' w' h3 => ⟨h3.2.1, ih (listed.setIfInBounds j true) a' w' hfree' (ready_mono hr (Ne.symm hji)) h3.1 (h3.2.1 hjz) ?_⟩) h2
      rw [Array.setIfInBounds_comm _ _ hji]
      exact h3.2.2

/-- The operations of a list, each with the value that it leaves in every world that meets S. -/
def wpU (P : Program) (ops : Array Oper) (S : World → Prop) (L : Act → Prop) : List Oper → Act → Prop
  | [], a => L a
  | o :: rest, a => ∃ v, YQ P ops S o v a ∧ wpU P ops S L rest (a.put o.dst v)

def dstsB : List Oper → Nat → Bool
  | [], _ => true
  | o :: rest, sz => (match o.dst with | some d => decide (d < sz) && rest.all (fun p => decide (p.dst ≠ some d)) | none => false) && dstsB rest sz

theorem put_size (a : Act) (d : Option Tmp) (v : Value) : (a.put d v).tmps.size = a.tmps.size := by
  cases d <;> simp [Act.put]
theorem put_other (a : Act) {d : Tmp} {e : Option Tmp} (h : e ≠ some d) (v : Value) : (a.put e v).tmps[d]? = a.tmps[d]? := by
  cases e with
  | none => rfl
  | some e => simp only [Act.put]; rw [Array.getElem?_setIfInBounds_ne]; intro he; exact h (by rw [he])

theorem still_keeps {w : World} {aF : Act} {d : Tmp} : ∀ (l : List Oper) (a : Act), (∀ p ∈ l, p.dst ≠ some d) → wpStill P ops w (· = aF) l a → aF.tmps[d]? = a.tmps[d]?
  | [], a, _, h => by rw [← (show a = aF from h)]
  | o :: l, a, hd, h => by
    have h0 : stOp P #[o] w 0 (fun _ => True) a ∨ True := .inr trivial
    have hne := hd o (by simp)
    have hl : ∀ p ∈ l, p.dst ≠ some d := fun p hp => hd p (by simp [hp])
    unfold wpStill at h
    split at h
    · unfold Oper.still at h
      generalize (execOp a.eval o).run P w = r at h
      cases r with
      | ok n w' =>
        cases n <;> simp only [Oper.stillUpon] at h
        case value u => exact (still_keeps l _ hl h.2).trans (put_other a hne u)
        case skip => exact (still_keeps l _ hl h.2).trans (put_other a hne _)
        case enter f args => obtain ⟨_, v, _, h2⟩ := h; exact (still_keeps l _ hl h2).trans (put_other a hne v)
      | halt x w' => simp only [Oper.stillUpon] at h
    · exact (still_keeps l _ hl h).trans (put_other a hne _)

theorem still_at {w : World} {L : Act → Prop} {k : Nat} {o : Oper} {l : List Oper} {a : Act} (hk : ops[k]? = some o) (h : wpStill P ops w L (o :: l) a) : ∃ v, YieldsAt P ops w o v a ∧ wpStill P ops w L l (a.put o.dst v) := by
  have hst : stOp P ops w k (wpStill P ops w L l) a := by unfold stOp; simp only [hk]; exact h
  exact yieldsAt_of_stOp hk hst

theorem wpU_of_still {aF : Act} {w0 : World} (h0 : S w0) : ∀ (l : List Oper) (k : Nat) (a : Act), (∀ j, j < l.length → l[j]? = ops[k + j]?) → dstsB l a.tmps.size = true →
    (∀ W, S W → wpStill P ops W (· = aF) l a) → wpU P ops S (· = aF) l a
  | [], _, a, _, _, h => h w0 h0
  | o :: l, k, a, hl, hd, h => by
    have hk : ops[k]? = some o := by simpa using (hl 0 (by simp)).symm
    simp only [dstsB, Bool.and_eq_true] at hd
    obtain ⟨hd1, hd2⟩ := hd
    cases hdst : o.dst with
    | none => rw [hdst] at hd1; cases hd1
    | some d =>
      rw [hdst] at hd1
      simp only [Bool.and_eq_true, decide_eq_true_eq, List.all_eq_true] at hd1
      obtain ⟨hlt, hall⟩ := hd1
      have key : ∀ W, S W → ∀ v, wpStill P ops W (· = aF) l (a.put o.dst v) → aF.tmps[d]? = some v := fun W _ v hv => by
        rw [still_keeps l _ hall hv, hdst]
        simp [Act.put, hlt]
      obtain ⟨v, hy, hn⟩ := still_at hk (h w0 h0)
      have hv := key w0 h0 v hn
      refine ⟨v, fun W hS => ?_, wpU_of_still h0 l (k + 1) _ (fun j hj => by have := hl (j + 1) (by simp; omega); simpa [Nat.add_assoc, Nat.add_comm 1 j] using this) (by rw [put_size]; exact hd2) (fun W hS => ?_)⟩
      · obtain ⟨v', hy', hn'⟩ := still_at hk (h W hS)
        have := key W hS v' hn'
        rw [hv] at this
        obtain rfl : v = v' := Option.some.inj this
        exact hy'
      · obtain ⟨v', hy', hn'⟩ := still_at hk (h W hS)
        have := key W hS v' hn'
        rw [hv] at this
        obtain rfl : v = v' := Option.some.inj this
        exact hn'

/-- The head in the text's order. -/
def headB (md : Region.Mode) (ops : Array Oper) (z : Nat) : Nat → Nat → Array Bool → Bool
  | 0, _, _ => true
  | f + 1, k, listed => (Region.ready md ops listed).contains k && Region.free md ops listed k && Region.waitsFor md ops z k && headB md ops z f (k + 1) (listed.setIfInBounds k true)
def listedOf : Nat → Nat → Array Bool → Array Bool
  | 0, _, l => l
  | f + 1, k, l => listedOf f (k + 1) (l.setIfInBounds k true)

theorem wpAnyG_head {z g : Nat} {w : World} {aF : Act} (hsel : Region.noSelect ops = true) (hQ : ∀ c a d v w, Q (.panic c) (Act.put a d v) w → Q (.panic c) a w) (hS : S w) :
    ∀ (l : List Oper) (k : Nat) (listed : Array Bool) (a : Act), (∀ j, j < l.length → l[j]? = ops[k + j]?) → headB md ops z l.length k listed = true → wpU P ops S (· = aF) l a →
    wpAnyG P md ops Q S z g (listedOf l.length k listed) aF w → wpAnyG P md ops Q S z (l.length + g) listed a w
  | [], k, listed, a, _, _, hu, h => by
    rw [show a = aF from hu]
    simpa [listedOf] using h
  | o :: l, k, listed, a, hl, hB, hu, h => by
    have h0 : ops[k]? = some o := by simpa using (hl 0 (by simp)).symm
    simp only [List.length_cons, headB, Bool.and_eq_true] at hB
    obtain ⟨⟨⟨hr, hf⟩, hz⟩, hB'⟩ := hB
    obtain ⟨v, hy, hu'⟩ := hu
    rw [show (o :: l).length + g = (l.length + g) + 1 by simp; omega]
    exact wpAnyG_first h0 (Region.noSelect_spec hsel) (fun c a w => hQ c a _ _ w) hz _ listed a w (Region.free_spec h0 hf) (by simpa using hr) hy hS
      (wpAnyG_head hsel hQ hS l (k + 1) _ _ (fun j hj => by have := hl (j + 1) (by simp; omega); simpa [Nat.add_assoc, Nat.add_comm 1 j] using this) hB' hu' h)

def isAlloc (o : Oper) : Bool := match o.op with | .alloc _ => o.guard.isNone | _ => false
/-- n operations that read, an alloc, one operation that waits for all. -/
def allocB (l : List Oper) (n : Nat) : Bool :=
  Region.noSelect l.toArray && decide (l.length = n + 2) && headB .any l.toArray (n + 1) n 0 (Array.replicate l.length false) &&
  Region.seqB .any l.toArray 2 n (listedOf n 0 (Array.replicate l.length false)) && (match l[n]? with | some o => isAlloc o | none => false)

theorem alloc_run (t : TypeId) (w : World) : (∃ v obj, (Instr.alloc t true (.tuple #[])).run P w = .ok v (w.alloc obj)) ∨ (∃ x w', (Instr.alloc t true (.tuple #[])).run P w = .halt x w') := by
  cases hi : P.info? t with
  | none => exact .inr (by simp [Instr.alloc, zeroValue, typeInfo, hi])
  | some i =>
    cases hz : i.zero with
    | none => exact .inr (by simp [Instr.alloc, zeroValue, typeInfo, hi, hz])
    | some z => exact .inl ⟨_, .cells z.cells t, by simp [Instr.alloc, zeroValue, typeInfo, hi, hz, go_sem]; rfl⟩

theorem alloc_wp {o : Oper} (ho : isAlloc o = true) {a : Act} {w : World} {K : Act → World → Prop} (h : o.wp P a w K Q) : o.wp P a w (fun a' w' => (∃ obj, w' = w.alloc obj) ∧ K a' w') Q := by
  obtain ⟨t, ht⟩ : ∃ t, o.op = .alloc t := by
    unfold isAlloc at ho
    split at ho
    · exact ⟨_, by assumption⟩
    · cases ho
  unfold Oper.wp execOp at *
  simp only [ht] at *
  rcases alloc_run (P := P) t w with ⟨v, obj, hr⟩ | ⟨x, w', hr⟩
  · simp only [Sem.run_bind, hr, Result.andThen_ok, Sem.run_pure, Oper.upon] at h ⊢
    exact ⟨⟨_, rfl⟩, h⟩
  · simp only [Sem.run_bind, hr] at h ⊢
    cases x <;> simp only [Result.andThen, Oper.upon] at h ⊢
    all_goals exact h

/-- **The region**: n operations that only read, in every world that meets S; an alloc; one operation behind all. -/
theorem region_alloc {id : Nat} {a : Act} {w : World} {l : List Oper} (n : Nat) (S : World → Prop) (aF : Act) (hm : P.follows .mixedOrders = true) (hB : allocB l n = true) (hd : dstsB (l.take n) a.tmps.size = true)
    (hQ : ∀ c a d v w, Q (.panic c) (Act.put a d v) w → Q (.panic c) a w) (hS : S w.drew) (hS2 : ∀ obj, S (w.drew.alloc obj))
    (hu : ∀ W, S W → wpStill P l.toArray W (· = aF) (l.take n) a) (h : wpList P l.toArray Q (l.drop n) aF w.drew) : (Code.region id l.toArray true).wp P Q a w := by
  simp only [allocB, Bool.and_eq_true, decide_eq_true_eq] at hB
  obtain ⟨⟨⟨⟨hsel, hlen⟩, hhd⟩, hsq⟩, hal⟩ := hB
  have htl : (l.take n).length = n := by simp; omega
  refine wp_region_any hm (wpAny_of_G (S := S) (z := n + 1) _ _ _ _ ?_)
  have hU := wpU_of_still (P := P) (ops := l.toArray) (w0 := w.drew) hS (l.take n) 0 a (fun j hj => by
    have hj' : j < n := by rw [htl] at hj; exact hj
    simp [hj']) hd hu
  have := wpAnyG_head (P := P) (ops := l.toArray) (md := .any) (Q := Q) (S := S) (z := n + 1) (g := 2) (w := w.drew) (aF := aF) hsel hQ hS (l.take n) 0 (Array.replicate l.length false) a (fun j hj => by
    have hj' : j < n := by rw [htl] at hj; exact hj
    simp [hj']) (by rw [htl]; exact hhd) hU
  rw [htl] at this
  have e : l.toArray.size = n + 2 := by simp; omega
  rw [show Array.replicate l.toArray.size false = Array.replicate l.length false by simp, e]
  refine this ?_
  clear this hU hu hd
  -- the tail
  obtain ⟨oa, ha⟩ : ∃ o, l[n]? = some o := ⟨l[n], List.getElem?_eq_getElem (by omega)⟩
  obtain ⟨oz, hz⟩ : ∃ o, l[n + 1]? = some o := ⟨l[n + 1], List.getElem?_eq_getElem (by omega)⟩
  rw [ha] at hal
  have hdrop : l.drop n = [oa, oz] := by
    apply List.ext_getElem?
    intro j
    rw [List.getElem?_drop]
    rcases j with _ | _ | j
    · simpa using ha
    · simpa using hz
    · simp; omega
  rw [hdrop] at h
  simp only [Region.seqB, Bool.and_eq_true, decide_eq_true_eq] at hsq
  obtain ⟨hr1, hr2, hr3⟩ := hsq
  refine ⟨fun h0 => (by rw [hr1] at h0; cases h0), fun i hi => ?_⟩
  rw [hr1] at hi
  obtain rfl : i = n := by simpa using hi
  have ha' : l.toArray[i]? = some oa := by simpa using ha
  have hz' : l.toArray[i + 1]? = some oz := by simpa using hz
  have hg : oa.guard = none := by
    simp only [isAlloc] at hal
    split at hal
    · simpa using hal
    · cases hal
  have hwant : Region.wanted oa (yielded l.toArray aF.tmps) = true := by simp [Region.wanted, hg]
  have h1 : oa.wp P aF w.drew (wpList P l.toArray Q [oz]) Q ∨ (oa.asks P aF w.drew ∧ LetsOut Q) := by
    have h' := h
    unfold wpList at h'
    simpa [hwant] using h'
  unfold Go.wpOp
  simp only [ha', hwant, if_true]
  rcases h1 with h1 | h1
  case inr => exact .inr h1
  refine .inl ?_
  have h2 := alloc_wp hal h1
  refine Oper.wp_mono ?_ h2
  rintro a' w' ⟨⟨obj, rfl⟩, hK⟩
  refine ⟨fun _ => hS2 obj, fun h0 => (by rw [hr2] at h0; cases h0), fun i' hi' => ?_⟩
  rw [hr2] at hi'
  obtain rfl : i' = i + 1 := by simpa using hi'
  have hw : Go.wpOp P l.toArray Q (i + 1) (wpList P l.toArray Q []) a' (w.drew.alloc obj) := by
    unfold Go.wpOp
    simp only [hz']
    exact hK
  exact wpOp_mono (fun a'' w'' hq => ⟨fun hne => absurd rfl hne, by simpa using hr3, hq⟩) hw

/-- Q, and no panic. -/
def NoP (Q : Exit → Act → World → Prop) (e : Exit) (a : Act) (w : World) : Prop := (∀ c, e ≠ .panic c) ∧ Q e a w
theorem NoP.normal {a : Act} {w : World} (h : Q .normal a w) : NoP Q .normal a w := ⟨fun _ h => (by cases h), h⟩
/-- The same, where nothing is known of a panic's post: the region is shown not to panic. -/
theorem region_allocN {id : Nat} {a : Act} {w : World} {l : List Oper} (n : Nat) (S : World → Prop) (aF : Act) (hm : P.follows .mixedOrders = true) (hB : allocB l n = true) (hd : dstsB (l.take n) a.tmps.size = true)
    (hS : S w.drew) (hS2 : ∀ obj, S (w.drew.alloc obj))
    (hu : ∀ W, S W → wpStill P l.toArray W (· = aF) (l.take n) a) (h : wpList P l.toArray (NoP Q) (l.drop n) aF w.drew) : (Code.region id l.toArray true).wp P Q a w :=
  Code.wp_mono (fun _ _ _ h => h.2) (region_alloc (Q := NoP Q) n S aF hm hB hd (fun c _ _ _ _ h => absurd rfl (h.1 c)) hS hS2 hu h)
end
end Go.Proofs.YtdlbighnmbjofaaDoor
