/- The walk of this seat: frames as functions, code as lists, what is known of memory as a list of facts. No program stands in this text. -/
import Derived.Test.YtejaohlijaodjaaDoorBase
import Derived.Deep.MidRow
import Derived.Great.BuildSlice
import Derived.Defers
namespace Go.Proofs.YtejaohlijaodjaaDoor
open Go Go.RowKit

/- Frames. -/
def upd (ρ : Nat → Value) (d : Nat) (v : Value) : Nat → Value := fun j => bif Nat.beq j d then v else ρ j
def st (n : Nat) (ρ : Nat → Value) (ds : List Deferred) : Act := ⟨((List.range n).map ρ).toArray, ds⟩
def ev (n : Nat) (ρ : Nat → Value) : Operand → Value
  | .tmp t => bif Nat.blt t n then ρ t else undef
  | .const v => v
  | .global g => .pointer (some ⟨g, 0, none⟩)
  | .func f => .func (.func f) #[] #[]
def argsρ (l : List Value) : Nat → Value := fun j => l.getD j undef

section
variable {n : Nat} {ρ : Nat → Value} {ds : List Deferred}
theorem st_getD (t : Nat) : (st n ρ ds).tmps.getD t undef = bif Nat.blt t n then ρ t else undef := by
  unfold st
  by_cases h : t < n
  · have hb : Nat.blt t n = true := by rw [Nat.blt_eq]; exact h
    rw [hb]
    simp [h]
  · have hb : Nat.blt t n = false := by
      rw [← Bool.not_eq_true, Nat.blt_eq]; exact h
    rw [hb]
    simp [h]
theorem st_eval : (st n ρ ds).eval = ev n ρ := by
  funext x
  cases x with
  | tmp t => exact st_getD t
  | _ => rfl
theorem st_put (d : Nat) (v : Value) : (st n ρ ds).put (some d) v = st n (upd ρ d v) ds := by
  have e : ((List.range n).map ρ).toArray.setIfInBounds d v = ((List.range n).map (upd ρ d v)).toArray := by
   apply Array.ext_getElem?
   intro j
   simp only [List.getElem?_toArray, List.getElem?_map, Array.getElem?_setIfInBounds, List.size_toArray, List.length_map, List.length_range]
   by_cases hj : d = j
   · subst hj
     by_cases hn : d < n
     · simp [hn, upd]
     · simp [hn]
   · rw [if_neg hj]
     by_cases hn : j < n
     · rw [List.getElem?_range hn]
       have hb : Nat.beq j d = false := by
         cases hq : Nat.beq j d with
         | false => rfl
         | true => exact absurd (Nat.eq_of_beq_eq_true hq).symm hj
       simp [upd, hb]
     · have : (List.range n)[j]? = none := List.getElem?_eq_none (by simp; omega)
       rw [this]
       rfl
  exact congrArg (fun t => ({ tmps := t, defers := ds } : Act)) e
theorem st_args (l : List Value) (h : l.length ≤ n) : ({ tmps := l.toArray ++ Array.replicate (n - l.toArray.size) undef, defers := [] } : Act) = st n (argsρ l) [] := by
  have e : l.toArray ++ Array.replicate (n - l.toArray.size) undef = ((List.range n).map (argsρ l)).toArray := by
    apply Array.ext_getElem?
    intro j
    simp only [List.getElem?_toArray, List.getElem?_map, Array.getElem?_append, List.size_toArray, Array.getElem?_replicate]
    by_cases hj : j < l.length
    · rw [if_pos hj, List.getElem?_range (by omega)]
      show l[j]? = some (l.getD j undef)
      rw [List.getD_eq_getElem?_getD, List.getElem?_eq_getElem hj]
      rfl
    · rw [if_neg hj]
      by_cases hn : j < n
      · rw [List.getElem?_range hn, if_pos (by omega)]
        show some undef = some (l.getD j undef)
        rw [List.getD_eq_getElem?_getD, List.getElem?_eq_none (Nat.le_of_not_lt hj)]
        rfl
      · have : (List.range n)[j]? = none := List.getElem?_eq_none (by simp; omega)
        rw [this, if_neg (by omega)]
        rfl
  unfold st
  rw [e]
end

/- Code as a list. -/
def wpK (P : Program) (Q : Exit → Act → World → Prop) : List Code → Act → World → Prop
  | [], a, w => Q .normal a w
  | c :: cs, a, w => c.wp P (Exit.then (wpK P Q cs) Q) a w

section
variable {P : Program} {Q : Exit → Act → World → Prop} {a : Act} {w : World} {cs : List Code}
theorem k_enter {f : FuncId} {fn : Func} {c : Code} {l : List Value} {R : Ending → World → Prop} (hf : P.funcs[f]? = some fn) (hb : fn.body = some c) (hl : Nat.ble l.length fn.ntmps = true)
    (h : wpK P (bodyPost P fn R) [c] (st fn.ntmps (argsρ l) []) w) : Calls P f l.toArray w R := by
  refine calls_of_wp hf hb ?_
  rw [st_args l (Nat.le_of_ble_eq_true hl)]
  exact Code.wp_mono (fun e a w q => by cases e <;> exact q) h
theorem k_seq {x y : Code} (h : wpK P Q (x :: y :: cs) a w) : wpK P Q (.seq x y :: cs) a w :=
  wp_seq (Code.wp_mono (fun e a w q => by cases e <;> exact q) h)
theorem k_skip (h : wpK P Q cs a w) : wpK P Q (.skip :: cs) a w := wp_skip h
theorem k_label {l : Nat} (h : wpK P Q cs a w) : wpK P Q (.label l :: cs) a w := wp_label h
theorem k_ret (h : Q .ret a w) : wpK P Q (.ret :: cs) a w := wp_ret h
theorem k_exit {id : Nat} (h : Q (.exit id) a w) : wpK P Q (.exit id :: cs) a w := wp_exit h
theorem k_block {id : Nat} {c : Code} (h : wpK P (Exit.inBlock id (Exit.then (wpK P Q cs) Q)) [c] a w) : wpK P Q (.block id c :: cs) a w :=
  wp_block (Code.wp_mono (fun e a w q => by cases e <;> exact q) h)
theorem k_region {id : Nat} {l : List Oper} (h : wpList P l.toArray (Exit.then (wpK P Q cs) Q) l a w) : wpK P Q (.region id l.toArray false :: cs) a w := wp_region_lit h
theorem k_cond {c : Operand} {x y : Code} {n : Nat} {ρ : Nat → Value} {ds : List Deferred} {b : Bool} (hc : ev n ρ c = .bool b) (ht : b = true → wpK P Q (x :: cs) (st n ρ ds) w) (hf : b = false → wpK P Q (y :: cs) (st n ρ ds) w) :
    wpK P Q (.cond c x y :: cs) (st n ρ ds) w := by
  rw [← st_eval (ds := ds)] at hc
  exact wp_cond_split hc ht hf
theorem k_condT {c : Operand} {x y : Code} {n : Nat} {ρ : Nat → Value} {ds : List Deferred} {b : Bool} (hc : ev n ρ c = .bool b) (hb : b = true) (ht : wpK P Q (x :: cs) (st n ρ ds) w) : wpK P Q (.cond c x y :: cs) (st n ρ ds) w :=
  k_cond hc (fun _ => ht) (fun h => by rw [hb] at h; cases h)
theorem k_condF {c : Operand} {x y : Code} {n : Nat} {ρ : Nat → Value} {ds : List Deferred} {b : Bool} (hc : ev n ρ c = .bool b) (hb : b = false) (hf : wpK P Q (y :: cs) (st n ρ ds) w) : wpK P Q (.cond c x y :: cs) (st n ρ ds) w :=
  k_cond hc (fun h => by rw [hb] at h; cases h) (fun _ => hf)
theorem k_one {c : Code} (h : wpK P Q [c] a w) : c.wp P Q a w := Code.wp_mono (fun e a w q => by cases e <;> exact q) h
theorem l_nil {ops : Array Oper} {next : Act → World → Prop} (h : next a w) : wpList P ops (Exit.then next Q) [] a w := h
/-- The function's end. -/
theorem q_ret0 {fn : Func} {R : Ending → World → Prop} {n : Nat} {ρ : Nat → Value} (hr : fn.results = #[]) (h : R (.returned (.tuple #[])) w) : bodyPost P fn R .ret (st n ρ []) w := ⟨rfl, _, results_none hr _ _ _, h⟩
theorem q_end0 {fn : Func} {R : Ending → World → Prop} {n : Nat} {ρ : Nat → Value} (hr : fn.results = #[]) (h : R (.returned (.tuple #[])) w) : bodyPost P fn R .normal (st n ρ []) w := ⟨rfl, _, results_none hr _ _ _, h⟩
theorem q_ret {fn : Func} {R : Ending → World → Prop} {n : Nat} {ρ : Nat → Value} {t : Tmp} {v : Value} (hr : fn.results = #[.tmp t]) (hv : ev n ρ (.tmp t) = v) (h : R (.returned v) w) : bodyPost P fn R .ret (st n ρ []) w :=
  ⟨rfl, _, results_tmp hr _ _ _, by subst hv; rw [st_getD]; exact h⟩
theorem q_ret2 {fn : Func} {R : Ending → World → Prop} {n : Nat} {ρ : Nat → Value} {t u : Tmp} {v x : Value} (hr : fn.results = #[.tmp t, .tmp u]) (hv : ev n ρ (.tmp t) = v) (hx : ev n ρ (.tmp u) = x) (h : R (.returned (.tuple #[v, x])) w) : bodyPost P fn R .ret (st n ρ []) w :=
  ⟨rfl, _, results_tmp2 hr _ _ _, by subst hv hx; rw [st_getD, st_getD]; exact h⟩
/-- Exits. -/
theorem x_hit {id : Nat} {next : Act → World → Prop} (h : next a w) : Exit.inBlock id (Exit.then next Q) (.exit id) a w := by
  show if id = id then _ else _
  rw [if_pos rfl]; exact h
theorem x_miss {id id' : Nat} (hne : Nat.beq id' id = false) (h : Q (.exit id') a w) : Exit.inBlock id Q (.exit id') a w := by
  show if id' = id then _ else _
  rw [if_neg (fun e => by subst e; simp at hne)]; exact h
end
end Go.Proofs.YtejaohlijaodjaaDoor
