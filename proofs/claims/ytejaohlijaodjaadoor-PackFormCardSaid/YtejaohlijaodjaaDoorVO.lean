/- The operations, each by a rule of its own. No program stands in this text. -/
import Derived.Test.YtejaohlijaodjaaDoorVF
import Derived.IntWalk
import Derived.Laws.CopyRow
namespace Go.Proofs.YtejaohlijaodjaaDoor
open Go Go.RowKit

/-- The operation leaves the value v and the world W'. -/
def Runs (P : Program) (n : Nat) (ρ : Nat → Value) (o : Oper) (W : World) (v : Value) (W' : World) : Prop := (execOp (ev n ρ) o).run P W = .ok (.value v) W'
/-- The operation leaves no value. -/
def Does (P : Program) (n : Nat) (ρ : Nat → Value) (o : Oper) (W W' : World) : Prop := (execOp (ev n ρ) o).run P W = .ok .skip W'

section
variable {P : Program} {ops : Array Oper} {Q : Exit → Act → World → Prop} {rest : List Oper} {o : Oper} {n : Nat} {ρ : Nat → Value} {ds : List Deferred} {W W' : World} {d : Tmp} {v : Value}

/-- The operation is to be carried out, and leads to K. -/
def Step (P : Program) (ops : Array Oper) (Q : Exit → Act → World → Prop) (o : Oper) (a : Act) (w : World) (K : Act → World → Prop) : Prop := Region.wanted o (yielded ops a.tmps) = true ∧ o.wp P a w K Q
theorem w_none {a : Act} (hg : o.guard = none) : Region.wanted o (yielded ops a.tmps) = true := by simp [Region.wanted, hg]
theorem wanted_g {j : Nat} {want b : Bool} {oj : Oper} {e : Tmp} (hg : o.guard = some (j, want)) (hj : ops[j]? = some oj) (he : oj.dst = some e) (hv : ev n ρ (.tmp e) = .bool b) : Region.wanted o (yielded ops (st n ρ ds).tmps) = (b == want) := by
  have hlt : Nat.blt e n = true := by
    cases h : Nat.blt e n with
    | true => rfl
    | false => simp only [ev, h, cond_false] at hv; cases hv
  have h1 : (st n ρ ds).tmps[e]? = some (.bool b) := by
    have h2 := st_getD (n := n) (ρ := ρ) (ds := ds) e
    simp only [ev] at hv
    rw [hv] at h2
    rw [Array.getD_eq_getD_getElem?] at h2
    cases h3 : (st n ρ ds).tmps[e]? with
    | none => rw [h3] at h2; cases h2
    | some u => rw [h3] at h2; exact congrArg some h2
  unfold Region.wanted yielded
  rw [hg]
  simp only [hj, he, Option.bind_some, h1]
  cases b <;> cases want <;> rfl
theorem w_g {j : Nat} {want : Bool} {oj : Oper} {e : Tmp} (hg : o.guard = some (j, want)) (hj : ops[j]? = some oj) (he : oj.dst = some e) (hv : ev n ρ (.tmp e) = .bool want) : Region.wanted o (yielded ops (st n ρ ds).tmps) = true := by
  rw [wanted_g hg hj he hv]; simp
theorem w_gno {j : Nat} {want b : Bool} {oj : Oper} {e : Tmp} (hg : o.guard = some (j, want)) (hj : ops[j]? = some oj) (he : oj.dst = some e) (hv : ev n ρ (.tmp e) = .bool b) (hne : (b == want) = false) : Region.wanted o (yielded ops (st n ρ ds).tmps) = false := by
  rw [wanted_g hg hj he hv, hne]

/- Steps of a region in the text's order. -/
theorem s_eff {a : Act} (h : Step P ops Q o a W (wpList P ops Q rest)) : wpList P ops Q (o :: rest) a W := by
  unfold wpList
  rw [if_pos h.1]
  exact .inl h.2
theorem s_run (hw : Region.wanted o (yielded ops (st n ρ ds).tmps) = true) (hd : o.dst = some d) (h : Runs P n ρ o W v W') (k : wpList P ops Q rest (st n (upd ρ d v) ds) W') : wpList P ops Q (o :: rest) (st n ρ ds) W :=
  s_eff ⟨hw, by
    unfold Oper.wp
    rw [st_eval, show (execOp (ev n ρ) o).run P W = _ from h]
    show wpList P ops Q rest ((st n ρ ds).put o.dst v) W'
    rw [hd, st_put]
    exact k⟩
theorem s_skip (hw : Region.wanted o (yielded ops (st n ρ ds).tmps) = false) (hd : o.dst = some d) (k : wpList P ops Q rest (st n (upd ρ d undef) ds) W) : wpList P ops Q (o :: rest) (st n ρ ds) W := by
  unfold wpList
  rw [hw, hd, st_put]
  exact k

section
variable {K : Act → World → Prop}
theorem e_run (hw : Region.wanted o (yielded ops (st n ρ ds).tmps) = true) (hd : o.dst = some d) (h : Runs P n ρ o W v W') (k : K (st n (upd ρ d v) ds) W') : Step P ops Q o (st n ρ ds) W K :=
  ⟨hw, by
    unfold Oper.wp
    rw [st_eval, show (execOp (ev n ρ) o).run P W = _ from h]
    show K ((st n ρ ds).put o.dst v) W'
    rw [hd, st_put]
    exact k⟩
theorem e_do (hw : Region.wanted o (yielded ops (st n ρ ds).tmps) = true) (hd : o.dst = none) (h : Does P n ρ o W W') (k : K (st n ρ ds) W') : Step P ops Q o (st n ρ ds) W K :=
  ⟨hw, by
    unfold Oper.wp
    rw [st_eval, show (execOp (ev n ρ) o).run P W = _ from h]
    show K ((st n ρ ds).put o.dst undef) W'
    rw [hd]
    exact k⟩
/-- A call of a function of the program. -/
theorem e_call {f : FuncId} {fn : Func} {args : Array Operand} {ats : Array TypeId} {l : List Value} {S : Value → World → Prop} (hw : Region.wanted o (yielded ops (st n ρ ds).tmps) = true) (hd : o.dst = some d) (ho : o.op = .call { callee := .value (.func f), args := args, argTypes := ats })
    (hf : P.funcs[f]? = some fn) (hb : fn.body.isNone = false) (hn : (fn.name == "runtime.NumGoroutine") = false) (hl : (args.toList.map (ev n ρ)) = l)
    (hc : Calls P f l.toArray W (fun e w' => ∃ v, e = .returned v ∧ S v w')) (k : ∀ v W', S v W' → K (st n (upd ρ d v) ds) W') : Step P ops Q o (st n ρ ds) W K :=
  ⟨hw, by
    have he : (execOp (ev n ρ) o).run P W = .ok (.enter f l.toArray) W := by
      unfold execOp
      simp only [ho, resolve, ev, Deferred.ofValue, invoke, callFunc, Sem.run_bind, Sem.run_pure, Result.andThen_ok]
      have hmap : args.map (ev n ρ) = l.toArray := by
        rw [← hl]; apply Array.ext'; simp
      have hn' : fn.name ≠ "runtime.NumGoroutine" := by simpa using hn
      have hb' : fn.body ≠ none := by
        intro h; rw [h] at hb; cases hb
      simp [hf, hb', hn', hmap]
    unfold Oper.wp
    rw [st_eval, he]
    refine Calls.mono hc fun e w' hS => ?_
    obtain ⟨v, rfl, hS⟩ := hS
    show K ((st n ρ ds).put o.dst v) w'
    rw [hd, st_put]
    exact k v w' hS⟩
/-- A call of a function value. -/
theorem e_callv {x : Operand} {f : FuncId} {fn : Func} {pre cap : Array Value} {args : Array Operand} {ats : Array TypeId} {l : List Value} {S : Value → World → Prop} (hw : Region.wanted o (yielded ops (st n ρ ds).tmps) = true) (hd : o.dst = some d) (ho : o.op = .call { callee := .value x, args := args, argTypes := ats })
    (hx : ev n ρ x = .func (.func f) pre cap) (hf : P.funcs[f]? = some fn) (hb : fn.body.isNone = false) (hn : (fn.name == "runtime.NumGoroutine") = false) (hl : pre.toList ++ (args.toList.map (ev n ρ)) ++ cap.toList = l)
    (hc : Calls P f l.toArray W (fun e w' => ∃ v, e = .returned v ∧ S v w')) (k : ∀ v W', S v W' → K (st n (upd ρ d v) ds) W') : Step P ops Q o (st n ρ ds) W K :=
  ⟨hw, by
    have he : (execOp (ev n ρ) o).run P W = .ok (.enter f l.toArray) W := by
      unfold execOp
      simp only [ho, resolve, hx, Deferred.ofValue, invoke, callFunc, Sem.run_bind, Sem.run_pure, Result.andThen_ok]
      have hmap : pre ++ args.map (ev n ρ) ++ cap = l.toArray := by
        rw [← hl]; apply Array.ext'; simp
      have hn' : fn.name ≠ "runtime.NumGoroutine" := by simpa using hn
      have hb' : fn.body ≠ none := by
        intro h; rw [h] at hb; cases hb
      simp [hf, hb', hn', hmap]
    unfold Oper.wp
    rw [st_eval, he]
    refine Calls.mono hc fun e w' hS => ?_
    obtain ⟨v, rfl, hS⟩ := hS
    show K ((st n ρ ds).put o.dst v) w'
    rw [hd, st_put]
    exact k v w' hS⟩
end
end
end Go.Proofs.YtejaohlijaodjaaDoor
