/- Panics, deferred calls, recover. No program stands in this text. -/
import Derived.Test.YtejaohlijaodjaaDoorVD
import Derived.Recover
namespace Go.Proofs.YtejaohlijaodjaaDoor
open Go Go.RowKit

/-- The call panics with x. -/
def Pan (x : Value) (Ψ : World → Prop) : Ending → World → Prop := fun e w' => e = .panicked [{ v := x, recovered := false }] ∧ Ψ w'
section
variable {P : Program} {ops : Array Oper} {Q : Exit → Act → World → Prop} {o : Oper} {n : Nat} {ρ : Nat → Value} {ds : List Deferred} {W w : World} {K : Act → World → Prop} {d : Tmp} {x y : Operand} {v z : Value} {Ψ : World → Prop} {t t' : TypeId}
theorem e_callP {f : FuncId} {fn : Func} {args : Array Operand} {ats : Array TypeId} {l : List Value} (hw : Region.wanted o (yielded ops (st n ρ ds).tmps) = true) (ho : o.op = .call { callee := .value (.func f), args := args, argTypes := ats })
    (hf : P.funcs[f]? = some fn) (hb : fn.body.isNone = false) (hn : (fn.name == "runtime.NumGoroutine") = false) (hl : (args.toList.map (ev n ρ)) = l)
    (hc : Calls P f l.toArray W (Pan z Ψ)) (k : ∀ W', Ψ W' → Q (.panic [{ v := z, recovered := false }]) (st n ρ ds) W') : Step P ops Q o (st n ρ ds) W K :=
  ⟨hw, by
    have he : (execOp (ev n ρ) o).run P W = .ok (.enter f l.toArray) W := by
      unfold execOp
      simp only [ho, resolve, ev, Deferred.ofValue, invoke, callFunc, Sem.run_bind, Sem.run_pure, Result.andThen_ok]
      have hmap : args.map (ev n ρ) = l.toArray := by
        rw [← hl]; apply Array.ext'; simp
      have hn' : fn.name ≠ "runtime.NumGoroutine" := by simpa using hn
      have hb' : fn.body ≠ none := by
        intro h; rw [h] at hb; cases hb
      simp [hf, hb', hn', hmap]
    unfold Oper.wp
    rw [st_eval, he, Oper.upon_enter]
    refine Calls.mono hc (fun e w' h => ?_)
    obtain ⟨rfl, h⟩ := h
    exact k _ h⟩
theorem e_callvP {f : FuncId} {fn : Func} {pre cap : Array Value} {args : Array Operand} {ats : Array TypeId} {l : List Value} (hw : Region.wanted o (yielded ops (st n ρ ds).tmps) = true) (ho : o.op = .call { callee := .value x, args := args, argTypes := ats })
    (hx : ev n ρ x = .func (.func f) pre cap) (hf : P.funcs[f]? = some fn) (hb : fn.body.isNone = false) (hn : (fn.name == "runtime.NumGoroutine") = false) (hl : pre.toList ++ (args.toList.map (ev n ρ)) ++ cap.toList = l)
    (hc : Calls P f l.toArray W (Pan z Ψ)) (k : ∀ W', Ψ W' → Q (.panic [{ v := z, recovered := false }]) (st n ρ ds) W') : Step P ops Q o (st n ρ ds) W K :=
  ⟨hw, by
    have he : (execOp (ev n ρ) o).run P W = .ok (.enter f l.toArray) W := by
      unfold execOp
      simp only [ho, resolve, hx, Deferred.ofValue, invoke, callFunc, Sem.run_bind, Sem.run_pure, Result.andThen_ok]
      have hmap : pre ++ args.map (ev n ρ) ++ cap = l.toArray := by
        rw [← hl]; apply Array.ext'; simp
      have hn' : fn.name ≠ "runtime.NumGoroutine" := by simpa using hn
      have hb' : fn.body ≠ none := by
        intro h; rw [h] at hb; cases hb
      simp [hf, hb', hn', hmap]
    unfold Oper.wp
    rw [st_eval, he, Oper.upon_enter]
    refine Calls.mono hc (fun e w' h => ?_)
    obtain ⟨rfl, h⟩ := h
    exact k _ h⟩
theorem e_panic (hw : Region.wanted o (yielded ops (st n ρ ds).tmps) = true) (ho : o.op = .panic x) (hx : ev n ρ x = .iface t v) (k : Q (.panic [{ v := .iface t v, recovered := false }]) (st n ρ ds) W) : Step P ops Q o (st n ρ ds) W K :=
  ⟨hw, by
    unfold Oper.wp
    have he : (execOp (ev n ρ) o).run P W = .halt (.panic (.iface t v)) W := by
      unfold execOp
      simp [ho, hx, Instr.panic, goPanic]
    rw [st_eval, he]
    exact k⟩
theorem q_pan {fn : Func} {R : Ending → World → Prop} {c : List PanicEntry} (h : R (.panicked c) w) : bodyPost P fn R (.panic c) (st n ρ []) w := ⟨rfl, h⟩
theorem d_mkiface (ho : o.op = .makeInterface t x) (hx : ev n ρ x = v) (hc : P.concrete t = true) : Runs P n ρ o W (.iface t v) W := by
  unfold Runs execOp
  simp [ho, hx, run_makeInterface _ t v hc]
theorem d_extract {l : List Value} {i : Nat} (ho : o.op = .extract x i) (hx : ev n ρ x = .tuple l.toArray) (hv : l[i]? = some v) : Runs P n ρ o W v W := by
  unfold Runs execOp
  simp [ho, hx, Instr.extract, hv]
theorem d_assertT {d : TypeDesc} (ho : o.op = .typeAssert x t' t true) (hx : ev n ρ x = .iface t v) (hu : P.underlying t = some d) (hd : (match d with | .interface _ => false | _ => true) = true) : Runs P n ρ o W (.tuple [v, .bool true].toArray) W := by
  unfold Runs execOp
  simp only [ho, hx, Instr.typeAssert, Sem.run_bind, run_underlying hu W, Result.andThen_ok]
  cases d <;> simp_all
theorem d_s2a {m c j : Nat} {e : TypeId} {A : Option Addr} (ho : o.op = .sliceToArrayPointer t x) (hx : ev n ρ x = .slice A m c) (hu : P.underlying t = some (.array j e)) (hl : j ≤ m) : Runs P n ρ o W (.pointer A) W := by
  unfold Runs execOp
  have : ¬ m < j := by omega
  simp [ho, hx, Instr.arrayAt, Sem.run_bind, run_underlying hu W, this]

/- A deferred call. -/
theorem e_defer {f : FuncId} {ats : Array TypeId} {pre cap : Array Value} (hw : Region.wanted o (yielded ops (st n ρ ds).tmps) = true) (hd : o.dst = none) (ho : o.op = .defer { callee := .value x, args := #[], argTypes := ats }) (hx : ev n ρ x = .func (.func f) pre cap)
    (k : K (st n ρ ({ target := .fn (.func f) cap, args := pre } :: ds)) W) : Step P ops Q o (st n ρ ds) W K :=
  ⟨hw, by
    unfold Oper.wp
    have he : (execOp (ev n ρ) o).run P W = .ok (.defer { target := .fn (.func f) cap, args := pre }) W := by
      unfold execOp
      simp [ho, hx, resolve, Deferred.ofValue]
    rw [st_eval, he, Oper.upon_defer, hd]
    exact k⟩
theorem k_enterD {f : FuncId} {fn : Func} {c : Code} {l : List Value} {R : Ending → World → Prop} (hf : P.funcs[f]? = some fn) (hb : fn.body = some c) (hl : Nat.ble l.length fn.ntmps = true)
    (h : wpK P (bodyPostD P fn R) [c] (st fn.ntmps (argsρ l) []) w) : Calls P f l.toArray w R := by
  refine calls_of_wp_defers hf hb ?_
  rw [st_args l (Nat.le_of_ble_eq_true hl)]
  exact Code.wp_mono (fun e a w q => by cases e <;> exact q) h
/-- At the end: one deferred call, which does not panic. -/
theorem leave_one {fn : Func} {R : Ending → World → Prop} {f : FuncId} {fn' : Func} {cap pre : Array Value} {u : FrameMode} {l : List Value} {a : Act} (hu : u ≠ .run) (hf : P.funcs[f]? = some fn') (hb : fn'.body.isNone = false) (hn : (fn'.name == "runtime.NumGoroutine") = false) (hl : pre.toList ++ cap.toList = l)
    (h : CallsD P f l.toArray u w (fun e u' w' => (∃ v, e = .returned v) ∧ settle u' = .returning ∧ ∃ v, (results fn a.tmps).run P w' = .ok v w' ∧ R (.returned v) w')) :
    Leaves P fn a.tmps R [{ target := .fn (.func f) cap, args := pre }] u w := by
  refine leaves_cons hu (f := f) (args := l.toArray) ?_ (h.mono fun e u' w' q => ?_)
  · have hn' : fn'.name ≠ "runtime.NumGoroutine" := by simpa using hn
    have hb' : fn'.body ≠ none := by
      intro h; rw [h] at hb; cases hb
    have hmap : pre ++ cap = l.toArray := by rw [← hl]; apply Array.ext'; simp
    simp [invoke, callFunc, Sem.run_bind, hf, hb', hn', hmap]
  · obtain ⟨⟨v, rfl⟩, hs, h⟩ := q
    show Leaves P fn a.tmps R [] (settle u') w'
    rw [hs]
    exact h
/- A deferred function that begins with recover. -/
theorem run_rec {o : Oper} {ρ' : Operand → Value} {ats : Array TypeId} (ho : o.op = .call { callee := .builtin .recover, args := #[], argTypes := ats }) : (execOp ρ' o).run P W = .ok .recover W := by
  unfold execOp
  simp [ho, resolve, invoke, builtin]
theorem k_enterR {f : FuncId} {fn : Func} {id : Nat} {o0 o1 : Oper} {rest : Code} {ats : Array TypeId} {l : List Value} {p q : Tmp} {u u' : FrameMode} {z : Value} {R : Ending → FrameMode → World → Prop} (hf : P.funcs[f]? = some fn) (hb : fn.body = some (.seq (.region id #[o0, o1] false) rest)) (hl : Nat.ble l.length fn.ntmps = true)
    (ho0 : o0.op = .call { callee := .builtin .recover, args := #[], argTypes := ats }) (hg0 : o0.guard = none) (hd0 : o0.dst = some p) (ho1 : o1.op = .assign (.tmp p)) (hg1 : o1.guard = none) (hd1 : o1.dst = some q)
    (hp : Nat.blt p fn.ntmps = true) (hr : ∀ (c : Frame) cs, c.mode = u → (recoverD (c :: cs)).getD (.nilIface, c :: cs) = (z, { c with mode := u' } :: cs))
    (h : wpK P (bodyPost P fn (fun e w' => R e u' w')) [rest] (st fn.ntmps (upd (upd (argsρ l) p z) q z) []) w) : CallsD P f l.toArray u w R := by
  refine callsD_of_wpS hf hb (fun c₀ cs hc => ?_)
  rw [st_args l (Nat.le_of_ble_eq_true hl)]
  refine wpS_seq (wpS_region ?_)
  have hr' := hr c₀ cs hc
  have hfin : ∀ a, wpK P (bodyPost P fn (fun e w' => R e u' w')) [rest] a w → rest.wpS P (bodyPostS P fn c₀ cs R) a ({ c₀ with mode := u' } :: cs) w := fun a ha => by
    refine wpS_of_wp (Code.wp_mono (fun e a w q => ?_) ha)
    cases e with
    | normal => obtain ⟨q1, v, q2, q3⟩ := q; exact ⟨q1, _, rfl, v, q2, q3⟩
    | ret => obtain ⟨q1, v, q2, q3⟩ := q; exact ⟨q1, _, rfl, v, q2, q3⟩
    | panic c => exact ⟨q.1, _, rfl, q.2⟩
    | outgrown => exact ⟨_, q⟩
    | exit i => exact q
    | goto i => exact q
  have hev : ∀ ρ : Nat → Value, (execOp (ev fn.ntmps (upd ρ p z)) o1).run P w = .ok (.value z) w := fun ρ => by
    unfold execOp
    simp [ho1, ev, hp, upd]
  simp only [List.range_succ, List.size_toArray, List.length_cons, List.length_nil, List.range_zero, List.nil_append, List.cons_append, wpOpsS]
  simp only [List.getElem?_toArray, List.getElem?_cons_zero, List.getElem?_cons_succ, w_none hg0, w_none hg1, if_true, run_rec ho0]
  cases hrec : recoverD (c₀ :: cs) with
  | none =>
    rw [hrec] at hr'
    obtain ⟨h1, h2⟩ := Prod.mk.inj hr'
    replace h1 : Value.nilIface = z := h1
    rw [h1, hd0]
    dsimp only
    rw [st_put, st_eval, hev]
    simp only [Oper.upon_value, hd1, st_put]
    rw [show c₀ :: cs = _ from h2]
    exact hfin _ h
  | some x =>
    rw [hrec] at hr'
    obtain ⟨v, cs'⟩ := x
    obtain ⟨h1, h2⟩ := Prod.mk.inj hr'
    subst h1 h2
    rw [hd0]
    dsimp only
    rw [st_put, st_eval, hev]
    simp only [Oper.upon_value, hd1, st_put]
    exact hfin _ h
theorem rec_ret : ∀ (c : Frame) cs, c.mode = .returning → (recoverD (c :: cs)).getD (.nilIface, c :: cs) = (.nilIface, { c with mode := .returning } :: cs) := fun c cs h => by
  obtain ⟨⟩ := c
  simp only at h
  subst h
  simp [recoverD]
theorem rec_pan : ∀ (c : Frame) cs, c.mode = .panicking [{ v := z, recovered := false }] → (recoverD (c :: cs)).getD (.nilIface, c :: cs) = (z, { c with mode := .panicking [{ v := z, recovered := true }] } :: cs) := fun c cs h => by
  obtain ⟨⟩ := c
  simp only at h
  subst h
  simp [recoverD]
theorem settle_ret : settle .returning = .returning := rfl
theorem settle_pan : settle (.panicking [{ v := z, recovered := true }]) = .returning := rfl
end

/- Regions that draw their order, and may panic. -/
def PanLo (lo : Nat) (Q : Exit → Act → World → Prop) (e : Exit) (a : Act) (w : World) : Prop :=
  (∀ c, e = .panic c → ∀ a' : Act, a'.defers = a.defers → (∀ j, j < lo → a'.tmps[j]? = a.tmps[j]?) → Q e a' w) ∧ Q e a w
end Go.Proofs.YtejaohlijaodjaaDoor
