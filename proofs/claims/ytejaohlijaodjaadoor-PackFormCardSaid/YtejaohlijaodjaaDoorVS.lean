/- The end of a call that defers one call. No program stands in this text. -/
import Derived.Test.YtejaohlijaodjaaDoorVR
namespace Go.Proofs.YtejaohlijaodjaaDoor
open Go Go.RowKit

theorem Gat.frT {T : Nat → Prop} {w W : World} {g : Nat} {c : List Value} (h : Gat w g c) (hf : Fr T w W) (hn : ¬ T g) : Gat W g c := h.same (hf.block g h.1 hn)
def LoadsTo (P : Program) (t : TypeId) (g : Nat) (v : Value) (W : World) : Prop := (loadVar t ⟨g, 0, none⟩).run P W = .ok v W
section
variable {P : Program} {n : Nat} {ρ : Nat → Value} {W w w0 : World} {v : Value} {T : Nat → Prop} {L : List Fact} {t t' : TypeId} {g : Nat}
theorem loads1 (ha : aggB P t = some false) (h : W.heap[g]? = some (.cells [v].toArray t' (0, 0))) : LoadsTo P t g v W := by
  exact run_load1 ha (by rw [blk_cell h]; rfl)
theorem loadsM {c : List Value} (ha : aggB P t = some true) (hs : (P.info? t).map (·.size) = some c.length) (h : W.heap[g]? = some (.cells c.toArray t' (0, 0))) : LoadsTo P t g (.agg c.toArray) W := by
  unfold LoadsTo
  unfold aggB at ha
  cases hu : P.underlying t with
  | none => rw [hu] at ha; cases ha
  | some d =>
    rw [hu] at ha
    exact run_loadVar_row W g t' t c.toArray (0, 0) d h hu (by cases d <;> simp_all) (by simpa using hs)
theorem run_resc {fn : Func} {p : Tmp} {a : Act} (hr : fn.results = #[.cell p t]) (hp : a.tmps.getD p undef = .pointer (some ⟨g, 0, none⟩)) (h : LoadsTo P t g v W) : (results fn a.tmps).run P W = .ok v W := by
  have hp' : a.tmps[p]?.getD undef = .pointer (some ⟨g, 0, none⟩) := by simpa using hp
  unfold LoadsTo at h
  simp [results, hr, hp', asAddr, h]
theorem q_defer {fn fn' : Func} {R : Ending → World → Prop} {p : Tmp} {fd : FuncId} {cap : Array Value} {l : List Value} {a : Act} {u u2 : FrameMode} {Φ : World → Prop} (hr : fn.results = #[.cell p t]) (hd : a.defers = [{ target := .fn (.func fd) cap, args := #[] }]) (hp : a.tmps.getD p undef = .pointer (some ⟨g, 0, none⟩))
    (hf : P.funcs[fd]? = some fn') (hb : fn'.body.isNone = false) (hn : (fn'.name == "runtime.NumGoroutine") = false) (hl : cap.toList = l) (hu : u ≠ .run) (hs : settle u2 = .returning)
    (hc : CallsD P fd l.toArray u W (fun e u' w' => (∃ v, e = .returned v) ∧ u' = u2 ∧ Φ w')) (k : ∀ W', Φ W' → ∃ v, LoadsTo P t g v W' ∧ R (.returned v) W') : Leaves P fn a.tmps R a.defers u W := by
  rw [hd]
  refine leave_one hu hf hb hn (by simpa using hl) (hc.mono fun e u' w' q => ?_)
  obtain ⟨h1, rfl, h2⟩ := q
  obtain ⟨v, h3, h4⟩ := k w' h2
  exact ⟨h1, hs, v, run_resc hr hp h3, h4⟩
theorem q_dret {fn fn' : Func} {R : Ending → World → Prop} {p : Tmp} {fd : FuncId} {cap : Array Value} {l : List Value} (hr : fn.results = #[.cell p t]) (hp : ev n ρ (.tmp p) = .pointer (some ⟨g, 0, none⟩))
    (hf : P.funcs[fd]? = some fn') (hb : fn'.body.isNone = false) (hn : (fn'.name == "runtime.NumGoroutine") = false) (hl : cap.toList = l)
    (hc : CallsD P fd l.toArray .returning W (fun e u' w' => (∃ v, e = .returned v) ∧ u' = .returning ∧ Below W.heap.size W w')) (k : ∀ W', Below W.heap.size W W' → ∃ v, LoadsTo P t g v W' ∧ R (.returned v) W') : bodyPostD P fn R .ret (st n ρ [{ target := .fn (.func fd) cap, args := #[] }]) W :=
  q_defer hr rfl (by rw [st_getD]; exact hp) hf hb hn hl (by simp) rfl hc k
theorem q_dpan {fn fn' : Func} {R : Ending → World → Prop} {p : Tmp} {fd : FuncId} {cap : Array Value} {l : List Value} {a : Act} {z : Value} {Φ : World → Prop} (hr : fn.results = #[.cell p t]) (hd : a.defers = [{ target := .fn (.func fd) cap, args := #[] }]) (hp : a.tmps.getD p undef = .pointer (some ⟨g, 0, none⟩))
    (hf : P.funcs[fd]? = some fn') (hb : fn'.body.isNone = false) (hn : (fn'.name == "runtime.NumGoroutine") = false) (hl : cap.toList = l)
    (hc : CallsD P fd l.toArray (.panicking [{ v := z, recovered := false }]) W (fun e u' w' => (∃ v, e = .returned v) ∧ u' = .panicking [{ v := z, recovered := true }] ∧ Φ w')) (k : ∀ W', Φ W' → ∃ v, LoadsTo P t g v W' ∧ R (.returned v) W') : bodyPostD P fn R (.panic [{ v := z, recovered := false }]) a W :=
  q_defer hr hd hp hf hb hn hl (by simp) settle_pan hc k
theorem getD_lo {ds : List Deferred} {lo : Nat} {a' : Act} {j : Nat} (h : ∀ j, j < lo → a'.tmps[j]? = (st n ρ ds).tmps[j]?) (hj : j < lo) (hv : ev n ρ (.tmp j) = v) : a'.tmps.getD j undef = v := by
  rw [← hv]
  have := h j hj
  rw [show a'.tmps.getD j undef = a'.tmps[j]?.getD undef by simp, this, show (st n ρ ds).tmps[j]?.getD undef = (st n ρ ds).tmps.getD j undef by simp]
  exact st_getD j
theorem RdB.close2 {u t r n0 c0 c o : Nat} {A0 A : Option Addr} {s : RS} {ys : List UInt8} {f1 f2 : Fact} {Y : List UInt8 → Prop} (hY : Y ys) (H : St T w0 W [f1, f2, Fact.blk r [.slice A s.1.length c, .int .i64 s.2] t, Fact.row u 1 (.slice A0 n0 c0) n0 (ys.map u8v)]) (hL : LeftP A0 n0 c0 A c o ys s) : St T w0 W [RdYP u t r A0 n0 c0 Y s, f1, f2] := by
  have H1 := H.perm (List.perm_append_comm (l₁ := [f1, f2]) (l₂ := [Fact.blk r [.slice A s.1.length c, .int .i64 s.2] t, Fact.row u 1 (.slice A0 n0 c0) n0 (ys.map u8v)]))
  have h2 : W.ownsRow 0 u 1 (.slice A0 n0 c0) n0 (ys.map u8v) := H1.holds _ (.tail _ (.head _))
  exact H1.merge ⟨A, c, o, ys, H1.holds _ (.head _), h2, (List.pairwise_cons.1 H1.apart).1 _ (.head _) r rfl, hL, held_nil, hY⟩ (fun g hg => hg)
end
end Go.Proofs.YtejaohlijaodjaaDoor
