/- Ranges over functions. No program stands in this text. -/
import Derived.Test.YtejaohlijaodjaaDoorVH
import Derived.RangeFuncFrom
import Derived.RangeFuncLeaves
import Derived.Shelf.Abstract
import Derived.Laws.Bits64b
import Derived.Stop.IfaceNil
import Derived.Lib.ByteType
namespace Go.Proofs.YtejaohlijaodjaaDoor
open Go Go.RowKit

/-- An object that is no cells. -/
def Fact.obj (g : Nat) (o : Obj) : Fact := ⟨(· = g), fun W => W.heap[g]? = some o, fun _ _ h k => (k g rfl).trans h⟩
section
variable {P : Program} {ops : Array Oper} {Q : Exit → Act → World → Prop} {rest : List Oper} {o : Oper} {n m : Nat} {ρ : Nat → Value} {ds : List Deferred} {W W' w w0 : World} {d : Tmp} {v : Value} {F : Fence} {x : Operand} {T : Nat → Prop} {L : List Fact} {cs : List Code}
theorem r_run (hF : ∀ f, F.fn f) (hnd : ∀ c, o.op ≠ .defer c) (hw : Region.wanted o (yielded ops (st n ρ ds).tmps) = true) (hd : o.dst = some d) (h : Runs P n ρ o W v W') (k : wpListIn F m P ops Q rest (st n (upd ρ d v) ds) W') : wpListIn F m P ops Q (o :: rest) (st n ρ ds) W := by
  unfold wpListIn
  rw [if_pos hw]
  refine ⟨fun f _ => hF f, ?_⟩
  rw [Oper.semAt_eq _ _ _ hnd, st_eval, show (execOp (ev n ρ) o).run P W = _ from h, Oper.uponIn_value, hd, st_put]
  exact k
theorem r_nil {a : Act} (h : Q .normal a W) : wpListIn F m P ops Q [] a W := wpListIn_nil h
theorem r_do (hF : ∀ f, F.fn f) (hnd : ∀ c, o.op ≠ .defer c) (hw : Region.wanted o (yielded ops (st n ρ ds).tmps) = true) (hd : o.dst = none) (h : Does P n ρ o W W') (k : wpListIn F m P ops Q rest (st n ρ ds) W') : wpListIn F m P ops Q (o :: rest) (st n ρ ds) W := by
  unfold wpListIn
  rw [if_pos hw]
  refine ⟨fun f _ => hF f, ?_⟩
  rw [Oper.semAt_eq _ _ _ hnd, st_eval, show (execOp (ev n ρ) o).run P W = _ from h, Oper.uponIn_skip, hd]
  exact k
theorem r_yield {l : Nat} {args : Array Operand} {ats : Array TypeId} {la : List Value} {R : Ending → World → Prop} (hF : ∀ f, F.fn f) (hdep : F.depth = none) (hw : Region.wanted o (yielded ops (st n ρ ds).tmps) = true) (hd : o.dst = some d) (ho : o.op = .call { callee := .value x, args := args, argTypes := ats })
    (hx : ev n ρ x = .func (.yield l) #[] #[]) (hl : args.toList.map (ev n ρ) = la) (hY : YieldAt F (m - 1) P l la.toArray W R) (hR : ∀ e W', R e W' → ∃ b, e = .returned (.bool b))
    (k : ∀ b W', R (.returned (.bool b)) W' → wpListIn F m P ops Q rest (st n (upd ρ d (.bool b)) ds) W') : wpListIn F m P ops Q (o :: rest) (st n ρ ds) W := by
  unfold wpListIn
  rw [if_pos hw]
  refine ⟨fun f _ => hF f, ?_⟩
  obtain ⟨fn, tmps, assign, body, hy, hr⟩ := hY
  have he : (execOp (ev n ρ) o).run P W = .ok (.round l fn tmps assign body) W := by
    unfold execOp
    have hmap : args.map (ev n ρ) = la.toArray := by
      rw [← hl]; apply Array.ext'; simp
    simp [ho, resolve, hx, Deferred.ofValue, invoke, hmap, hy]
  rw [Oper.semAt_eq _ _ _ (fun c h => by rw [ho] at h; cases h), st_eval, he, Oper.uponIn_round]
  refine ⟨fun h => (by rw [hdep] at h; cases h), hr.mono (fun e W' q => ?_)⟩
  obtain ⟨b, rfl⟩ := hR e W' q
  show wpListIn F m P ops Q rest ((st n ρ ds).put o.dst (.bool b)) W'
  rw [hd, st_put]
  exact k b W' q
/-- A region in which a yield is called. -/
theorem k_regionY {id : Nat} {l : List Oper} (h : wpListIn Fence.wide 2 P l.toArray (Exit.then (wpK P Q cs) Q) l (st n ρ ds) w) : wpK P Q (.region id l.toArray false :: cs) (st n ρ ds) w :=
  (wpIn_wide (n := 2)).1 (wpIn_region_lit h)
theorem k_enterM {f : FuncId} {fn : Func} {c : Code} {l : List Value} {R : Ending → World → Prop} (hf : P.funcs[f]? = some fn) (hb : fn.body = some c) (hl : Nat.ble l.length fn.ntmps = true)
    (h : wpK P (bodyPostM Fence.wide 3 P fn R) [c] (st fn.ntmps (argsρ l) []) w) : Calls P f l.toArray w R := by
  refine (callsIn_wide (n := 3)).1 (callsIn_of_wp_marks hf hb trivial ?_)
  rw [st_args l (Nat.le_of_ble_eq_true hl)]
  exact wpIn_wide.2 (Code.wp_mono (fun e a w q => by cases e <;> exact q) h)
theorem q_panM0 {fn : Func} {R : Ending → World → Prop} {c : List PanicEntry} (h : R (.panicked c) w) : bodyPostM Fence.wide 3 P fn R (.panic c) (st n ρ []) w := h
theorem take_obj {D : Nat} (H : St T w0 W (Fact.obj D (.deferred (some [])) :: L)) : (Instr.takeDeferred D).run P W = .ok [] (W.putObj D (.deferred none)) ∧ St T w0 (W.putObj D (.deferred none)) L := by
  have h : W.heap[D]? = some (.deferred (some [])) := H.holds _ (.head _)
  have hlt : D < W.heap.size := (Array.getElem?_eq_some_iff.1 h).1
  have hg := grownBy_putObj' W D (.deferred none)
  exact ⟨run_takeDeferred h, (H.turn0 (f' := Fact.obj D (.deferred none)) ⟨hg.os, hg.tape, hg.output, hg.size, fun k hk hn => hg.block k hk (fun e => hn (by cases e; rfl))⟩ (World.putObj_heap_same hlt) (fun g hg => .inl hg)).drop⟩
theorem q_panM {fn : Func} {R : Ending → World → Prop} {c : List PanicEntry} {D : Nat} (H : St T w0 W (Fact.obj D (.deferred (some [])) :: L)) (h : ∀ W', St T w0 W' L → R (.panicked c) W') : bodyPostM Fence.wide 3 P fn R (.panic c) (st n ρ [{ target := .collected D, args := #[] }]) W :=
  ⟨by simp, .inl ⟨D, _, rfl, (take_obj (P := P) H).1, h _ (take_obj (P := P) H).2⟩⟩
theorem q_retM {fn : Func} {R : Ending → World → Prop} {t : Tmp} {D : Nat} (hr : fn.results = #[.tmp t]) (hv : ev n ρ (.tmp t) = v) (H : St T w0 W (Fact.obj D (.deferred (some [])) :: L)) (h : ∀ W', St T w0 W' L → R (.returned v) W') : bodyPostM Fence.wide 3 P fn R .ret (st n ρ [{ target := .collected D, args := #[] }]) W :=
  ⟨by simp, .inl ⟨D, _, rfl, (take_obj (P := P) H).1, _, results_tmp hr _ _ _, by subst hv; rw [st_getD]; exact h _ (take_obj (P := P) H).2⟩⟩
theorem Gat.same {g : Nat} {c : List Value} (h : Gat w g c) (hb : W.heap[g]? = w.heap[g]?) : Gat W g c := ⟨lt_of_block h.1 hb, fun j v hv => (World.cell?_of_block (a := ⟨g, 0 + j, none⟩) hb).trans (h.2 j v hv)⟩
theorem q_panMa {fn : Func} {R : Ending → World → Prop} {c : List PanicEntry} {D : Nat} {a : Act} (hd : a.defers = [{ target := .collected D, args := #[] }]) (H : St T w0 W (Fact.obj D (.deferred (some [])) :: L)) (h : ∀ W', St T w0 W' L → R (.panicked c) W') : bodyPostM Fence.wide 3 P fn R (.panic c) a W := by
  show LeavesInM _ _ _ _ _ _ a.defers _ _
  rw [hd]
  exact ⟨by simp, .inl ⟨D, _, rfl, (take_obj (P := P) H).1, h _ (take_obj (P := P) H).2⟩⟩
theorem r_sto {t t' : TypeId} {g : Nat} {y : Operand} {c : Value} (hF : ∀ f, F.fn f) (hw : Region.wanted o (yielded ops (st n ρ ds).tmps) = true) (hd : o.dst = none) (ho : o.op = .store t x y) (hx : ev n ρ x = .pointer (some ⟨g, 0, none⟩)) (hy : ev n ρ y = v) (hv : v.cells = #[v]) (hs : (P.info? t).map (·.size) = some 1) (h1 : v.oneCell' = true) (H : St T w0 W L) [hb : Blk g L [c] t']
    {L' : List Fact} [ht : Turn (Fact.blk g [c] t') (Fact.blk g [v] t') L L'] (k : ∀ W', St T w0 W' L' → Fr (· = g) W W' → KeepsOthers W W' → wpListIn F m P ops Q rest (st n ρ ds) W') : wpListIn F m P ops Q (o :: rest) (st n ρ ds) W := by
  have hfr := setCells_fr g [v] 0 W
  refine r_do (W' := W.setCells g 0 [v]) hF (fun c h => by rw [ho] at h; cases h) hw hd ?_ (k _ (H.turn (f := Fact.blk g [c] t') (f' := Fact.blk g [v] t') hfr (setCells_heap g [v] 0 W [c] t' H.blk) (fun g hg => .inl hg)) hfr (KeepsOthers.setCell _ _ _))
  have := run_storeVar (P := P) W g 0 t v [v] hv (blk_there H.blk (by simp)) (by simpa using hs) (by simp [h1])
  unfold Does execOp
  simp [ho, hx, hy, Instr.storeAt, Instr.sureAddr, this]
theorem d_neni {t t' tx : TypeId} {y : Operand} {u : Value} (ho : o.op = .binOp .neq t x y t') (hx : ev n ρ x = .iface tx u) (hy : ev n ρ y = .nilIface) (hi : P.isIface t = true) : Runs P n ρ o W (.bool true) W := by
  unfold Runs execOp
  simp [ho, hx, hy, run_neq_iface_nil _ t hi tx u, eqGuard_at_iface]
theorem d_nenn {t t' : TypeId} {y : Operand} {ms : Array (String × TypeId)} (ho : o.op = .binOp .neq t x y t') (hx : ev n ρ x = .nilIface) (hy : ev n ρ y = .nilIface) (hc : y = .const .nilIface) (hi : P.underlying t = some (.interface ms)) : Runs P n ρ o W (.bool false) W := by
  subst hc
  unfold Runs execOp
  simp [ho, hx, hy, Lib.run_neq_nil_nil W hi, eqGuard_nil_constR]
theorem d_assertB {t t' : TypeId} {u : Value} (ho : o.op = .typeAssert x t' t true) (hx : ev n ρ x = .iface t u) (hu : (P.underlying t).map (fun d => match d with | .interface _ => false | _ => true) = some true) : Runs P n ρ o W (.tuple [u, .bool true].toArray) W := by
  cases hq : P.underlying t with
  | none => rw [hq] at hu; cases hu
  | some d =>
    rw [hq] at hu
    have h2 := Option.some.inj hu
    exact d_assertT ho hx hq (by cases d <;> first | rfl | exact absurd h2 (fun h => by cases h))
/-- A whole row by its address. -/
theorem d_ldmA {t : TypeId} {S : Nat → Prop} {A : Option Addr} {m : Nat} {xs : List Value} (ho : o.op = .load t x) (hr : Rd W S 1 A m xs) (hx : ev n ρ x = .pointer A) (ha : aggB P t = some true) (hs : (P.info? t).map (·.size) = some m) (hm : 0 < m) : Runs P n ρ o W (.agg xs.toArray) W := by
  have hA : A.map (·.add (0 * 1)) = A := by
    obtain ⟨g, i, rfl, _⟩ := hr.2 hm
    simp [Addr.add_mid]
  have hl : xs.length = m := by rw [hr.1, Nat.mul_one]
  have := d_ldmR (P := P) (n := n) (ρ := ρ) (q := 0) ho hr (by rw [hx, hA]) ha hs hm (by rw [hl]; omega)
  simpa [sub, ← hl] using this
/-- What a round must keep. -/
def KeepG (K0 : Nat → Prop) (W W' : World) : Prop := ∀ g, K0 g → W'.heap[g]? = W.heap[g]?
/-- The loop over an iterator of two values a round, which it does not leave. -/
theorem k_rangeF {α : Type} {g : Operand} {p0 p1 : Tmp} {assign body : Code} {gf : Nat} {fn : Func} {c : Code} {lb : Array Value} {e0 e1 : α → Value} {K0 : Nat → Prop} {S Sp : List α → Prop} {N : Nat} (Lx : List α → List Fact) (p : Tmp)
    (hg : ev n ρ g = .func (.func gf) #[] lb) (hf : P.funcs[gf]? = some fn) (hname : (fn.name == "runtime.NumGoroutine") = false) (hb : fn.body = some c) (hseq : SeqStopsK Fence.wide 2 P gf lb (fun x => #[e0 x, e1 x]) (KeepG K0) S Sp N W)
    (H : St T w0 W (Lx [])) (hK : ∀ g, K0 g → g < W.heap.size) (hfp : ∀ pre, (Lx pre).map Fact.fp = (Lx []).map Fact.fp)
    (hassign : ∀ (l : Nat) (x : α) (W' : World) (K : Act → World → Prop), K (st n (upd (upd (upd ρ p0 (e0 x)) p1 (e1 x)) p (e1 x)) []) W' → assign.wpIn (Fence.wide.inRound l) 1 P (Exit.then K (fun _ _ _ => False)) (st n (upd (upd ρ p0 (e0 x)) p1 (e1 x)) []) W')
    (hbody : ∀ (l : Nat) (pre : List α) (x : α) (W' : World), St T w0 W' (Lx pre) → pre.length < N → body.wpIn (Fence.wide.inRound l) 1 P (fun e _ W'' => e = .normal ∧ KeepsOthers W' W'' ∧ KeepG K0 W' W'' ∧ St T w0 W'' (Lx (pre ++ [x]))) (st n (upd (upd (upd ρ p0 (e0 x)) p1 (e1 x)) p (e1 x)) []) W')
    (k : ∀ D xs W', S xs → St T w0 W' (Fact.obj D (.deferred (some [])) :: Lx xs) → wpK P Q cs (st n ρ ({ target := .collected D, args := #[] } :: ds)) W') : wpK P Q (.rangeFunc g #[p0, p1] assign body :: cs) (st n ρ ds) W := by
  have hold : ∀ pre, ∀ f ∈ Lx pre, ∀ g, f.fp g → g < W.heap.size := fun pre f hf g hg => by
    have h1 : f.fp ∈ (Lx pre).map Fact.fp := List.mem_map_of_mem hf
    rw [hfp pre] at h1
    obtain ⟨f', h2, h3⟩ := List.mem_map.1 h1
    exact (H.own f' h2 g (by rw [h3]; exact hg)).2
  refine (wpIn_wide (n := 3)).1 ?_
  refine wpIn_rangeFunc_ownF (gf := gf) (lb := lb) (F := Fence.wide) (n := 3) (S := S) (Sp := Sp) (N := N) (w0 := W) rfl (by omega) (by rw [st_eval]; exact hg) trivial (enters_of hf hname hb) hseq
    (fun h1 h2 g hg => (h2 g hg).trans (h1 g hg)) (fun A l o o' hl _ _ _ g hg => World.putObj_heap_other (by have := hK g hg; omega)) (Below.refl _ _) (fun _ => rfl)
    (fun pre W' => St T w0 W' (Lx pre)) (fun _ _ _ => False) ?hI (fun _ s A B row hs _ _ => hs) H (fun x => st n (upd (upd (upd ρ p0 (e0 x)) p1 (e1 x)) p (e1 x)) []) ?ha ?hbd ?hd (fun _ _ _ _ _ _ h _ => h.elim)
  case hI =>
    intro pre A B row hs hgr hrow
    have hkeep : ∀ g, g < A.heap.size → g < W.heap.size → B.heap[g]? = A.heap[g]? := fun g h1 h2 => hgr.block g h1 (fun e => by have := (hrow g e.symm).1; omega)
    refine ⟨hs.fr.trans (T' := fun k => W.heap.size ≤ k) ⟨hgr.os, hgr.tape, hgr.output, hgr.size, fun j hj hn => hkeep j hj (by simpa using hn)⟩ (fun g h1 h2 => absurd h2 (by have := H.fr.size; omega)), fun f hf => f.st A B (hs.holds f hf) (fun g hg => hkeep g (hs.own f hf g hg).2 (hold pre f hf g hg)), fun f hf g hg => ⟨(hs.own f hf g hg).1, Nat.lt_of_lt_of_le (hs.own f hf g hg).2 hgr.size⟩, hs.apart⟩
  case ha =>
    intro l x A K hK'
    have e : ({ tmps := ((#[p0, p1] : Array Tmp).zip #[e0 x, e1 x]).foldl (fun t (p, v) => t.setIfInBounds p v) (st n ρ ds).tmps, defers := [] } : Act) = st n (upd (upd ρ p0 (e0 x)) p1 (e1 x)) [] := by
      have h1 := st_put (n := n) (ρ := ρ) (ds := []) p0 (e0 x)
      have h2 := st_put (n := n) (ρ := upd ρ p0 (e0 x)) (ds := []) p1 (e1 x)
      rw [← h1] at h2
      simp only [Act.put] at h2
      refine Eq.trans ?_ h2
      simp [st]
    rw [e]
    exact hassign l x A K hK'
  case hbd =>
    intro l pre x A hA hlen
    refine wpIn_mono (hbody l pre x A hA hlen) (fun e a B h => ?_)
    obtain ⟨rfl, h1, h2, h3⟩ := h
    exact ⟨h1, h2, h3⟩
  case hd =>
    intro D xs A hD hS hA hK'
    refine k D xs A hS ⟨hA.fr, fun f hf => ?_, fun f hf g hg => ?_, List.pairwise_cons.2 ⟨fun f hf g hg hfg => ?_, hA.apart⟩⟩
    · rcases List.mem_cons.1 hf with rfl | hf
      · exact hK'
      · exact hA.holds f hf
    · rcases List.mem_cons.1 hf with rfl | hf
      · cases hg
        exact ⟨.inr (by have := H.fr.size; omega), (Array.getElem?_eq_some_iff.1 hK').1⟩
      · exact hA.own f hf g hg
    · cases hg
      have := hold xs f hf D hfg
      omega
theorem kb_region {id : Nat} {l : List Oper} (h : wpListIn F m P l.toArray Q l (st n ρ ds) w) : (Code.region id l.toArray false).wpIn F m P Q (st n ρ ds) w := wpIn_region_lit h
/-- Two bytes' places: a number so far, and a digit more. -/
theorem or_u64 {t : TypeId} {a : Nat} {b : UInt8} (ha : a < 72057594037927936) : binOp .or t (.int .u64 ((a : Int) * 256)) (.int .u64 (b.toNat : Int)) = pure (.int .u64 ((a * 256 + b.toNat : Nat) : Int)) := by
  have hb := b.toNat_lt
  have e : bits .or .u64 ((a * 256 : Nat) : Int) (b.toNat : Int) = ((a * 256 + b.toNat : Nat) : Int) := by
    rw [bits_or_u64_nat _ _ (by omega) (by omega)]
    have := Nat.shiftLeft_add_eq_or_of_lt (b := b.toNat) (i := 8) (by omega) a
    rw [Nat.shiftLeft_eq] at this
    simp only [Nat.reducePow] at this
    rw [this]
  rw [binOp_or]
  have h2 : ((a : Int) * 256) = ((a * 256 : Nat) : Int) := by omega
  rw [h2, ← e]
  rfl
end
theorem Rd.swap {w : World} {S S' : Nat → Prop} {size n : Nat} {A : Option Addr} {xs : List Value} (h : Rd w S size A n xs) (hS : 0 < n → ∀ a, A = some a → S' a.block) : Rd w S' size A n xs :=
  ⟨h.1, fun hn => by
    obtain ⟨g, o, rfl, hg, hc⟩ := h.2 hn
    exact ⟨g, o, rfl, ⟨hg.1, hS hn _ rfl⟩, hc⟩⟩
theorem RdB.rdT {u t r n0 c0 cb : Nat} {A0 B : Option Addr} {b : List UInt8} {s : RS} {W : World} {Y : List UInt8 → Prop} (h : (RdYB u t r A0 n0 c0 Y (.slice B b.length cb) b s).p W) : Rd W (RdT r A0 n0 c0) 1 B b.length (b.map u8v) := by
  refine (RdB.rd h).swap (fun hn a ha => ?_)
  obtain ⟨_, _, _, _, _, h2, _, _, ⟨B', cb', q, hv, _, _, h8, _⟩, _⟩ := h
  cases hv
  rw [ha] at h8
  rcases row_addr h2 with rfl | ⟨g, rfl⟩
  · have := h8 hn; cases this
  · have := h8 hn
    simp only [Option.map_some, Addr.add_mid, Option.some.injEq] at this
    subst this
    exact .inr rfl
end Go.Proofs.YtejaohlijaodjaaDoor
