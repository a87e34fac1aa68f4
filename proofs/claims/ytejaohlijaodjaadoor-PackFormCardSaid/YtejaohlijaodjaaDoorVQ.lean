/- Arrays of bytes compared. No program stands in this text. -/
import Derived.Test.YtejaohlijaodjaaDoorVS
import Derived.Stop.BytesEq
import Derived.Laws.StructEq
namespace Go.Proofs.YtejaohlijaodjaaDoor
open Go Go.RowKit

theorem d_eqarr {P : Program} {o : Oper} {n : Nat} {ρ : Nat → Value} {W : World} {t t' e : TypeId} {x y : Operand} {m : Nat} {a b : List UInt8} (ho : o.op = .binOp .eql t x y t') (hx : ev n ρ x = .agg (a.map u8v).toArray) (hy : ev n ρ y = .agg (b.map u8v).toArray) (hu : P.underlying t = some (.array m e)) (he : P.underlying e = some (.int .u8)) (hs : (P.info? e).map (·.size) = some 1) (ha : a.length = m) (hb : b.length = m) (hm : P.eqGuardType P.depth t = false) : Runs P n ρ o W (.bool (a == b)) W := by
  have h : (Op.equalIn 10000 t (.agg (a.map u8v).toArray) (.agg (b.map u8v).toArray)).run P W = .ok (a == b) W := run_equalIn_bytes (P := P) W 9998 t e m hu he (run_size hs) a b ha hb
  have hg := run_eqGuard_agg (P := P) W .eql t x y (a.map u8v).toArray (b.map u8v).toArray hm
  have h2 : (binOp .eql t (.agg (a.map u8v).toArray) (.agg (b.map u8v).toArray)).run P W = .ok (.bool (a == b)) W := by
    simp only [binOp]
    simp [Op.equal, Op.maxDepth, h]
  unfold Runs execOp
  simp only [ho, hx, hy, hg, Sem.run_bind, Sem.run_pure, Result.andThen_ok, h2]
/-- A blob written over. -/
theorem RdB.spoilt {u t r n0 c0 : Nat} {A0 : Option Addr} {b ys' : List UInt8} {s : RS} {W' : World} {q o : Nat} (A : Option Addr) (c : Nat) (ys : List UInt8) (h1 : W'.heap[r]? = some (.cells [.slice A s.1.length c, .int .i64 s.2].toArray t (0, 0))) (hne : ¬ (Value.slice A0 n0 c0).ownBlock = some r) (hL : LeftP A0 n0 c0 A c o ys s) (hq : q + b.length ≤ o) (hR : W'.ownsRow 0 u 1 (.slice A0 n0 c0) n0 (ys'.map u8v)) (hl : ys'.length = ys.length) (hd : ys'.drop (q + b.length) = ys.drop (q + b.length)) : (RdP u t r A0 n0 c0 s).p W' := by
  refine ⟨A, c, o, ys', h1, hR, hne, ⟨by rw [hl]; exact hL.1, hL.2.1, hL.2.2.1, hL.2.2.2.1, fun he => ?_, hL.2.2.2.2.2⟩, held_nil, trivial⟩
  have h := hL.2.2.2.2.1 he
  refine ⟨?_, h.2⟩
  have e1 := congrArg (List.drop (o - (q + b.length))) hd
  rw [List.drop_drop, List.drop_drop, Nat.add_sub_cancel' hq] at e1
  rw [h.1, e1]
theorem d_eqpn {P : Program} {o : Oper} {n : Nat} {ρ : Nat → Value} {W : World} {t t' : TypeId} {x y : Operand} {p : Option Addr} (ho : o.op = .binOp .eql t x y t') (hx : ev n ρ x = .pointer p) (hy : ev n ρ y = .pointer none) (hu : P.underlying t = some (.pointer (P.pointee t))) : Runs P n ρ o W (.bool p.isNone) W := by
  unfold Runs execOp
  simp [ho, hx, hy, eqGuard_at_pointer, run_eql_pointer_nil _ t p hu]
theorem d_diff {P : Program} {o : Oper} {n : Nat} {ρ : Nat → Value} {W : World} {t t' : TypeId} {x y : Operand} {a b : Bool} (ho : o.op = .binOp .neq t x y t') (hx : ev n ρ x = .bool a) (hy : ev n ρ y = .bool b) (hu : P.underlying t = some .bool) : Runs P n ρ o W (.bool (!(a == b))) W := by
  unfold Runs execOp
  simp [ho, hx, hy, eqGuard_at_bool, run_neq_bool _ t a b hu]
/-- What is asked, as it lies. -/
def askC : List (Int × Int) → List Value
  | [] => []
  | x :: l => .int .i64 x.1 :: .int .i64 x.2 :: askC l
theorem len_ask : ∀ (l : List (Int × Int)), (askC l).length = l.length * 2
  | [] => rfl
  | x :: l => by simp only [askC, List.length_cons, len_ask l]; omega
theorem sub_ask : ∀ (l : List (Int × Int)) (i : Nat), i < l.length → sub (askC l) (i * 2) 2 = [.int .i64 (l.getD i (0, 0)).1, .int .i64 (l.getD i (0, 0)).2]
  | [], _, h => by simp at h
  | x :: l, 0, _ => by simp [askC, sub]
  | x :: l, i + 1, h => by
    have ih := sub_ask l i (by simpa using h)
    rw [show (i + 1) * 2 = i * 2 + 2 by omega]
    unfold sub at ih ⊢
    rw [askC, List.drop_succ_cons, List.drop_succ_cons, ih]
    simp
/-- Two facts in one. -/
def Fact.two (f f' : Fact) : Fact := ⟨fun g => f.fp g ∨ f'.fp g, fun W => f.p W ∧ f'.p W, fun W W' h k => ⟨f.st W W' h.1 (fun g hg => k g (.inl hg)), f'.st W W' h.2 (fun g hg => k g (.inr hg))⟩⟩
theorem St.two {T : Nat → Prop} {w0 W : World} {L : List Fact} {f f' : Fact} (H : St T w0 W (f :: f' :: L)) : St T w0 W (Fact.two f f' :: L) :=
  H.merge ⟨H.holds _ (.head _), H.holds _ (.tail _ (.head _))⟩ (fun _ hg => hg)
theorem bs_own {W : World} {A : Option Addr} {e m c : Nat} {l : List UInt8} (h : W.ownsRow 0 e 1 (.slice A m c) m (l.map u8v)) (hl : l.length = m) : Bs W (fun g => (Value.slice A m c).ownBlock = some g) (.slice A m c) l := by
  have hb := bs_row h hl
  subst hl
  obtain ⟨_, _, hv, h1, h2, hr⟩ := hb.op
  cases hv
  exact Bs.mk (hr.swap (fun _ a ha => by subst ha; rfl)) h1 h2
end Go.Proofs.YtejaohlijaodjaaDoor
