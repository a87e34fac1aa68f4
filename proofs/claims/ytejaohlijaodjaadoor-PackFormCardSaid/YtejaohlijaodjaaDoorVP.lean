/- The operations that look at no memory. No program stands in this text. -/
import Derived.Test.YtejaohlijaodjaaDoorVO
namespace Go.Proofs.YtejaohlijaodjaaDoor
open Go Go.RowKit

section
variable {P : Program} {o : Oper} {n : Nat} {ρ : Nat → Value} {W : World} {v u : Value} {x y z : Operand} {t t' : TypeId} {k k' : IntKind} {a b : Int}
theorem d_move (ho : o.op = .move x) (hx : ev n ρ x = v) : Runs P n ρ o W v W := by unfold Runs execOp; simp [ho, hx]
theorem d_asg (ho : o.op = .assign x) (hx : ev n ρ x = v) : Runs P n ρ o W v W := by unfold Runs execOp; simp [ho, hx]
theorem mv_i (ho : o.op = .move x) (hx : ev n ρ x = .int k a) : Runs P n ρ o W (.int k a) W := d_move ho hx
theorem mv_b {c : Bool} (ho : o.op = .move x) (hx : ev n ρ x = .bool c) : Runs P n ρ o W (.bool c) W := d_move ho hx
theorem mv_bx {b c : Bool} (ho : o.op = .move x) (hx : ev n ρ x = .bool b) (hb : b = c) : Runs P n ρ o W (.bool c) W := d_move ho (by rw [hx, hb])
theorem mv_s {A : Option Addr} {m c : Nat} (ho : o.op = .move x) (hx : ev n ρ x = .slice A m c) : Runs P n ρ o W (.slice A m c) W := d_move ho hx
theorem mv_p {A : Option Addr} (ho : o.op = .move x) (hx : ev n ρ x = .pointer A) : Runs P n ρ o W (.pointer A) W := d_move ho hx
theorem mv_a {c : Array Value} (ho : o.op = .move x) (hx : ev n ρ x = .agg c) : Runs P n ρ o W (.agg c) W := d_move ho hx
theorem mv_t {c : Array Value} (ho : o.op = .move x) (hx : ev n ρ x = .tuple c) : Runs P n ρ o W (.tuple c) W := d_move ho hx
theorem mv_str {c : ByteArray} (ho : o.op = .move x) (hx : ev n ρ x = .string c) : Runs P n ρ o W (.string c) W := d_move ho hx
theorem mv_f {f : Fn} {p c : Array Value} (ho : o.op = .move x) (hx : ev n ρ x = .func f p c) : Runs P n ρ o W (.func f p c) W := d_move ho hx
theorem mv_if {T : TypeId} (ho : o.op = .move x) (hx : ev n ρ x = .iface T v) : Runs P n ρ o W (.iface T v) W := d_move ho hx
theorem mv_ni (ho : o.op = .move x) (hx : ev n ρ x = .nilIface) : Runs P n ρ o W .nilIface W := d_move ho hx
theorem as_i (ho : o.op = .assign x) (hx : ev n ρ x = .int k a) : Runs P n ρ o W (.int k a) W := d_asg ho hx
theorem as_b {c : Bool} (ho : o.op = .assign x) (hx : ev n ρ x = .bool c) : Runs P n ρ o W (.bool c) W := d_asg ho hx
theorem as_s {A : Option Addr} {m c : Nat} (ho : o.op = .assign x) (hx : ev n ρ x = .slice A m c) : Runs P n ρ o W (.slice A m c) W := d_asg ho hx
theorem as_p {A : Option Addr} (ho : o.op = .assign x) (hx : ev n ρ x = .pointer A) : Runs P n ρ o W (.pointer A) W := d_asg ho hx
theorem as_a {c : Array Value} (ho : o.op = .assign x) (hx : ev n ρ x = .agg c) : Runs P n ρ o W (.agg c) W := d_asg ho hx
theorem as_t {c : Array Value} (ho : o.op = .assign x) (hx : ev n ρ x = .tuple c) : Runs P n ρ o W (.tuple c) W := d_asg ho hx
theorem as_str {c : ByteArray} (ho : o.op = .assign x) (hx : ev n ρ x = .string c) : Runs P n ρ o W (.string c) W := d_asg ho hx
theorem as_f {f : Fn} {p c : Array Value} (ho : o.op = .assign x) (hx : ev n ρ x = .func f p c) : Runs P n ρ o W (.func f p c) W := d_asg ho hx
theorem as_if {T : TypeId} (ho : o.op = .assign x) (hx : ev n ρ x = .iface T v) : Runs P n ρ o W (.iface T v) W := d_asg ho hx
theorem as_ni (ho : o.op = .assign x) (hx : ev n ρ x = .nilIface) : Runs P n ρ o W .nilIface W := d_asg ho hx
theorem d_pickT (ho : o.op = .pick x y z) (hx : ev n ρ x = .bool true) {c : Bool} (hy : ev n ρ y = .bool c) : Runs P n ρ o W (.bool c) W := by unfold Runs execOp; simp [ho, hx, hy, asBool]
theorem d_pickF (ho : o.op = .pick x y z) (hx : ev n ρ x = .bool false) {c : Bool} (hz : ev n ρ z = .bool c) : Runs P n ρ o W (.bool c) W := by unfold Runs execOp; simp [ho, hx, hz, asBool]
theorem d_ext {c : Array Value} {i : Nat} (ho : o.op = .extract x i) (hx : ev n ρ x = .tuple c) (hi : c[i]? = some v) : Runs P n ρ o W v W := by unfold Runs execOp; simp [ho, hx, Instr.extract, hi]
theorem d_nil {A : Addr} (ho : o.op = .nilCheck x) (hx : ev n ρ x = .pointer (some A)) : Runs P n ρ o W (.pointer (some A)) W := by unfold Runs execOp; simp [ho, hx]
theorem d_nilf {f : FuncId} {p c : Array Value} (ho : o.op = .nilCheck x) (hx : ev n ρ x = .func (.func f) p c) : Runs P n ρ o W (.func (.func f) p c) W := by unfold Runs execOp; simp [ho, hx]
theorem d_mkf {f : Fn} {p c : Array Operand} {p' c' : List Value} (ho : o.op = .makeFunc f p c) (hp : p.toList.map (ev n ρ) = p') (hc : c.toList.map (ev n ρ) = c') : Runs P n ρ o W (.func f p'.toArray c'.toArray) W := by
  subst hp hc
  unfold Runs execOp
  have e1 : p.map (ev n ρ) = (p.toList.map (ev n ρ)).toArray := by apply Array.ext'; simp
  have e2 : c.map (ev n ρ) = (c.toList.map (ev n ρ)).toArray := by apply Array.ext'; simp
  simp [ho, Instr.makeFunc, e1, e2]
def ifaceB (P : Program) (t : TypeId) : Bool := match P.underlying t with | some (.interface _) => true | none => true | _ => false
theorem d_mki (ho : o.op = .makeInterface t x) (hx : ev n ρ x = v) (hi : ifaceB P t = false) : Runs P n ρ o W (.iface t v) W := by
  unfold Runs execOp
  unfold ifaceB at hi
  cases hu : P.underlying t with
  | none => rw [hu] at hi; cases hi
  | some d =>
    rw [hu] at hi
    have := run_underlying hu W
    cases d <;> first | (simp at hi; done) | simp [ho, hx, Instr.makeInterface, this]

/- Numbers. -/
theorem d_eq (ho : o.op = .binOp .eql t x y t') (hx : ev n ρ x = .int k a) (hy : ev n ρ y = .int k b) : Runs P n ρ o W (.bool (a == b)) W := by unfold Runs execOp; simp [ho, hx, hy, eqGuard_at_int, binOp_eql]
theorem d_ne (ho : o.op = .binOp .neq t x y t') (hx : ev n ρ x = .int k a) (hy : ev n ρ y = .int k b) : Runs P n ρ o W (.bool (a != b)) W := by unfold Runs execOp; simp [ho, hx, hy, eqGuard_at_int, binOp_neq]
theorem d_lt (ho : o.op = .binOp .lss t x y t') (hx : ev n ρ x = .int k a) (hy : ev n ρ y = .int k b) : Runs P n ρ o W (.bool (decide (a < b))) W := by unfold Runs execOp; simp [ho, hx, hy, eqGuard_at_int, binOp_lss]
theorem d_le (ho : o.op = .binOp .leq t x y t') (hx : ev n ρ x = .int k a) (hy : ev n ρ y = .int k b) : Runs P n ρ o W (.bool (decide (a ≤ b))) W := by unfold Runs execOp; simp [ho, hx, hy, eqGuard_at_int, binOp_leq]
theorem d_gt (ho : o.op = .binOp .gtr t x y t') (hx : ev n ρ x = .int k a) (hy : ev n ρ y = .int k b) : Runs P n ρ o W (.bool (decide (a > b))) W := by unfold Runs execOp; simp [ho, hx, hy, eqGuard_at_int, binOp_gtr]
theorem d_ge (ho : o.op = .binOp .geq t x y t') (hx : ev n ρ x = .int k a) (hy : ev n ρ y = .int k b) : Runs P n ρ o W (.bool (decide (a ≥ b))) W := by unfold Runs execOp; simp [ho, hx, hy, eqGuard_at_int, binOp_geq]
theorem d_addW (ho : o.op = .binOp .add t x y t') (hx : ev n ρ x = .int k a) (hy : ev n ρ y = .int k b) {c : Int} (hc : k.wrap (a + b) = c) : Runs P n ρ o W (.int k c) W := by subst hc; unfold Runs execOp; simp [ho, hx, hy, eqGuard_at_int, binOp_add, Op.intArith]
theorem d_subW (ho : o.op = .binOp .sub t x y t') (hx : ev n ρ x = .int k a) (hy : ev n ρ y = .int k b) {c : Int} (hc : k.wrap (a - b) = c) : Runs P n ρ o W (.int k c) W := by subst hc; unfold Runs execOp; simp [ho, hx, hy, eqGuard_at_int, binOp_sub, Op.intArith]
theorem d_mulW (ho : o.op = .binOp .mul t x y t') (hx : ev n ρ x = .int k a) (hy : ev n ρ y = .int k b) {c : Int} (hc : k.wrap (a * b) = c) : Runs P n ρ o W (.int k c) W := by subst hc; unfold Runs execOp; simp [ho, hx, hy, eqGuard_at_int, binOp_mul, Op.intArith]
theorem d_bitW {op : BinOp} (ho : o.op = .binOp op t x y t') (hx : ev n ρ x = .int k a) (hy : ev n ρ y = .int k b) {c : Int} (hc : binOp op t (.int k a) (.int k b) = pure (.int k c)) : Runs P n ρ o W (.int k c) W := by unfold Runs execOp; simp [ho, hx, hy, eqGuard_at_int, hc]
theorem d_add (ho : o.op = .binOp .add t x y t') (hx : ev n ρ x = .int .i64 a) (hy : ev n ρ y = .int .i64 b) (hr : -9223372036854775808 ≤ a + b ∧ a + b ≤ 9223372036854775807) : Runs P n ρ o W (.int .i64 (a + b)) W := d_addW ho hx hy (IntWalk.i64_in _ hr)
theorem d_sub (ho : o.op = .binOp .sub t x y t') (hx : ev n ρ x = .int .i64 a) (hy : ev n ρ y = .int .i64 b) (hr : -9223372036854775808 ≤ a - b ∧ a - b ≤ 9223372036854775807) : Runs P n ρ o W (.int .i64 (a - b)) W := d_subW ho hx hy (IntWalk.i64_in _ hr)
theorem d_mul (ho : o.op = .binOp .mul t x y t') (hx : ev n ρ x = .int .i64 a) (hy : ev n ρ y = .int .i64 b) (hr : -9223372036854775808 ≤ a * b ∧ a * b ≤ 9223372036854775807) : Runs P n ρ o W (.int .i64 (a * b)) W := d_mulW ho hx hy (IntWalk.i64_in _ hr)
theorem d_shr (ho : o.op = .binOp .shr t x y t') (hx : ev n ρ x = .int k a) {m : Nat} (hy : ev n ρ y = .int k' b) (hb : b = (m : Int)) (hm : m ≤ k.bits) : Runs P n ρ o W (.int k (a / 2 ^ m)) W := by
  subst hb
  unfold Runs execOp
  simp [ho, hx, hy, eqGuard_at_int, binOp_shr, shift_shr k k' a (m : Int) (by omega) (by omega)]
theorem d_shl (ho : o.op = .binOp .shl t x y t') (hx : ev n ρ x = .int k a) {m : Nat} (hy : ev n ρ y = .int k' b) (hb : b = (m : Int)) (hm : m ≤ k.bits) {c : Int} (hc : k.wrap (a * 2 ^ m) = c) : Runs P n ρ o W (.int k c) W := by
  subst hb hc
  unfold Runs execOp
  simp [ho, hx, hy, eqGuard_at_int, binOp_shl, shift_shl k k' a (m : Int) (by omega) (by omega)]
theorem d_rem (ho : o.op = .binOp .rem t x y t') (hx : ev n ρ x = .int .i64 a) (hy : ev n ρ y = .int .i64 b) (h0 : 0 ≤ a ∧ 1 ≤ b) : Runs P n ρ o W (.int .i64 (a % b)) W := by
  unfold Runs execOp
  have hb : b ≠ 0 := by omega
  have e : a.tmod b = a % b := IntWalk.rem_in a b h0.1
  simp [ho, hx, hy, eqGuard_at_int, binOp_rem, Op.intDiv, hb, e]
theorem d_remT (ho : o.op = .binOp .rem t x y t') (hx : ev n ρ x = .int .i64 a) (hy : ev n ρ y = .int .i64 b) (h0 : b ≠ 0) : Runs P n ρ o W (.int .i64 (a.tmod b)) W := by
  unfold Runs execOp
  simp [ho, hx, hy, eqGuard_at_int, binOp_rem, Op.intDiv, h0]
theorem d_remU (ho : o.op = .binOp .rem t x y t') (hx : ev n ρ x = .int k a) (hy : ev n ρ y = .int k b) (h0 : 0 ≤ a ∧ 1 ≤ b) : Runs P n ρ o W (.int k (a % b)) W := by
  unfold Runs execOp
  have hb : b ≠ 0 := by omega
  have e : a.tmod b = a % b := IntWalk.rem_in a b h0.1
  simp [ho, hx, hy, eqGuard_at_int, binOp_rem, Op.intDiv, hb, e]
theorem d_quo (ho : o.op = .binOp .quo t x y t') (hx : ev n ρ x = .int k a) (hy : ev n ρ y = .int k b) (h0 : 0 ≤ a ∧ 1 ≤ b) {c : Int} (hc : k.wrap (a / b) = c) : Runs P n ρ o W (.int k c) W := by
  subst hc
  unfold Runs execOp
  have hb : b ≠ 0 := by omega
  have e : a.tdiv b = a / b := Int.tdiv_eq_ediv_of_nonneg h0.1
  simp [ho, hx, hy, eqGuard_at_int, binOp_quo, Op.intDiv, hb, e]
theorem d_not {c : Bool} (ho : o.op = .unOp .not t x) (hx : ev n ρ x = .bool c) : Runs P n ρ o W (.bool (!c)) W := by unfold Runs execOp; simp [ho, hx, Op.unary]
theorem d_neg (ho : o.op = .unOp .neg t x) (hx : ev n ρ x = .int .i64 a) (hr : -9223372036854775807 ≤ a ∧ a ≤ 9223372036854775807) : Runs P n ρ o W (.int .i64 (-a)) W := by
  unfold Runs execOp
  have : IntKind.i64.wrap (-a) = -a := IntWalk.i64_in _ (by omega)
  simp [ho, hx, Op.unary, Op.intArith, this]
/-- A number of another kind. -/
theorem d_conv {q : IntKind} (ho : o.op = .convert t t' x) (hx : ev n ρ x = .int k a) (hs : (P.underlying t).isSome = true) (hd : P.underlying t' = some (.int q)) {c : Int} (hc : q.wrap a = c) : Runs P n ρ o W (.int q c) W := by
  subst hc
  obtain ⟨d, hd'⟩ := Option.isSome_iff_exists.mp hs
  unfold Runs execOp
  simp [ho, hx, convert, run_underlying hd', run_underlying hd, Conv.intToInt]
theorem d_same {c : Bool} {e : Bool} (ho : o.op = .binOp .eql t x y t') (hx : ev n ρ x = .bool c) (hy : ev n ρ y = .bool e) (hu : P.underlying t = some .bool) : Runs P n ρ o W (.bool (c == e)) W := by
  have h := run_eql_bool (P := P) W t c e hu
  unfold Runs execOp
  simp only [ho, hx, hy, eqGuard_at_bool, Sem.run_bind, Sem.run_pure, Result.andThen_ok, h]
theorem d_seq {c : ByteArray} {e : ByteArray} (ho : o.op = .binOp .eql t x y t') (hx : ev n ρ x = .string c) (hy : ev n ρ y = .string e) {r : Bool} (hr : (c.toList == e.toList) = r) : Runs P n ρ o W (.bool r) W := by
  subst hr
  unfold Runs execOp
  simp [ho, hx, hy, eqGuard_at_string, binOp, Op.stringOp]
/-- A slice against nil. -/
theorem d_eqnil {A : Option Addr} {m c m' c' : Nat} {e : TypeId} (ho : o.op = .binOp .eql t x y t') (hx : ev n ρ x = .slice A m c) (hy : ev n ρ y = .slice none m' c') (hu : P.underlying t = some (.slice e)) : Runs P n ρ o W (.bool A.isNone) W := by
  unfold Runs execOp
  simp [ho, hx, hy, eqGuard_at_slice, Lib.run_eql_slice_nil W t e A m c m' c' hu]

/- Lengths, parts. -/
variable {args : Array Operand} {ats : Array TypeId}
theorem d_len {A : Option Addr} {m c : Nat} {e : TypeId} (ho : o.op = .call { callee := .builtin .len, args := #[x], argTypes := #[t] }) (hx : ev n ρ x = .slice A m c) (hu : P.underlying t = some (.slice e)) : Runs P n ρ o W (.int .i64 (m : Int)) W := by
  unfold Runs execOp
  simp [ho, hx, resolve, invoke, builtin, Builtin.len_, run_underlying hu, goInt]
theorem d_lens {s : ByteArray} (ho : o.op = .call { callee := .builtin .len, args := #[x], argTypes := #[t] }) (hx : ev n ρ x = .string s) (hu : P.underlying t = some .string) : Runs P n ρ o W (.int .i64 (s.size : Int)) W := by
  unfold Runs execOp
  simp [ho, hx, resolve, invoke, builtin, Builtin.len_, run_underlying hu, goInt]
theorem d_lena {m : Nat} {e : TypeId} (ho : o.op = .call { callee := .builtin .len, args := #[x], argTypes := #[t] }) (hu : P.underlying t = some (.array m e)) : Runs P n ρ o W (.int .i64 (m : Int)) W := by
  unfold Runs execOp
  simp [ho, resolve, invoke, builtin, Builtin.len_, run_underlying hu, goInt]
theorem d_min (ho : o.op = .call { callee := .builtin .min, args := #[x, y], argTypes := #[t, t'] }) (hx : ev n ρ x = .int k a) (hy : ev n ρ y = .int k b) : Runs P n ρ o W (.int k (min a b)) W := by
  unfold Runs execOp
  have : (if b < a then b else a) = min a b := by omega
  simp [ho, hx, hy, resolve, invoke, builtin, Builtin.min_, Builtin.min2, this]
theorem d_max (ho : o.op = .call { callee := .builtin .max, args := #[x, y], argTypes := #[t, t'] }) (hx : ev n ρ x = .int k a) (hy : ev n ρ y = .int k b) : Runs P n ρ o W (.int k (max a b)) W := by
  unfold Runs execOp
  have : (if a < b then b else a) = max a b := by omega
  simp [ho, hx, hy, resolve, invoke, builtin, Builtin.max_, Builtin.max2, this]
def fOff (P : Program) (t : TypeId) (f : Nat) : Option (Nat × TypeId) := match P.underlying t with
  | some (.struct fs) => (fs[f]?).bind fun fl => match (P.info? fl.type).map (·.size) with
    | some (_ + 1) => some (fl.offset, fl.type)
    | _ => none
  | _ => none
theorem fOff_spec {f c : Nat} {e : TypeId} (h : fOff P t f = some (c, e)) : ∃ fs fl i, P.underlying t = some (.struct fs) ∧ fs[f]? = some fl ∧ fl.offset = c ∧ fl.type = e ∧ P.info? e = some i ∧ i.size ≠ 0 := by
  unfold fOff at h
  cases hu : P.underlying t with
  | none => rw [hu] at h; cases h
  | some d =>
    rw [hu] at h
    cases d <;> simp only at h <;> try (cases h; done)
    rename_i fs
    cases hf : fs[f]? with
    | none => rw [hf] at h; cases h
    | some fl =>
      rw [hf] at h
      simp only [Option.bind_some] at h
      cases hi : P.info? fl.type with
      | none => rw [hi] at h; cases h
      | some i =>
        rw [hi] at h
        simp only [Option.map_some] at h
        split at h
        · rename_i s hs
          cases h
          exact ⟨fs, fl, i, rfl, hf, rfl, rfl, hi, by have := Option.some.inj hs; omega⟩
        · cases h
/-- A field's address. -/
theorem d_fa {g off f c : Nat} {e : TypeId} (ho : o.op = .fieldAddr t x f) (hx : ev n ρ x = .pointer (some ⟨g, off, none⟩)) (hf : fOff P t f = some (c, e)) : Runs P n ρ o W (.pointer (some ⟨g, off + c, none⟩)) W := by
  obtain ⟨fs, fl, i, hu, hfl, rfl, rfl, hi, hs⟩ := fOff_spec hf
  unfold Runs execOp
  simp [ho, hx, Instr.fieldAt, run_underlying hu, hfl, Instr.sureAddr, fieldPlace, sizeOf, typeInfo, hi, hs, Addr.add_mid]
end
end Go.Proofs.YtejaohlijaodjaaDoor
