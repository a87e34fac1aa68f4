/- Words of 32 bits: the runs of the operations on them, kept in Lean's own UInt32. No program stands in this text. -/
import Derived.Test.YtdlbighnmbjofaaDoorBase
namespace Go.Proofs.YtdlbighnmbjofaaDoor
open Go Go.RowKit

/-- A word turned right by n bits. -/
def ror (x : UInt32) (n : Nat) : UInt32 := UInt32.ofNat ((x.toNat / 2 ^ n) ||| (x.toNat * 2 ^ (32 - n) % 4294967296))
/-- A word of four bytes, the lowest first. -/
def le32 (a b c d : UInt8) : UInt32 := UInt32.ofNat (a.toNat + 256 * b.toNat + 65536 * c.toNat + 16777216 * d.toNat)

theorem u32_lt (x : UInt32) : x.toNat < 4294967296 := x.toNat_lt
theorem u8_lt (x : UInt8) : x.toNat < 256 := x.toNat_lt

theorem or_lt32 {a b : Nat} (ha : a < 4294967296) (hb : b < 4294967296) : a ||| b < 4294967296 := Nat.or_lt_two_pow (n := 32) ha hb

theorem ror_toNat (x : UInt32) (n : Nat) : (ror x n).toNat = (x.toNat / 2 ^ n) ||| (x.toNat * 2 ^ (32 - n) % 4294967296) := by
  unfold ror
  rw [UInt32.toNat_ofNat']
  refine Nat.mod_eq_of_lt (or_lt32 ?_ (Nat.mod_lt _ (by omega)))
  exact Nat.lt_of_le_of_lt (Nat.div_le_self _ _) (u32_lt x)

theorem or_ror (x : UInt32) (n : Nat) {a b : Int} (ha : a = ((x.toNat / 2 ^ n : Nat) : Int)) (hb : b = ((x.toNat * 2 ^ (32 - n) % 4294967296 : Nat) : Int)) :
    bits .or .u32 a b = ((ror x n).toNat : Int) := by
  subst ha hb
  rw [u32_or_nat, ror_toNat]
  · exact Nat.lt_of_le_of_lt (Nat.div_le_self _ _) (u32_lt x)
  · exact Nat.mod_lt _ (by omega)
theorem or_ror' (x : UInt32) (n : Nat) {a b : Int} (ha : a = ((x.toNat / 2 ^ n : Nat) : Int)) (hb : b = ((x.toNat * 2 ^ (32 - n) % 4294967296 : Nat) : Int)) :
    bits .or .u32 b a = ((ror x n).toNat : Int) := by
  subst ha hb
  rw [u32_or_nat, ror_toNat, Nat.or_comm]
  · exact Nat.mod_lt _ (by omega)
  · exact Nat.lt_of_le_of_lt (Nat.div_le_self _ _) (u32_lt x)

/- The words' operations under names that no simp set opens. -/
def add32 (x y : UInt32) : UInt32 := x + y
def xor32 (x y : UInt32) : UInt32 := x ^^^ y
def or32 (x y : UInt32) : UInt32 := x ||| y
def not32 (x : UInt32) : UInt32 := ~~~ x
section
variable (t : TypeId) (x y : UInt32)
theorem bop_add32 : binOp .add t (.int .u32 (x.toNat : Int)) (.int .u32 (y.toNat : Int)) = pure (.int .u32 ((add32 x y).toNat : Int)) := by
  have e : IntKind.u32.wrap ((x.toNat : Int) + (y.toNat : Int)) = ((add32 x y).toNat : Int) := by
    rw [IntKind.wrap_u32', add32, UInt32.toNat_add]; simp
  simp [binOp, Op.intArith, e]
theorem bop_xor32 : binOp .xor t (.int .u32 (x.toNat : Int)) (.int .u32 (y.toNat : Int)) = pure (.int .u32 ((xor32 x y).toNat : Int)) := by
  have e : bits .xor .u32 (x.toNat : Int) (y.toNat : Int) = ((xor32 x y).toNat : Int) := by
    rw [xor32, u32_xor_nat _ _ (u32_lt x) (u32_lt y), UInt32.toNat_xor]
  show Op.intBits .xor .u32 _ _ = _
  rw [intBits_xor, e]
theorem bop_or32 : binOp .or t (.int .u32 (x.toNat : Int)) (.int .u32 (y.toNat : Int)) = pure (.int .u32 ((or32 x y).toNat : Int)) := by
  have e : bits .or .u32 (x.toNat : Int) (y.toNat : Int) = ((or32 x y).toNat : Int) := by
    rw [or32, u32_or_nat _ _ (u32_lt x) (u32_lt y), UInt32.toNat_or]
  show Op.intBits .or .u32 _ _ = _
  rw [intBits_or, e]
theorem uop_not32 : Op.unary .xor (.int .u32 (x.toNat : Int)) = pure (.int .u32 ((not32 x).toNat : Int)) := by
  have e : bits .xor .u32 (4294967295 : Int) (x.toNat : Int) = ((not32 x).toNat : Int) := by
    rw [not32, show (4294967295 : Int) = (((4294967295 : UInt32).toNat : Nat) : Int) from rfl, u32_xor_nat _ _ (u32_lt _) (u32_lt x), ← UInt32.toNat_xor]
    exact congrArg (fun z : UInt32 => (z.toNat : Int)) (UInt32.toBitVec_inj.1 (by simp [← BitVec.allOnes_xor]))
  show Op.intBits .xor .u32 _ _ = _
  rw [intBits_xor]
  show pure (Value.int .u32 (bits .xor .u32 (4294967295 : Int) (x.toNat : Int))) = _
  rw [e]
end
end Go.Proofs.YtdlbighnmbjofaaDoor
