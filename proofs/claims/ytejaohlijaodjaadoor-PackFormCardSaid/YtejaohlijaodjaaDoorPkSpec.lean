/- What chapter 3 says of numbers and bytes, as plain functions. No program stands in this text. -/
import Derived.Test.YtejaohlijaodjaaDoorBase
import Derived.IntWalk
namespace Go.Proofs.YtejaohlijaodjaaDoor
open Go Go.RowKit
/-- A number as 64 bits. -/
def Pk.toU (n : Int) : Nat := (n % 18446744073709551616).toNat
/-- The lowest w bytes, the lowest first. -/
def Pk.le (u w : Nat) : List UInt8 := (List.range w).map fun i => UInt8.ofNat (u / 256 ^ i)
def Pk.int (u : Nat) : List UInt8 := if u < 253 then [UInt8.ofNat u] else if u < 65536 then 253 :: Pk.le u 2 else if u < 4294967296 then 254 :: Pk.le u 4 else 255 :: Pk.le u 8
theorem Pk.toU_lt (n : Int) : Pk.toU n < 18446744073709551616 := by unfold Pk.toU; omega
theorem Pk.toU_pos (n : Int) (h0 : 0 ≤ n) (h1 : n < 18446744073709551616) : Pk.toU n = n.toNat := by unfold Pk.toU; rw [Int.emod_eq_of_lt h0 h1]
theorem Pk.toU_cast (n : Int) : (Pk.toU n : Int) = n % 18446744073709551616 := by unfold Pk.toU; omega
theorem Pk.le_succ (u w : Nat) : Pk.le u (w + 1) = Pk.le u w ++ [UInt8.ofNat (u / 256 ^ w)] := by simp [Pk.le, List.range_succ]
theorem Pk.len_le (u w : Nat) : (Pk.le u w).length = w := by simp [Pk.le]
theorem Pk.len_int (u : Nat) : (Pk.int u).length ≤ 9 := by
  unfold Pk.int; split <;> (try split) <;> (try split) <;> simp [Pk.len_le]
theorem u64_wrap (n : Int) : IntKind.u64.wrap n = (Pk.toU n : Int) := by
  rw [Pk.toU_cast]; simp [IntKind.wrap, IntKind.bits, IntKind.signed]
theorem shr_le (u k : Nat) : (u : Int) / 2 ^ (8 * k) = ((u / 256 ^ k : Nat) : Int) := by
  have e : (256 : Nat) ^ k = 2 ^ (8 * k) := by rw [Nat.pow_mul]
  rw [e]; simp
theorem u8_eq2 (n : Nat) : IntKind.u8.wrap ((n : Int) % 256) = ((UInt8.ofNat n).toNat : Int) := by rw [IntKind.wrap_u8]; simp
theorem u64_div (u k : Nat) (h : u < 18446744073709551616) : IntKind.u64.wrap (((u / 256 ^ k : Nat) : Int) / 256) = ((u / 256 ^ (k + 1) : Nat) : Int) := by
  have e : u / 256 ^ (k + 1) = u / 256 ^ k / 256 := by rw [Nat.pow_succ, Nat.div_div_eq_div_mul]
  have h1 : u / 256 ^ k ≤ u := Nat.div_le_self _ _
  rw [e]
  generalize u / 256 ^ k = q at *
  rw [IntWalk.u64_in _ (by omega)]
  omega
theorem Pk.int_1 {u : Nat} (h : u < 253) : Pk.int u = [UInt8.ofNat u] := by unfold Pk.int; rw [if_pos h]
theorem Pk.int_2 {u : Nat} (h : 253 ≤ u) (h2 : u < 65536) : Pk.int u = 253 :: Pk.le u 2 := by unfold Pk.int; rw [if_neg (by omega), if_pos h2]
theorem Pk.int_4 {u : Nat} (h : 65536 ≤ u) (h2 : u < 4294967296) : Pk.int u = 254 :: Pk.le u 4 := by unfold Pk.int; rw [if_neg (by omega), if_neg (by omega), if_pos h2]
theorem Pk.int_8 {u : Nat} (h : 4294967296 ≤ u) : Pk.int u = 255 :: Pk.le u 8 := by unfold Pk.int; rw [if_neg (by omega), if_neg (by omega), if_neg (by omega)]
end Go.Proofs.YtejaohlijaodjaaDoor
