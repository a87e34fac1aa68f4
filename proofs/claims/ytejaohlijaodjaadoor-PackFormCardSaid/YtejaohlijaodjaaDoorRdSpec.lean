/- What chapter 3 says of readers, as plain functions. No program stands in this text. -/
import Derived.Test.YtejaohlijaodjaaDoorPkSpec
namespace Go.Proofs.YtejaohlijaodjaaDoor
open Go Go.RowKit
/-- What is left, and the error that has stuck (0: none; then nothing is left). -/
abbrev RS := List UInt8 × Int
namespace Pk
def wide (c : UInt8) : Nat := if c = 253 then 2 else if c = 254 then 4 else if c = 255 then 8 else 0
def least (c : UInt8) : Nat := if c = 253 then 253 else if c = 254 then 65536 else 4294967296
def ofLe : List UInt8 → Nat
  | [] => 0
  | c :: r => c.toNat + 256 * ofLe r
/-- The next n bytes. -/
def next (n : Nat) (s : RS) : List UInt8 × RS := if s.2 ≠ 0 then ([], s) else if s.1.length < n then ([], ([], 4)) else (s.1.take n, (s.1.drop n, 0))
/-- What a number's first byte and the bytes behind it tell. -/
def num (c : UInt8) (b : List UInt8) (s : RS) : Nat × RS := if 9223372036854775808 ≤ ofLe b then (0, ([], 15)) else if ofLe b < least c then (0, ([], 10)) else (ofLe b, s)
def rInt (s : RS) : Nat × RS :=
  match next 1 s with
  | ([], s1) => (0, s1)
  | (c :: _, s1) => if wide c = 0 then (c.toNat, s1) else if (next (wide c) s1).2.2 ≠ 0 then (0, (next (wide c) s1).2) else num c (next (wide c) s1).1 (next (wide c) s1).2
def rCount (most : Int) (s : RS) : Nat × RS := if (rInt s).2.2 = 0 ∧ most < ((rInt s).1 : Int) then (0, ([], 3)) else rInt s
def rBlob (most : Int) (s : RS) : List UInt8 × RS := next (rCount most s).1 (rCount most s).2
def full (n : Nat) (b : List UInt8) : List UInt8 := b ++ List.replicate (n - b.length) 0
def rBytes (n : Nat) (s : RS) : List UInt8 × RS := (full n (next n s).1, (next n s).2)

def Ok (s : RS) : Prop := (s.2 ≠ 0 → s.1 = []) ∧ 0 ≤ s.2 ∧ s.2 ≤ 24
theorem ok_next {n : Nat} {s : RS} (h : Ok s) : Ok (next n s).2 := by
  unfold next
  split
  · exact h
  · split
    · exact ⟨fun _ => rfl, by simp, by simp⟩
    · exact ⟨fun h => absurd rfl h, by simp, by simp⟩
theorem next_bad {n : Nat} {s : RS} (h : s.2 ≠ 0) : next n s = ([], s) := by unfold next; rw [if_pos h]
theorem next_short {n : Nat} {s : RS} (h : s.2 = 0) (hn : s.1.length < n) : next n s = ([], ([], 4)) := by unfold next; rw [if_neg (by simp [h]), if_pos hn]
theorem next_ok {n : Nat} {s : RS} (h : s.2 = 0) (hn : n ≤ s.1.length) : next n s = (s.1.take n, (s.1.drop n, 0)) := by unfold next; rw [if_neg (by simp [h]), if_neg (by omega)]
theorem next_len {n : Nat} {s : RS} : (next n s).1.length ≤ n := by
  unfold next; split
  · simp
  · split
    · simp
    · simp; omega
theorem wide_of {c : UInt8} : wide c = 0 ∨ wide c = 2 ∨ wide c = 4 ∨ wide c = 8 := by
  unfold wide; split
  · simp
  · split
    · simp
    · split <;> simp
theorem ofLe_lt : ∀ (b : List UInt8), ofLe b < 256 ^ b.length
  | [] => by simp [ofLe]
  | c :: r => by
    have h1 := ofLe_lt r
    have h2 := c.toNat_lt
    simp only [ofLe, List.length_cons, Nat.pow_succ]
    omega
theorem ok_rInt {s : RS} (h : Ok s) : Ok (rInt s).2 := by
  unfold rInt
  split
  · rename_i s1 e; have := ok_next (n := 1) h; rwa [e] at this
  · rename_i c r s1 e
    have h1 := ok_next (n := 1) h
    rw [e] at h1
    split
    · exact h1
    · split
      · exact ok_next h1
      · unfold num
        split
        · exact ⟨fun _ => rfl, by simp, by simp⟩
        · split
          · exact ⟨fun _ => rfl, by simp, by simp⟩
          · exact ok_next h1
theorem rInt_lt {s : RS} : (rInt s).1 < 9223372036854775808 := by
  unfold rInt
  split
  · simp
  · rename_i c r s1 e
    split
    · have := c.toNat_lt; simp; omega
    · split
      · simp
      · unfold num
        split
        · simp
        · split
          · simp
          · rename_i h _; simp; omega
theorem rInt_bad {s : RS} (h : (rInt s).2.2 ≠ 0) : (rInt s).1 = 0 := by
  unfold rInt at *
  split at h
  · simp
  · rename_i c r s1 e
    split at h
    · rename_i hw
      unfold next at e
      split at e
      · cases e
      · split at e
        · cases e
        · have := congrArg (fun p => p.2.2) e
          simp only at this
          exact absurd this.symm h
    · rename_i hw
      rw [if_neg hw]
      split at h
      · rename_i hb; rw [if_pos hb]
      · rename_i hb
        rw [if_neg hb]
        unfold num at *
        split at h
        · rename_i h1; rw [if_pos h1]
        · rename_i h1
          rw [if_neg h1]
          split at h
          · rename_i h2; rw [if_pos h2]
          · exact absurd h hb
theorem ok_rCount {m : Int} {s : RS} (h : Ok s) : Ok (rCount m s).2 := by
  unfold rCount; split
  · exact ⟨fun _ => rfl, by simp, by simp⟩
  · exact ok_rInt h
theorem rCount_lt {m : Int} {s : RS} : (rCount m s).1 < 9223372036854775808 := by
  unfold rCount; split
  · simp
  · exact rInt_lt
theorem rCount_bad {m : Int} {s : RS} (h : (rCount m s).2.2 ≠ 0) : (rCount m s).1 = 0 := by
  unfold rCount at *; split at h
  · rename_i h1; rw [if_pos h1]
  · rename_i h1; rw [if_neg h1]; exact rInt_bad h
theorem len_full {n : Nat} {b : List UInt8} (h : b.length ≤ n) : (full n b).length = n := by simp [full]; omega
/-- The form of a number is its shortest. -/
theorem int_len {c : UInt8} {u : Nat} (hw : wide c ≠ 0) (hu : u < 256 ^ wide c) : ((Pk.int u).length ≠ 1 + wide c) ↔ u < least c := by
  have hl : (Pk.int u).length = if u < 253 then 1 else if u < 65536 then 3 else if u < 4294967296 then 5 else 9 := by
    unfold Pk.int
    split
    · rfl
    · split
      · simp [len_le]
      · split <;> simp [len_le]
  rw [hl]
  clear hl
  unfold wide least at *
  by_cases h1 : c = 253
  · rw [if_pos h1] at hu
    simp only [if_pos h1]
    simp at hu
    split
    · omega
    · omega
  · by_cases h2 : c = 254
    · rw [if_neg h1, if_pos h2] at hu
      simp only [if_neg h1, if_pos h2]
      simp at hu
      split
      · omega
      · split
        · omega
        · omega
    · by_cases h3 : c = 255
      · simp only [if_neg h1, if_neg h2, if_pos h3]
        split
        · omega
        · split
          · omega
          · split <;> omega
      · rw [if_neg h1, if_neg h2, if_neg h3] at hw
        exact absurd rfl hw
theorem wide_253 {b : UInt8} (h : ((b.toNat : Int) == 253) = true) : wide b = 2 := by
  have : b = 253 := UInt8.toNat_inj.1 (by have := eq_of_beq h; simp; omega)
  subst this; rfl
theorem wide_254 {b : UInt8} (h : ((b.toNat : Int) == 254) = true) : wide b = 4 := by
  have : b = 254 := UInt8.toNat_inj.1 (by have := eq_of_beq h; simp; omega)
  subst this; rfl
theorem wide_255 {b : UInt8} (h : ((b.toNat : Int) == 255) = true) : wide b = 8 := by
  have : b = 255 := UInt8.toNat_inj.1 (by have := eq_of_beq h; simp; omega)
  subst this; rfl
theorem wide_0 {b : UInt8} (h : ((b.toNat : Int) == 253) = false) (h2 : ((b.toNat : Int) == 254) = false) (h3 : ((b.toNat : Int) == 255) = false) : wide b = 0 := by
  unfold wide
  rw [if_neg (fun e => by subst e; simp at h), if_neg (fun e => by subst e; simp at h2), if_neg (fun e => by subst e; simp at h3)]
theorem ofLe_drop {b : List UInt8} {j : Nat} (h : j < b.length) : ofLe (b.drop j) = (b.getD j 0).toNat + 256 * ofLe (b.drop (j + 1)) := by
  rw [List.drop_eq_getElem_cons h, ofLe, List.getD_eq_getElem?_getD, List.getElem?_eq_getElem h]; rfl
/-- A digit more. -/
theorem ofLe_step {b : List UInt8} {k : Nat} (h1 : 1 ≤ k) (h : k ≤ b.length) (h8 : b.length ≤ 8) :
    IntKind.u64.wrap ((ofLe (b.drop k) : Int) * 256) = (ofLe (b.drop k) : Int) * 256 ∧ IntKind.u64.wrap ((ofLe (b.drop k) : Int) * 256 + ((b.getD (k - 1) 0).toNat : Int)) = (ofLe (b.drop (k - 1)) : Int) := by
  have hd := ofLe_drop (b := b) (j := k - 1) (by omega)
  rw [show k - 1 + 1 = k by omega] at hd
  have hlt := ofLe_lt (b.drop (k - 1))
  have hle : (256 : Nat) ^ (b.drop (k - 1)).length ≤ 256 ^ 8 := Nat.pow_le_pow_right (by decide) (by rw [List.length_drop]; omega)
  have h256 : (256 : Nat) ^ 8 = 18446744073709551616 := by decide
  constructor
  · exact IntWalk.u64_in _ (by omega)
  · rw [IntWalk.u64_in _ (by omega), hd]; omega
theorem ofLe_nil {b : List UInt8} {k : Nat} (h : b.length ≤ k) : ofLe (b.drop k) = 0 := by rw [List.drop_eq_nil_of_le h]; rfl
end Pk
end Go.Proofs.YtejaohlijaodjaaDoor
