/- What was laid is read again; cut short it is too short; what is read is what is laid. No program stands in this text. -/
import Derived.Test.YtejaohlijaodjaaDoorRdSpec
namespace Go.Proofs.YtejaohlijaodjaaDoor
open Go Go.RowKit
namespace Pk
theorem le_cons (u w : Nat) : le u (w + 1) = UInt8.ofNat u :: le (u / 256) w := by
  unfold le
  rw [List.range_succ_eq_map, List.map_cons, List.map_map]
  congr 1
  · simp
  · apply List.map_congr_left
    intro i _
    simp only [Function.comp]
    rw [Nat.div_div_eq_div_mul, Nat.pow_succ, Nat.mul_comm]
theorem ofLe_le : ∀ (w u : Nat), ofLe (le u w) = u % 256 ^ w
  | 0, u => by simp [le, ofLe, Nat.mod_one]
  | w + 1, u => by
    rw [le_cons, ofLe, ofLe_le w, Nat.pow_succ, Nat.mul_comm (256 ^ w) 256, Nat.mod_mul]
    simp
theorem le_ofLe : ∀ b : List UInt8, le (ofLe b) b.length = b
  | [] => rfl
  | c :: r => by
    have hc := c.toNat_lt
    rw [List.length_cons, le_cons, ofLe]
    have h1 : (c.toNat + 256 * ofLe r) / 256 = ofLe r := by omega
    have h2 : UInt8.ofNat (c.toNat + 256 * ofLe r) = c := UInt8.toNat_inj.1 (by simp)
    rw [h1, h2, le_ofLe r]
theorem next_app (l rest : List UInt8) : next l.length (l ++ rest, 0) = (l, (rest, 0)) := by
  rw [next_ok rfl (by simp)]; simp
theorem next_appn {n : Nat} {l : List UInt8} (rest : List UInt8) (h : l.length = n) : next n (l ++ rest, 0) = (l, (rest, 0)) := by
  subst h; exact next_app l rest
theorem next_one (c : UInt8) (r : List UInt8) : next 1 (c :: r, 0) = ([c], (r, 0)) := next_app [c] r
theorem rInt_nil : rInt ([], 0) = (0, ([], 4)) := by decide
theorem rInt_one {c : UInt8} (r : List UInt8) (h : wide c = 0) : rInt (c :: r, 0) = (c.toNat, (r, 0)) := by
  unfold rInt
  rw [next_one]
  simp [h]
theorem rInt_wide {c : UInt8} {b : List UInt8} (r : List UInt8) (h : wide c ≠ 0) (hb : b.length = wide c) : rInt (c :: (b ++ r), 0) = num c b (r, 0) := by
  unfold rInt
  rw [next_one]
  simp only
  rw [if_neg h, next_appn r hb]
  simp
theorem rInt_short {c : UInt8} {b : List UInt8} (h : wide c ≠ 0) (hb : b.length < wide c) : rInt (c :: b, 0) = (0, ([], 4)) := by
  unfold rInt
  rw [next_one]
  simp only
  rw [if_neg h, next_short rfl hb]
  simp
/-- A number's form. -/
theorem int_form {u : Nat} (hu : u < 9223372036854775808) : (u < 253 ∧ int u = [UInt8.ofNat u] ∧ wide (UInt8.ofNat u) = 0) ∨ ∃ c, wide c ≠ 0 ∧ int u = c :: le u (wide c) ∧ least c ≤ u ∧ u < 256 ^ wide c := by
  by_cases h1 : u < 253
  · refine .inl ⟨h1, int_1 h1, ?_⟩
    unfold wide
    have hne : ∀ k : Nat, k = 253 ∨ k = 254 ∨ k = 255 → ¬ UInt8.ofNat u = UInt8.ofNat k := fun k hk e => by
      have := congrArg UInt8.toNat e
      simp at this
      omega
    rw [if_neg (show ¬ UInt8.ofNat u = 253 from hne 253 (by simp)), if_neg (show ¬ UInt8.ofNat u = 254 from hne 254 (by simp)), if_neg (show ¬ UInt8.ofNat u = 255 from hne 255 (by simp))]
  · right
    by_cases h2 : u < 65536
    · exact ⟨253, by decide, int_2 (by omega) h2, by show 253 ≤ u; omega, h2⟩
    · by_cases h3 : u < 4294967296
      · exact ⟨254, by decide, int_4 (by omega) h3, by show 65536 ≤ u; omega, h3⟩
      · exact ⟨255, by decide, int_8 (by omega), by show 4294967296 ≤ u; omega, Nat.lt_trans hu (by decide)⟩
theorem rInt_int {u : Nat} (hu : u < 9223372036854775808) (r : List UInt8) : rInt (int u ++ r, 0) = (u, (r, 0)) := by
  rcases int_form hu with ⟨h1, h2, h3⟩ | ⟨c, hc, hi, hl, hw⟩
  · rw [h2, List.singleton_append, rInt_one r h3]
    simp; omega
  · rw [hi, List.cons_append, rInt_wide r hc (len_le _ _)]
    unfold num
    rw [ofLe_le, Nat.mod_eq_of_lt hw, if_neg (by omega), if_neg (by omega)]
theorem rInt_cut {u k : Nat} (hu : u < 9223372036854775808) (hk : k < (int u).length) : rInt ((int u).take k, 0) = (0, ([], 4)) := by
  rcases int_form hu with ⟨h1, h2, h3⟩ | ⟨c, hc, hi, hl, hw⟩
  · rw [h2] at hk ⊢
    obtain rfl : k = 0 := by simpa using hk
    exact rInt_nil
  · rw [hi] at hk ⊢
    match k with
    | 0 => exact rInt_nil
    | k + 1 =>
      rw [List.take_succ_cons]
      refine rInt_short hc ?_
      rw [List.length_take, len_le]
      rw [List.length_cons, len_le] at hk
      omega
/-- What a number read was laid as. -/
theorem rInt_back {s : RS} (hs : s.2 = 0) (h : (rInt s).2.2 = 0) : s.1 = int (rInt s).1 ++ (rInt s).2.1 := by
  obtain ⟨l, e⟩ := s
  obtain rfl : e = 0 := hs
  match l with
  | [] => rw [rInt_nil] at h; cases h
  | c :: r =>
    by_cases hw : wide c = 0
    · rw [rInt_one r hw]
      have hlt : c.toNat < 253 := by
        have hc := c.toNat_lt
        have hne : ∀ k : UInt8, wide k ≠ 0 → c ≠ k := fun k hk e => by subst e; exact hk hw
        have h1 := hne 253 (by decide)
        have h2 := hne 254 (by decide)
        have h3 := hne 255 (by decide)
        rcases Nat.lt_or_ge c.toNat 253 with h | h
        · exact h
        · have : c.toNat = 253 ∨ c.toNat = 254 ∨ c.toNat = 255 := by omega
          rcases this with h | h | h
          · exact absurd (UInt8.toNat_inj.1 (by rw [h]; rfl)) h1
          · exact absurd (UInt8.toNat_inj.1 (by rw [h]; rfl)) h2
          · exact absurd (UInt8.toNat_inj.1 (by rw [h]; rfl)) h3
      show c :: r = int c.toNat ++ r
      rw [int_1 hlt, UInt8.ofNat_toNat]
      rfl
    · rcases Nat.lt_or_ge r.length (wide c) with hlt | hge
      · rw [rInt_short hw hlt] at h; cases h
      · have hb : (r.take (wide c)).length = wide c := by rw [List.length_take]; omega
        have hr : rInt (c :: r, 0) = num c (r.take (wide c)) (r.drop (wide c), 0) := by
          have := rInt_wide (c := c) (b := r.take (wide c)) (r.drop (wide c)) hw hb
          rwa [List.take_append_drop] at this
        rw [hr] at h ⊢
        have ho := ofLe_lt (r.take (wide c))
        rw [hb] at ho
        have hd := le_ofLe (r.take (wide c))
        rw [hb] at hd
        generalize hbb : r.take (wide c) = b at *
        unfold num at *
        split at h
        · cases h
        · rename_i h1
          rw [if_neg h1]
          split at h
          · cases h
          · rename_i h2
            rw [if_neg h2]
            have key : int (ofLe b) = c :: b := by
              have hcc : c = 253 ∨ c = 254 ∨ c = 255 := by
                unfold wide at hw
                split at hw
                · left; assumption
                · split at hw
                  · right; left; assumption
                  · split at hw
                    · right; right; assumption
                    · exact absurd rfl hw
              rcases hcc with rfl | rfl | rfl
              · have h3 : ¬ ofLe b < 253 := h2
                have h4 : ofLe b < 65536 := ho
                rw [int_2 (by omega) h4]
                exact congrArg _ hd
              · have h3 : ¬ ofLe b < 65536 := h2
                have h4 : ofLe b < 4294967296 := ho
                rw [int_4 (by omega) h4]
                exact congrArg _ hd
              · have h3 : ¬ ofLe b < 4294967296 := h2
                rw [int_8 (by omega)]
                exact congrArg _ hd
            show c :: r = int (ofLe b) ++ r.drop (wide c)
            rw [key, List.cons_append, ← hbb, List.take_append_drop]
theorem rCount_eq {m : Int} {s : RS} (h : (rCount m s).2.2 = 0) : rCount m s = rInt s ∧ ((rInt s).1 : Int) ≤ m := by
  unfold rCount at *
  split at h
  · cases h
  · rename_i h1
    rw [if_neg h1]
    refine ⟨rfl, ?_⟩
    have h2 : ¬ m < ((rInt s).1 : Int) := fun h3 => h1 ⟨h, h3⟩
    omega
theorem rCount_int {u : Nat} {m : Int} (hu : u < 9223372036854775808) (hm : (u : Int) ≤ m) (r : List UInt8) : rCount m (int u ++ r, 0) = (u, (r, 0)) := by
  unfold rCount
  rw [rInt_int hu, if_neg (by simp; omega)]
theorem rCount_cut {u k : Nat} {m : Int} (hu : u < 9223372036854775808) (hk : k < (int u).length) : rCount m ((int u).take k, 0) = (0, ([], 4)) := by
  unfold rCount
  rw [rInt_cut hu hk, if_neg (by simp)]
theorem rCount_back {m : Int} {s : RS} (hs : s.2 = 0) (h : (rCount m s).2.2 = 0) : s.1 = int (rCount m s).1 ++ (rCount m s).2.1 := by
  have he := (rCount_eq h).1
  rw [he] at h ⊢
  exact rInt_back hs h
def blob (p : List UInt8) : List UInt8 := int p.length ++ p
theorem rBlob_blob {p : List UInt8} {m : Int} (hp : p.length < 9223372036854775808) (hm : (p.length : Int) ≤ m) (r : List UInt8) : rBlob m (blob p ++ r, 0) = (p, (r, 0)) := by
  unfold rBlob blob
  rw [List.append_assoc, rCount_int hp hm]
  exact next_app p r
theorem rBlob_cut {p : List UInt8} {m : Int} {k : Nat} (hp : p.length < 9223372036854775808) (hm : (p.length : Int) ≤ m) (hk : k < (blob p).length) : rBlob m ((blob p).take k, 0) = ([], ([], 4)) := by
  unfold rBlob blob at *
  rcases Nat.lt_or_ge k (int p.length).length with h | h
  · rw [List.take_append_of_le_length (by omega), rCount_cut hp h]
    exact next_bad (by decide)
  · rw [List.take_append, List.take_of_length_le h, rCount_int hp hm]
    refine next_short rfl ?_
    rw [List.length_append] at hk
    rw [List.length_take]
    omega
theorem rBlob_back {m : Int} {s : RS} (hs : s.2 = 0) (h : (rBlob m s).2.2 = 0) : s.1 = blob (rBlob m s).1 ++ (rBlob m s).2.1 := by
  unfold rBlob at *
  by_cases he : (rCount m s).2.2 = 0
  · have h1 := rCount_back hs he
    generalize rCount m s = q at *
    obtain ⟨v, l, e⟩ := q
    simp only at he h h1 ⊢
    subst he
    rcases Nat.lt_or_ge l.length v with hl | hl
    · rw [next_short rfl hl] at h; cases h
    · rw [next_ok rfl hl]
      unfold blob
      simp only
      rw [h1, List.length_take, Nat.min_eq_left hl, List.append_assoc, List.take_append_drop]
  · rw [next_bad he] at h
    exact absurd h he
theorem rBytes_app {n : Nat} {h : List UInt8} (hh : h.length = n) (r : List UInt8) : rBytes n (h ++ r, 0) = (h, (r, 0)) := by
  unfold rBytes
  rw [next_appn r hh]
  simp [full, hh]
theorem rBytes_cut {n k : Nat} {h : List UInt8} (hh : h.length = n) (hk : k < h.length) : (rBytes n (h.take k, 0)).2 = ([], 4) := by
  unfold rBytes
  rw [next_short rfl (by rw [List.length_take]; omega)]
theorem rBytes_back {n : Nat} {s : RS} (hs : s.2 = 0) (h : (rBytes n s).2.2 = 0) : s.1 = (rBytes n s).1 ++ (rBytes n s).2.1 := by
  unfold rBytes at *
  rcases Nat.lt_or_ge s.1.length n with hl | hl
  · rw [next_short hs hl] at h; cases h
  · rw [next_ok hs hl]
    simp [full, Nat.min_eq_left hl]
theorem len_rBytes {n : Nat} {s : RS} : (rBytes n s).1.length = n := len_full next_len
end Pk
end Go.Proofs.YtejaohlijaodjaaDoor
