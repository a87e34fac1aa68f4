/- Texts of this claim, laid together: K96, K97. -/
import Derived.Test.YtfhhfhdnhadooaaGreatDoorMBG
import Derived.Laws.BitsAllLaws
set_option linter.unusedVariables false
set_option linter.unusedSimpArgs false

namespace Go.Proofs.YtfhhfhdnhadooaaGreatDoor
open Go Go.RowKit
attribute [local irreducible] wpList

theorem all_sub {n s : Nat} {f : Value → Bool} : ∀ {xs : List Value}, xs.length = n * s → (∀ i, i < n → (sub xs (i * s) s).all f = true) → xs.all f = true := by
 induction n with
 | zero =>
  intro xs h _
  have : xs = [] := List.eq_nil_of_length_eq_zero (by omega)
  rw [this]; rfl
 | succ n ih =>
  intro xs h hi
  have e : xs = xs.take s ++ xs.drop s := (List.take_append_drop s xs).symm
  rw [Nat.add_mul, Nat.one_mul] at h
  rw [e, List.all_append, Bool.and_eq_true]
  refine ⟨?_, ih (by rw [List.length_drop]; omega) (fun i hin => ?_)⟩
  ·have := hi 0 (by omega)
   unfold sub at this
   rwa [Nat.zero_mul, List.drop_zero] at this
  ·have := hi (i + 1) (by omega)
   unfold sub at this ⊢
   rwa [List.drop_drop, show s + i * s = (i + 1) * s by rw [Nat.add_mul]; omega]
section
variable {us xs e zs : List Value} {i s n k : Nat} {v : Value}
theorem mix_at (hu : us.length = i * s) : sub (us ++ xs.drop (i * s)) (i * s) s = sub xs (i * s) s := by
 unfold sub
 rw [← hu, List.drop_left]
theorem mix_mid (hu : us.length = i * s) (he : e.length = s) : sub (us ++ (e ++ zs)) (i * s) s = e := by
 unfold sub
 rw [← hu, List.drop_left, List.take_left' he]
theorem mix_set (hu : us.length = i * s) (hk : k < s) (hx : xs.length = n * s) (hi : i < n) : (us ++ xs.drop (i * s)).set (i * s + k) v = us ++ ((sub xs (i * s) s).set k v ++ xs.drop ((i + 1) * s)) := by
 have hm := Nat.mul_le_mul_right s (show i + 1 ≤ n by omega)
 rw [Nat.add_mul, Nat.one_mul] at hm
 rw [List.set_append_right _ _ (by omega), hu, Nat.add_sub_cancel_left]
 have e : xs.drop (i * s) = sub xs (i * s) s ++ xs.drop ((i + 1) * s) := by
  unfold sub
  rw [Nat.add_mul, Nat.one_mul, ← List.drop_drop, List.take_append_drop]
 rw [e, List.set_append_left _ _ (by unfold sub; rw [List.length_take, List.length_drop]; omega)]
theorem mix_end (hx : xs.length = n * s) : us ++ xs.drop (n * s) = us := by rw [← hx, List.drop_length, List.append_nil]
end

set_option maxHeartbeats 4000000 in
theorem cloneIn {S : Nat → Prop} {A : Option Addr} {n c : Nat} {xs : List Value} (w : World) (hr : Rd w S 34 A n xs) (h1 : xs.all (·.oneCell') = true) (hn : n ≤ 1000000000) : Calls Tryz.prog 73 [.slice A n c].toArray w (Ret (fun v' w' => ∃ A' c', v' = .slice A' n c' ∧ n ≤ c' ∧ c' ≤ 9223372036854775807 ∧ New w w' (Fact.row 64 34 (.slice A' n c') n xs))) := by
 refine k_enter (l := [_]) Tryz.func73 rfl rfl ?_
 have H := St.start nT w
 refine k_seq (k_region (sAs rfl rfl rfl rfl (l_nil (k_seq (k_seq (k_region (sMs rfl rfl rfl rfl (sR rfl rfl (d_eqnil rfl rfl rfl tu31) (l_nil (k_cond rfl (fun hc4 => ?_) (fun hc4 => ?_)))))))))))
 ·skip
  refine k_seq (k_region (sAs rfl rfl rfl rfl (l_nil (k_ret ?_))))
  repeat (first | refine r_then ?_ | refine r_blk ?_)
  obtain rfl : n = 0 := by
   rcases Nat.eq_zero_or_pos n with h | h
   ·exact h
   ·obtain ⟨g, o, rfl, _⟩ := hr.2 h
    simp at hc4
  obtain rfl : xs = [] := List.eq_nil_of_length_eq_zero (by have := hr.1; omega)
  replace H := H.nilrow 64 34
  exact q_ret (v := .slice _ _ _) rfl rfl ⟨_, rfl, none, 0, rfl, Nat.le_refl _, by omega, H.give⟩
 ·skip
  refine k_skip (k_seq (k_region (s_eff (e_bsl0 (w_none rfl) rfl rfl tu31 ts64 H ?_))))
  clear H; intro g3_0 W H
  refine sMs rfl rfl rfl rfl (s_eff (e_app (w_none rfl) rfl rfl tu31 tx64 rfl rfl rfl H (H.rd hr) (h1) (by omega) rfl ?_))
  clear H; intro A1 c1 W hc1 hd1 H
  refine sAs rfl rfl rfl rfl (l_nil (k_ret ?_))
  repeat (first | refine r_then ?_ | refine r_blk ?_)
  rw [Nat.zero_add] at hc1 H ⊢
  rw [List.nil_append] at H
  exact q_ret (v := .slice _ _ _) rfl rfl ⟨_, rfl, A1, c1, rfl, hc1, hd1, H.give⟩

set_option maxHeartbeats 4000000 in
theorem cloneOut {S : Nat → Prop} {A : Option Addr} {n c : Nat} {xs : List Value} (w : World) (hr : Rd w S 2 A n xs) (h1 : xs.all (·.oneCell') = true) (hn : n ≤ 1000000000) : Calls Tryz.prog 74 [.slice A n c].toArray w (Ret (fun v' w' => ∃ A' c', v' = .slice A' n c' ∧ n ≤ c' ∧ c' ≤ 9223372036854775807 ∧ New w w' (Fact.row 66 2 (.slice A' n c') n xs))) := by
 refine k_enter (l := [_]) Tryz.func74 rfl rfl ?_
 have H := St.start nT w
 refine k_seq (k_region (sAs rfl rfl rfl rfl (l_nil (k_seq (k_seq (k_region (sMs rfl rfl rfl rfl (sR rfl rfl (d_eqnil rfl rfl rfl tu32) (l_nil (k_cond rfl (fun hc4 => ?_) (fun hc4 => ?_)))))))))))
 ·skip
  refine k_seq (k_region (sAs rfl rfl rfl rfl (l_nil (k_ret ?_))))
  repeat (first | refine r_then ?_ | refine r_blk ?_)
  obtain rfl : n = 0 := by
   rcases Nat.eq_zero_or_pos n with h | h
   ·exact h
   ·obtain ⟨g, o, rfl, _⟩ := hr.2 h
    simp at hc4
  obtain rfl : xs = [] := List.eq_nil_of_length_eq_zero (by have := hr.1; omega)
  replace H := H.nilrow 66 2
  exact q_ret (v := .slice _ _ _) rfl rfl ⟨_, rfl, none, 0, rfl, Nat.le_refl _, by omega, H.give⟩
 ·skip
  refine k_skip (k_seq (k_region (s_eff (e_bsl0 (w_none rfl) rfl rfl tu32 ts66 H ?_))))
  clear H; intro g3_0 W H
  refine sMs rfl rfl rfl rfl (s_eff (e_app (w_none rfl) rfl rfl tu32 tx66 rfl rfl rfl H (H.rd hr) (h1) (by omega) rfl ?_))
  clear H; intro A1 c1 W hc1 hd1 H
  refine sAs rfl rfl rfl rfl (l_nil (k_ret ?_))
  repeat (first | refine r_then ?_ | refine r_blk ?_)
  rw [Nat.zero_add] at hc1 H ⊢
  rw [List.nil_append] at H
  exact q_ret (v := .slice _ _ _) rfl rfl ⟨_, rfl, A1, c1, rfl, hc1, hd1, H.give⟩

set_option maxHeartbeats 4000000 in
theorem cloneBss {S : Nat → Prop} {A : Option Addr} {n c : Nat} {xs : List Value} (w : World) (hr : Rd w S 1 A n xs) (h1 : xs.all (·.oneCell') = true) (hn : n ≤ 1000000000) : Calls Tryz.prog 75 [.slice A n c].toArray w (Ret (fun v' w' => ∃ A' c', v' = .slice A' n c' ∧ n ≤ c' ∧ c' ≤ 9223372036854775807 ∧ New w w' (Fact.row 41 1 (.slice A' n c') n xs))) := by
 refine k_enter (l := [_]) Tryz.func75 rfl rfl ?_
 have H := St.start nT w
 refine k_seq (k_region (sAs rfl rfl rfl rfl (l_nil (k_seq (k_seq (k_region (sMs rfl rfl rfl rfl (sR rfl rfl (d_eqnil rfl rfl rfl tu62) (l_nil (k_cond rfl (fun hc4 => ?_) (fun hc4 => ?_)))))))))))
 ·skip
  refine k_seq (k_region (sAs rfl rfl rfl rfl (l_nil (k_ret ?_))))
  repeat (first | refine r_then ?_ | refine r_blk ?_)
  obtain rfl : n = 0 := by
   rcases Nat.eq_zero_or_pos n with h | h
   ·exact h
   ·obtain ⟨g, o, rfl, _⟩ := hr.2 h
    simp at hc4
  obtain rfl : xs = [] := List.eq_nil_of_length_eq_zero (by have := hr.1; omega)
  replace H := H.nilrow 41 1
  exact q_ret (v := .slice _ _ _) rfl rfl ⟨_, rfl, none, 0, rfl, Nat.le_refl _, by omega, H.give⟩
 ·skip
  refine k_skip (k_seq (k_region (s_eff (e_bsl0 (w_none rfl) rfl rfl tu62 ts41 H ?_))))
  clear H; intro g3_0 W H
  refine sMs rfl rfl rfl rfl (s_eff (e_app (w_none rfl) rfl rfl tu62 tx41 rfl rfl rfl H (H.rd hr) (h1) (by omega) rfl ?_))
  clear H; intro A1 c1 W hc1 hd1 H
  refine sAs rfl rfl rfl rfl (l_nil (k_ret ?_))
  repeat (first | refine r_then ?_ | refine r_blk ?_)
  rw [Nat.zero_add] at hc1 H ⊢
  rw [List.nil_append] at H
  exact q_ret (v := .slice _ _ _) rfl rfl ⟨_, rfl, A1, c1, rfl, hc1, hd1, H.give⟩

theorem cloneBy {S : Nat → Prop} {v : Value} {l : List UInt8} (w : World) (hB : Bs w S v l) (hl : l.length ≤ 1000000000000) : Calls Tryz.prog 76 [v].toArray w (Ret (NewB 5 w l)) := by
 obtain ⟨A, c, rfl, hcc, hcm, hrd⟩ := hB.op
 refine k_enter (l := [_]) Tryz.func76 rfl rfl ?_
 have H := St.start nT w
 refine k_seq (k_region (sAs rfl rfl rfl rfl (l_nil (k_seq (k_seq (k_region (sMs rfl rfl rfl rfl (sR rfl rfl (d_eqnil rfl rfl rfl tu41) (l_nil (k_cond rfl (fun hc4 => ?_) (fun hc4 => ?_)))))))))))
 ·skip
  refine k_seq (k_region (sAs rfl rfl rfl rfl (l_nil (k_ret ?_))))
  repeat (first | refine r_then ?_ | refine r_blk ?_)
  obtain rfl : l = [] := by
   rcases Nat.eq_zero_or_pos l.length with h | h
   ·exact List.eq_nil_of_length_eq_zero h
   ·obtain ⟨g, o, rfl, _⟩ := hrd.2 h
    simp at hc4
  replace H := H.nilrow 5 1
  exact q_ret (v := .slice _ _ _) rfl rfl ⟨_, rfl, H.newB (l := []) (by rfl) (by rfl) (Nat.le_refl _) (by omega)⟩
 ·skip
  refine k_skip (k_seq (k_region (s_eff (e_bsl0 (w_none rfl) rfl rfl tu41 ts5 H ?_))))
  clear H; intro g3_0 W H
  refine sMs rfl rfl rfl rfl (s_eff (e_app (w_none rfl) rfl rfl tu41 tx5 rfl rfl rfl H (H.rd hrd) (all_u8L _) (by omega) rfl ?_))
  clear H; intro A1 c1 W hc1 hd1 H
  refine sAs rfl rfl rfl rfl (l_nil (k_ret ?_))
  repeat (first | refine r_then ?_ | refine r_blk ?_)
  rw [Nat.zero_add] at hc1 H ⊢
  exact q_ret (v := .slice _ _ _) rfl rfl ⟨_, rfl, H.newB (l := l) rfl rfl hc1 hd1⟩

end Go.Proofs.YtfhhfhdnhadooaaGreatDoor

namespace Go.Proofs.YtfhhfhdnhadooaaGreatDoor
open Go Go.RowKit
attribute [local irreducible] wpList

section
variable {P : Program} {ops : Array Oper} {Q : Exit → Act → World → Prop} {o : Oper} {n : Nat} {ρ : Nat → Value} {ds : List Deferred} {W w w0 : World} {K : Act → World → Prop} {T : Nat → Prop} {L L' : List Fact} {x y : Operand} {v : Value} {t e : TypeId}
end
theorem bigL_f {l : List DTx} (h : bigL l = false) : l.length ≤ 20 ∧ ∀ t ∈ l, Tx.Fits t := by
 unfold bigL at h
 rw [Bool.or_eq_false_iff] at h
 refine ⟨by have := of_decide_eq_false h.1; omega, fun t ht => ?_⟩
 have hb : Tx.big 20 2048 t = false := by
  refine Bool.eq_false_iff.2 (fun e => ?_)
  have := List.any_eq_true.2 ⟨t, ht, e⟩
  rw [h.2] at this
  cases this
 exact Tx.fits (Tx.not_big hb (by decide)) (by decide) (by decide)
/-- The header of what is made. -/
def mkH (p : List UInt8) (l : List DTx) (k : Int) : DHeader := ⟨p, rootB l, k⟩
theorem mkH_ok {p : List UInt8} {l : List DTx} {k : Int} (hp : p.length = 32) (hk : I64 k) : Bk.OkH (mkH p l k) := ⟨hp, len_rootB l, hk⟩

end Go.Proofs.YtfhhfhdnhadooaaGreatDoor
