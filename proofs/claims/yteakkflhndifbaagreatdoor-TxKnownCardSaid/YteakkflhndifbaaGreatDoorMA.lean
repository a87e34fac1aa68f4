/- Texts of this claim, laid together: K3, K4, K5, K6, K7, K8, K9. -/
import Derived.Test.YteakkflhndifbaaGreatDoorMV
import Derived.Test.YteakkflhndifbaaGreatDoorMT
set_option linter.unusedVariables false
set_option linter.unusedSimpArgs false

namespace Go.Proofs.YteakkflhndifbaaGreatDoor
open Go Go.RowKit
attribute [local irreducible] wpList

theorem refLeft {r c : Nat} {A : Option Addr} {cur : List UInt8} {s : RS} (w : World) (hR : (RefR 124 r A c cur s).p w) (hok : Pk.Ok s) (hl : cur.length ≤ 1000000000000) : Calls Tryz.prog 110 [.pointer (some ⟨r, 0, none⟩)].toArray w (Ret (Is w (.int .i64 (s.1.length : Int)))) := by
 obtain ⟨a, h1, ha, hs1⟩ := hR
 have hG := gat_of h1
 obtain ⟨ho1, ho2, ho3⟩ := hok
 refine k_enter (l := [_]) Tryz.func110 rfl rfl ?_
 have H := St.start nT w
 refine k_seq (k_region (sAi rfl rfl rfl rfl (l_nil (k_seq (k_seq (k_region (sMp rfl rfl rfl rfl (sR rfl rfl (d_nil rfl rfl) (sR rfl rfl (d_fa rfl rfl tf124_2) (sR rfl rfl (d_ldG rfl (H.gat hG) rfl ta42 rfl) ?_))))))))))
 refine sR rfl rfl (d_ne rfl rfl rfl) (l_nil (k_cond rfl (fun hc7 => ?_) (fun hc7 => ?_)))
 ·have he : s.2 ≠ 0 := by simpa using hc7
  refine k_seq (k_region (sAi rfl rfl rfl rfl (l_nil (k_ret ?_))))
  repeat (first | refine r_then ?_ | refine r_blk ?_)
  exact q_ret (v := .int _ _) rfl rfl ⟨_, rfl, vi (by rw [ho1 he]; rfl), H.under⟩
 ·have he : s.2 = 0 := by simpa using hc7
  rw [if_pos he] at hs1
  have hln : s.1.length = cur.length - a := by rw [hs1, List.length_drop]
  refine k_skip (k_seq (k_draw [(0, true), (1, true), (2, true), (3, true), (4, true), (5, true), (6, true), (7, true), (8, true), (9, true), (10, true)] _ (by kernel_rfl) (by kernel_rfl) H (.refl _) ?_))
  clear H; intro W H
  refine cR rfl rfl rfl (fun W H => mv_p rfl rfl) (cR rfl rfl rfl (fun W H => d_nil rfl rfl) (cR rfl rfl rfl (fun W H => d_fa rfl rfl tf124_0) (cR rfl rfl rfl (fun W H => d_ldG rfl (H.gat hG) rfl ta35 rfl) (cR rfl rfl rfl (fun W H => d_len rfl rfl tu35) (cR rfl rfl rfl (fun W H => mv_p rfl rfl) (cR rfl rfl rfl (fun W H => d_nil rfl rfl) (cR rfl rfl rfl (fun W H => d_fa rfl rfl tf124_1) (cR rfl rfl rfl (fun W H => d_ldG rfl (H.gat hG) rfl ta3 rfl) (cR rfl rfl rfl (fun W H => d_sub rfl rfl rfl (by omega)) (cR rfl rfl rfl (fun W H => as_i rfl rfl) ?_))))))))))
  refine c_nil (k_ret ?_)
  repeat (first | refine r_then ?_ | refine r_blk ?_)
  exact q_ret (v := .int _ _) rfl rfl ⟨_, rfl, vi (by omega), H.under⟩

def Pk.rEnd (s : RS) : Int := if 0 < s.1.length then 5 else s.2
theorem refEnd {r c : Nat} {A : Option Addr} {cur : List UInt8} {s : RS} (w : World) (hR : (RefR 124 r A c cur s).p w) (hok : Pk.Ok s) (hl : cur.length ≤ 1000000000000) : Calls Tryz.prog 80 [.pointer (some ⟨r, 0, none⟩)].toArray w (Ret (Is w (.int .i64 (Pk.rEnd s)))) := by
 have hR0 := hR
 obtain ⟨a, h1, ha, hs1⟩ := hR
 have hG := gat_of h1
 refine k_enter (l := [_]) Tryz.func80 rfl rfl ?_
 have H := St.start nT w
 refine k_seq (k_region (sAi rfl rfl rfl rfl (l_nil (k_seq (k_seq (k_region (sMp rfl rfl rfl rfl (sC rfl rfl rfl Tryz.func110 rfl rfl rfl (refLeft _ hR0 hok hl) ?_))))))))
 rintro _ W ⟨rfl, hb⟩
 replace H := H.below hb
 clear hb
 refine sR rfl rfl (d_gt rfl rfl rfl) (l_nil (k_cond rfl (fun hc5 => ?_) (fun hc5 => ?_)))
 ·first | (replace hc5 := of_decide_eq_true hc5) | simp at hc5
  refine k_seq (k_region (sAi rfl rfl rfl rfl (l_nil (k_ret ?_))))
  repeat (first | refine r_then ?_ | refine r_blk ?_)
  exact q_ret (v := .int _ _) rfl rfl ⟨_, rfl, vi (by rw [Pk.rEnd, if_pos (by omega)]), H.under⟩
 ·first | (replace hc5 := of_decide_eq_false hc5) | simp at hc5
  refine k_skip (k_seq (k_region (sMp rfl rfl rfl rfl (sR rfl rfl (d_nil rfl rfl) (sR rfl rfl (d_fa rfl rfl tf124_2) (sR rfl rfl (d_ldG rfl (H.gat hG) rfl ta42 rfl) (sAi rfl rfl rfl rfl (l_nil (k_ret ?_)))))))))
  repeat (first | refine r_then ?_ | refine r_blk ?_)
  exact q_ret (v := .int _ _) rfl rfl ⟨_, rfl, vi (by rw [Pk.rEnd, if_neg (by omega)]), H.under⟩

theorem refNextA {r c : Nat} {A : Option Addr} {cur : List UInt8} {s : RS} (w : World) {n : Nat} {z : Int} (hz : z = (n : Int)) (hn : n ≤ 9223372036854775807)  (hR : (RefR 124 r A c cur s).p w) (hok : Pk.Ok s) (he : s.2 ≠ 0) : Calls Tryz.prog 125 [.pointer (some ⟨r, 0, none⟩), .int .i64 z].toArray w (Ret (NextP 5 124 r A c cur w (Pk.next n s).1 (Pk.next n s).2)) := by
 subst hz
 obtain ⟨a, h1, ha, hs1⟩ := hR
 have hG := gat_of h1
 obtain ⟨ho1, ho2, ho3⟩ := hok
 refine k_enter (l := [_, _]) Tryz.func125 rfl rfl ?_
 have H := St.begin (f := Fact.blk r [.slice A cur.length c, .int .i64 (a : Int), .int .i64 s.2] 124) h1 (fun g hg => by cases hg; exact hG.1)
 refine k_seq (k_region (sAs rfl rfl rfl rfl (l_nil (k_seq (k_seq (k_region (sMp rfl rfl rfl rfl (sR rfl rfl (d_nil rfl rfl) (sR rfl rfl (d_fa rfl rfl tf124_2) (sR rfl rfl (d_ld rfl H rfl ta42 rfl) ?_))))))))))
 refine sR rfl rfl (d_eq rfl rfl rfl) (sR rfl rfl (mv_bx (c := false) rfl rfl (by simpa using he)) ?_)
 refine s_skip (w_gno rfl rfl rfl rfl rfl) rfl (s_skip (w_gno rfl rfl rfl rfl rfl) rfl (s_skip (w_gno rfl rfl rfl rfl rfl) rfl (s_skip (w_gno rfl rfl rfl rfl rfl) rfl (sR rfl rfl (d_pickF rfl rfl rfl) (l_nil (k_condF rfl (by first | (simp; done) | (simp; omega)) ?_))))))
 refine k_skip (k_seq (k_seq (k_region (sMp rfl rfl rfl rfl (sR rfl rfl (d_nil rfl rfl) (sR rfl rfl (d_fa rfl rfl tf124_2) (sR rfl rfl (d_ld rfl H rfl ta42 rfl) (sR rfl rfl (d_ne rfl rfl rfl) (l_nil (k_condT rfl (by simpa using he) ?_))))))))))
 refine k_seq (k_region (sAs rfl rfl rfl rfl (l_nil (k_ret ?_))))
 repeat (first | refine r_then ?_ | refine r_blk ?_)
 replace H := H.nilrow 5 1
 rw [Pk.next_bad he]
 exact q_ret (v := .slice _ _ _) rfl rfl ⟨_, rfl, H.nextP (s' := s) rfl rfl (Nat.le_refl _) (by omega) rfl ha rfl hs1⟩

theorem refNextB {r c : Nat} {A : Option Addr} {cur : List UInt8} {s : RS} (w : World) {n : Nat} {z : Int} (hz : z = (n : Int)) (hn : n ≤ 9223372036854775807)  (hR : (RefR 124 r A c cur s).p w) (hok : Pk.Ok s) (hl : cur.length ≤ 1000000000000) (he : s.2 = 0) (hsh : s.1.length < n) : Calls Tryz.prog 125 [.pointer (some ⟨r, 0, none⟩), .int .i64 z].toArray w (Ret (NextP 5 124 r A c cur w (Pk.next n s).1 (Pk.next n s).2)) := by
 subst hz
 have hok0 := hok
 obtain ⟨a, h1, ha, hs1⟩ := hR
 have hG := gat_of h1
 obtain ⟨ho1, ho2, ho3⟩ := hok
 refine k_enter (l := [_, _]) Tryz.func125 rfl rfl ?_
 have H := St.begin (f := Fact.blk r [.slice A cur.length c, .int .i64 (a : Int), .int .i64 s.2] 124) h1 (fun g hg => by cases hg; exact hG.1)
 refine k_seq (k_region (sAs rfl rfl rfl rfl (l_nil (k_seq (k_seq (k_region (sMp rfl rfl rfl rfl (sR rfl rfl (d_nil rfl rfl) (sR rfl rfl (d_fa rfl rfl tf124_2) (sR rfl rfl (d_ld rfl H rfl ta42 rfl) ?_))))))))))
 refine sR rfl rfl (d_eq rfl rfl rfl) (sR rfl rfl (mv_bx (c := true) rfl rfl (by simpa using he)) ?_)
 refine s_run (w_g rfl rfl rfl rfl) rfl (mv_p rfl rfl) (s_eff (e_call (w_g rfl rfl rfl rfl) rfl rfl Tryz.func110 rfl rfl rfl (refLeft _ ⟨a, H.blk, ha, hs1⟩ hok0 hl) ?_))
 rintro _ W ⟨rfl, hb⟩
 replace H := H.below hb
 clear hb
 refine s_run (w_g rfl rfl rfl rfl) rfl (mv_i rfl rfl) (s_run (w_g rfl rfl rfl rfl) rfl (d_lt rfl rfl rfl) (sR rfl rfl (d_pickT rfl rfl rfl) (l_nil (k_condT rfl (by simp; omega) (k_region (sMp rfl rfl rfl rfl (sR rfl rfl (d_nil rfl rfl) (sR rfl rfl (d_fa rfl rfl tf124_2) (s_eff (e_sto (w_none rfl) rfl rfl rfl rfl rfl ts42 rfl H rfl ?_))))))))))
 clear H; intro W H
 refine l_nil (k_seq (k_seq (k_region (sMp rfl rfl rfl rfl (sR rfl rfl (d_nil rfl rfl) (sR rfl rfl (d_fa rfl rfl tf124_2) (sR rfl rfl (d_ld rfl H rfl ta42 rfl) (sR rfl rfl (d_ne rfl rfl rfl) (l_nil (k_condT rfl (by first | (simp; done) | (simp; omega)) ?_))))))))))
 refine k_seq (k_region (sAs rfl rfl rfl rfl (l_nil (k_ret ?_))))
 repeat (first | refine r_then ?_ | refine r_blk ?_)
 replace H := H.nilrow 5 1
 rw [Pk.next_short he hsh]
 exact q_ret (v := .slice _ _ _) rfl rfl ⟨_, rfl, H.nextP (s' := ([], 4)) rfl rfl (Nat.le_refl _) (by omega) rfl ha rfl rfl⟩

theorem refNextC {S : Nat → Prop} {r c : Nat} {A : Option Addr} {cur : List UInt8} {s : RS} (w : World) {n : Nat} {z : Int} (hz : z = (n : Int)) (hn : n ≤ 9223372036854775807)  (hR : (RefR 124 r A c cur s).p w) (hok : Pk.Ok s) (hB : Bs w S (.slice A cur.length c) cur) (hS : ∀ g, S g → ¬ g = r) (hl : cur.length ≤ 1000000000000) (he : s.2 = 0) (hsh : n ≤ s.1.length) : Calls Tryz.prog 125 [.pointer (some ⟨r, 0, none⟩), .int .i64 z].toArray w (Ret (NextP 5 124 r A c cur w (Pk.next n s).1 (Pk.next n s).2)) := by
 subst hz
 have hok0 := hok
 obtain ⟨a, h1, ha, hs1⟩ := hR
 have hG := gat_of h1
 obtain ⟨ho1, ho2, ho3⟩ := hok
 obtain ⟨_, _, hv, hcc, _, _⟩ := hB.op
 cases hv
 have hs2 := hs1
 rw [if_pos he] at hs2
 have hln : s.1.length = cur.length - a := by rw [hs2, List.length_drop]
 refine k_enter (l := [_, _]) Tryz.func125 rfl rfl ?_
 have H := St.begin (f := Fact.blk r [.slice A cur.length c, .int .i64 (a : Int), .int .i64 s.2] 124) h1 (fun g hg => by cases hg; exact hG.1)
 refine k_seq (k_region (sAs rfl rfl rfl rfl (l_nil (k_seq (k_seq (k_region (sMp rfl rfl rfl rfl (sR rfl rfl (d_nil rfl rfl) (sR rfl rfl (d_fa rfl rfl tf124_2) (sR rfl rfl (d_ld rfl H rfl ta42 rfl) ?_))))))))))
 refine sR rfl rfl (d_eq rfl rfl rfl) (sR rfl rfl (mv_bx (c := true) rfl rfl (by simpa using he)) ?_)
 refine s_run (w_g rfl rfl rfl rfl) rfl (mv_p rfl rfl) (s_eff (e_call (w_g rfl rfl rfl rfl) rfl rfl Tryz.func110 rfl rfl rfl (refLeft _ ⟨a, H.blk, ha, hs1⟩ hok0 hl) ?_))
 rintro _ W ⟨rfl, hb⟩
 replace H := H.below hb
 clear hb
 refine s_run (w_g rfl rfl rfl rfl) rfl (mv_i rfl rfl) (s_run (w_g rfl rfl rfl rfl) rfl (d_lt rfl rfl rfl) (sR rfl rfl (d_pickT rfl rfl rfl) (l_nil (k_condF rfl (by simp; omega) (k_skip (k_seq (k_seq (k_region (sMp rfl rfl rfl rfl (sR rfl rfl (d_nil rfl rfl) ?_))))))))))
 refine sR rfl rfl (d_fa rfl rfl tf124_2) (sR rfl rfl (d_ld rfl H rfl ta42 rfl) (sR rfl rfl (d_ne rfl rfl rfl) (l_nil (k_condF rfl (by simpa using he) ?_))))
 refine k_skip (k_seq (k_region (sMp rfl rfl rfl rfl (sMp rfl rfl rfl rfl (sR rfl rfl (d_nil rfl rfl) (sR rfl rfl (d_fa rfl rfl tf124_1) (sR rfl rfl (d_ld rfl H rfl ta3 rfl) (sMi rfl rfl rfl rfl (sR rfl rfl (d_add rfl rfl rfl (by omega)) (sR rfl rfl (d_nil rfl rfl) ?_))))))))))
 refine sR rfl rfl (d_fa rfl rfl tf124_1) (s_eff (e_sto (w_none rfl) rfl rfl rfl rfl rfl ts3 rfl H rfl ?_))
 clear H; intro W H
 refine l_nil (k_seq (k_draw [(0, true), (1, true), (2, true), (3, true), (4, true), (5, true), (6, true), (7, true), (8, true), (9, true), (10, true), (11, true), (12, true), (13, true), (14, true), (15, false), (16, true)] _ (by kernel_rfl) (by kernel_rfl) H (.refl _) ?_))
 clear H; intro W H
 refine cR rfl rfl rfl (fun W H => mv_p rfl rfl) (cR rfl rfl rfl (fun W H => d_nil rfl rfl) (cR rfl rfl rfl (fun W H => d_fa rfl rfl tf124_0) (cR rfl rfl rfl (fun W H => d_ld rfl H rfl ta35 rfl) (cR rfl rfl rfl (fun W H => mv_p rfl rfl) (cR rfl rfl rfl (fun W H => d_nil rfl rfl) (cR rfl rfl rfl (fun W H => d_fa rfl rfl tf124_1) (cR rfl rfl rfl (fun W H => d_ld rfl H rfl ta3 rfl) (cR rfl rfl rfl (fun W H => mv_i rfl rfl) (cR rfl rfl rfl (fun W H => d_sub rfl rfl rfl (by omega)) (cR rfl rfl rfl (fun W H => mv_p rfl rfl) ?_))))))))))
 refine cR rfl rfl rfl (fun W H => d_nil rfl rfl) (cR rfl rfl rfl (fun W H => d_fa rfl rfl tf124_1) (cR rfl rfl rfl (fun W H => d_ld rfl H rfl ta3 rfl) (cR rfl rfl rfl (fun W H => d_cut rfl rfl rfl (l := a) (by omega) (h := a + n) (by omega) (by omega) (by omega) rfl tu35 ts5) (c_eff rfl (e_call (w_none rfl) rfl rfl Tryz.func10 rfl rfl rfl (copyBytes _ ((cur.drop a).take (a + n - a)) _ (bs_cut (H.bsT hB hS) rfl (by omega) (by omega)) (by simp; omega)) ?_)))))
 rintro _ W ⟨A1, c1, rfl, hc1, hd1, hn⟩
 replace H := H.new hn
 clear hn
 refine ⟨H.sub (by repeat (first | exact .refl _ | exact List.nil_sublist _ | refine .cons_cons _ ?_ | refine .cons _ ?_)), ?_⟩
 refine cR rfl rfl rfl (fun W H => as_s rfl rfl) (c_nil (k_ret ?_))
 repeat (first | refine r_then ?_ | refine r_blk ?_)
 rw [Pk.next_ok he hsh]
 have el : ((cur.drop a).take (a + n - a)) = s.1.take n := by rw [hs2, Nat.add_sub_cancel_left]
 rw [el] at H hc1 ⊢
 exact q_ret (v := .slice _ _ _) rfl rfl ⟨_, rfl, H.nextP (q := a + n) (s' := (s.1.drop n, 0)) rfl rfl hc1 hd1 (by omega) (by omega) he.symm (by rw [he, if_pos rfl, hs2, List.drop_drop])⟩

theorem refNext {S : Nat → Prop} {r c : Nat} {A : Option Addr} {cur : List UInt8} {s : RS} (w : World) {n : Nat} {z : Int} (hz : z = (n : Int)) (hn : n ≤ 9223372036854775807) (hR : (RefR 124 r A c cur s).p w) (hok : Pk.Ok s) (hB : Bs w S (.slice A cur.length c) cur) (hS : ∀ g, S g → ¬ g = r) (hl : cur.length ≤ 1000000000000) : Calls Tryz.prog 125 [.pointer (some ⟨r, 0, none⟩), .int .i64 z].toArray w (Ret (NextP 5 124 r A c cur w (Pk.next n s).1 (Pk.next n s).2)) := by
 by_cases he : s.2 = 0
 ·rcases Nat.lt_or_ge s.1.length n with h | h
  ·exact refNextB w hz hn hR hok hl he h
  ·exact refNextC w hz hn hR hok hB hS hl he h
 ·exact refNextA w hz hn hR hok he

theorem refNextE {S : Nat → Prop} {r c : Nat} {A : Option Addr} {cur : List UInt8} {s : RS} (w : World) {n : Nat} {z : Int} {b : List UInt8} {s' : RS} (hx : Pk.next n s = (b, s')) (hz : z = (n : Int)) (hn : n ≤ 9223372036854775807) (hR : (RefR 124 r A c cur s).p w) (hok : Pk.Ok s) (hB : Bs w S (.slice A cur.length c) cur) (hS : ∀ g, S g → ¬ g = r) (hl : cur.length ≤ 1000000000000) : Calls Tryz.prog 125 [.pointer (some ⟨r, 0, none⟩), .int .i64 z].toArray w (Ret (NextP 5 124 r A c cur w b s')) := by
 have h := refNext w hz hn hR hok hB hS hl
 rw [hx] at h
 exact h

theorem refRdIntA {S : Nat → Prop} {r c : Nat} {A : Option Addr} {cur : List UInt8} {s : RS} (w : World) {s1 : RS} (hR : (RefR 124 r A c cur s).p w) (hok : Pk.Ok s) (hB : Bs w S (.slice A cur.length c) cur) (hS : ∀ g, S g → ¬ g = r) (hl : cur.length ≤ 1000000000000) (h1 : Pk.next 1 s = ([], s1)) : Calls Tryz.prog 108 [.pointer (some ⟨r, 0, none⟩)].toArray w (Ret (ValP 124 r A c cur w (.int .i64 ((Pk.rInt s).1 : Int)) (Pk.rInt s).2)) := by
 refine k_enter (l := [_]) Tryz.func108 rfl rfl ?_
 have H := St.begin (f := RefR 124 r A c cur s) hR (fun g hg => by cases hg; exact refR_lt hR)
 refine k_seq (k_region (sAi rfl rfl rfl rfl (l_nil (k_seq (k_region (sMp rfl rfl rfl rfl (sC rfl rfl rfl Tryz.func125 rfl rfl rfl (refNextE _ h1 (by rfl) (by omega) (H.get (f := RefR 124 r A c cur s)) hok (H.bsT hB hS) hS hl) ?_)))))))
 rintro _ W ⟨⟨A1, c1, rfl, hc1, hd1, ho1, hf1, hfr1⟩, hr1⟩
 replace H := H.mutnew (f := RefR 124 r A c cur s) (f' := RefR 124 r A c cur s1) (fn := Fact.row 5 1 (.slice A1 0 c1) 0 _) hfr1 hr1 (fun _ h => h) ho1 hf1
 clear hfr1 hr1 ho1 hf1
 refine sAs rfl rfl rfl rfl (l_nil (k_seq (k_seq (k_region (sMs rfl rfl rfl rfl (sR rfl rfl (d_len rfl rfl tu35) (sR rfl rfl (d_eq rfl rfl rfl) (l_nil (k_condT rfl (by first | (simp; done) | (simp; omega)) ?_)))))))))
 refine k_seq (k_region (sAi rfl rfl rfl rfl (l_nil (k_ret ?_))))
 repeat (first | refine r_then ?_ | refine r_blk ?_)
 have e : Pk.rInt s = (0, s1) := by unfold Pk.rInt; rw [h1]
 rw [e]
 exact q_ret (v := .int _ _) rfl rfl ⟨_, rfl, H.valP'⟩

theorem refRdIntC {S : Nat → Prop} {r c : Nat} {A : Option Addr} {cur : List UInt8} {s : RS} (w : World) {s1 : RS} {b0 : UInt8} (hR : (RefR 124 r A c cur s).p w) (hok : Pk.Ok s) (hB : Bs w S (.slice A cur.length c) cur) (hS : ∀ g, S g → ¬ g = r) (hl : cur.length ≤ 1000000000000) (h1 : Pk.next 1 s = ([b0], s1)) (hw : Pk.wide b0 = 0) : Calls Tryz.prog 108 [.pointer (some ⟨r, 0, none⟩)].toArray w (Ret (ValP 124 r A c cur w (.int .i64 ((Pk.rInt s).1 : Int)) (Pk.rInt s).2)) := by
 refine k_enter (l := [_]) Tryz.func108 rfl rfl ?_
 have H := St.begin (f := RefR 124 r A c cur s) hR (fun g hg => by cases hg; exact refR_lt hR)
 refine k_seq (k_region (sAi rfl rfl rfl rfl (l_nil (k_seq (k_region (sMp rfl rfl rfl rfl (sC rfl rfl rfl Tryz.func125 rfl rfl rfl (refNextE _ h1 (by rfl) (by omega) (H.get (f := RefR 124 r A c cur s)) hok (H.bsT hB hS) hS hl) ?_)))))))
 rintro _ W ⟨⟨A1, c1, rfl, hc1, hd1, ho1, hf1, hfr1⟩, hr1⟩
 replace H := H.mutnew (f := RefR 124 r A c cur s) (f' := RefR 124 r A c cur s1) (fn := Fact.row 5 1 (.slice A1 1 c1) 1 _) hfr1 hr1 (fun _ h => h) ho1 hf1
 clear hfr1 hr1 ho1 hf1
 refine sAs rfl rfl rfl rfl (l_nil (k_seq (k_seq (k_region (sMs rfl rfl rfl rfl (sR rfl rfl (d_len rfl rfl tu35) (sR rfl rfl (d_eq rfl rfl rfl) (l_nil (k_condF rfl (by first | (simp; done) | (simp; omega)) ?_)))))))))
 refine k_skip (k_seq (k_region (sAi rfl rfl rfl rfl (l_nil (k_seq (k_seq (k_region (sMs rfl rfl rfl rfl (sR rfl rfl (d_iaB rfl (H.rowrd (A := A1)) rfl rfl (q := 0) rfl (by decide) tu35 ts5) ?_)))))))))
 refine sR rfl rfl (d_ldB rfl (H.rowrd (A := A1)) ((rfl : [b0][0]? = some b0)) rfl ta5) (l_nil (k_bcut 16 [4] (fun sl W => sl = [(4, .int .i64 (Pk.wide b0 : Int))] ∧ St (· = r) w W [Fact.row 5 1 (.slice A1 1 c1) 1 ([b0].map u8v), RefR 124 r A c cur s1]) ?_ (fun sl ρv W hJ => ?_)))
 ·skip
  refine k_seq (k_region (sR rfl rfl (d_eq rfl rfl rfl) (sAb rfl rfl rfl rfl (l_nil (k_cond rfl (fun hc16 => ?_) (fun hc16 => ?_))))))
  ·skip
   refine k_region (sAi rfl rfl rfl rfl (l_nil (k_nil (b_endc ?_))))
   refine ⟨_, _, rfl, ?_, ?_, ⟨rfl, H⟩⟩
   ·repeat (first | with_reducible exact .refl | (with_reducible refine .updl _ (.ovr2 ?_ ?_) ?_); rotate_left; exact rfl; exact rfl | (with_reducible refine .upd ?_ ?_); rotate_left; exact rfl)
   ·refine ⟨?_, trivial⟩
    ·exact vi (by rw [Pk.wide_253 hc16]; rfl)
  ·skip
   refine k_seq (k_region (sR rfl rfl (d_eq rfl rfl rfl) (sAb rfl rfl rfl rfl (l_nil (k_cond rfl (fun hc18 => ?_) (fun hc18 => ?_))))))
   ·skip
    refine k_region (sAi rfl rfl rfl rfl (l_nil (k_nil (b_endc ?_))))
    refine ⟨_, _, rfl, ?_, ?_, ⟨rfl, H⟩⟩
    ·repeat (first | with_reducible exact .refl | (with_reducible refine .updl _ (.ovr2 ?_ ?_) ?_); rotate_left; exact rfl; exact rfl | (with_reducible refine .upd ?_ ?_); rotate_left; exact rfl)
    ·refine ⟨?_, trivial⟩
     ·exact vi (by rw [Pk.wide_254 hc18]; rfl)
   ·skip
    refine k_seq (k_region (sR rfl rfl (d_eq rfl rfl rfl) (sAb rfl rfl rfl rfl (l_nil (k_cond rfl (fun hc20 => ?_) (fun hc20 => ?_))))))
    ·skip
     refine k_region (sAi rfl rfl rfl rfl (l_nil (k_nil (b_endc ?_))))
     refine ⟨_, _, rfl, ?_, ?_, ⟨rfl, H⟩⟩
     ·repeat (first | with_reducible exact .refl | (with_reducible refine .updl _ (.ovr2 ?_ ?_) ?_); rotate_left; exact rfl; exact rfl | (with_reducible refine .upd ?_ ?_); rotate_left; exact rfl)
     ·refine ⟨?_, trivial⟩
      ·exact vi (by rw [Pk.wide_255 hc20]; rfl)
    ·skip
     refine k_skip (k_nil (b_endc ?_))
     refine ⟨_, _, rfl, ?_, ?_, ⟨rfl, H⟩⟩
     ·repeat (first | with_reducible exact .refl | (with_reducible refine .updl _ (.ovr2 ?_ ?_) ?_); rotate_left; exact rfl; exact rfl | (with_reducible refine .upd ?_ ?_); rotate_left; exact rfl)
     ·refine ⟨?_, trivial⟩
      ·exact vi (by rw [Pk.wide_0 hc16 hc18 hc20]; rfl)
 clear H; obtain ⟨rfl, H⟩ := hJ
 refine k_seq (k_seq (k_region (sMi rfl rfl rfl rfl (sR rfl rfl (d_eq rfl rfl rfl) (l_nil (k_condT rfl (by simp [hw]) ?_))))))
 refine k_seq (k_region (sMs rfl rfl rfl rfl (sR rfl rfl (d_iaB rfl (H.rowrd (A := A1)) rfl rfl (q := 0) rfl (by decide) tu35 ts5) ?_)))
 refine sR rfl rfl (d_ldB rfl (H.rowrd (A := A1)) ((rfl : [b0][0]? = some b0)) rfl ta5) (sR rfl rfl (d_conv rfl rfl (by rw [tu5]; rfl) tu3 (IntWalk.i64_in _ (by have := b0.toNat_lt; omega))) ?_)
 refine sAi rfl rfl rfl rfl (l_nil (k_ret ?_))
 repeat (first | refine r_then ?_ | refine r_blk ?_)
 have e : Pk.rInt s = (b0.toNat, s1) := by unfold Pk.rInt; rw [h1]; simp only [hw, if_true]
 rw [e]
 exact q_ret (v := .int _ _) rfl rfl ⟨_, rfl, H.valP'⟩

theorem refRdIntD {S : Nat → Prop} {r c : Nat} {A : Option Addr} {cur : List UInt8} {s : RS} (w : World) {s1 s2 : RS} {b0 : UInt8} {b : List UInt8} (hR : (RefR 124 r A c cur s).p w) (hok : Pk.Ok s) (hB : Bs w S (.slice A cur.length c) cur) (hS : ∀ g, S g → ¬ g = r) (hl : cur.length ≤ 1000000000000) (h1 : Pk.next 1 s = ([b0], s1)) (hw : Pk.wide b0 ≠ 0) (h2 : Pk.next (Pk.wide b0) s1 = (b, s2)) (he : s2.2 ≠ 0) (hbl : b.length = 0) : Calls Tryz.prog 108 [.pointer (some ⟨r, 0, none⟩)].toArray w (Ret (ValP 124 r A c cur w (.int .i64 ((Pk.rInt s).1 : Int)) (Pk.rInt s).2)) := by
 refine k_enter (l := [_]) Tryz.func108 rfl rfl ?_
 have H := St.begin (f := RefR 124 r A c cur s) hR (fun g hg => by cases hg; exact refR_lt hR)
 refine k_seq (k_region (sAi rfl rfl rfl rfl (l_nil (k_seq (k_region (sMp rfl rfl rfl rfl (sC rfl rfl rfl Tryz.func125 rfl rfl rfl (refNextE _ h1 (by rfl) (by omega) (H.get (f := RefR 124 r A c cur s)) hok (H.bsT hB hS) hS hl) ?_)))))))
 rintro _ W ⟨⟨A1, c1, rfl, hc1, hd1, ho1, hf1, hfr1⟩, hr1⟩
 replace H := H.mutnew (f := RefR 124 r A c cur s) (f' := RefR 124 r A c cur s1) (fn := Fact.row 5 1 (.slice A1 1 c1) 1 _) hfr1 hr1 (fun _ h => h) ho1 hf1
 clear hfr1 hr1 ho1 hf1
 refine sAs rfl rfl rfl rfl (l_nil (k_seq (k_seq (k_region (sMs rfl rfl rfl rfl (sR rfl rfl (d_len rfl rfl tu35) (sR rfl rfl (d_eq rfl rfl rfl) (l_nil (k_condF rfl (by first | (simp; done) | (simp; omega)) ?_)))))))))
 refine k_skip (k_seq (k_region (sAi rfl rfl rfl rfl (l_nil (k_seq (k_seq (k_region (sMs rfl rfl rfl rfl (sR rfl rfl (d_iaB rfl (H.rowrd (A := A1)) rfl rfl (q := 0) rfl (by decide) tu35 ts5) ?_)))))))))
 refine sR rfl rfl (d_ldB rfl (H.rowrd (A := A1)) ((rfl : [b0][0]? = some b0)) rfl ta5) (l_nil (k_bcut 16 [4] (fun sl W => sl = [(4, .int .i64 (Pk.wide b0 : Int))] ∧ St (· = r) w W [Fact.row 5 1 (.slice A1 1 c1) 1 ([b0].map u8v), RefR 124 r A c cur s1]) ?_ (fun sl ρv W hJ => ?_)))
 ·skip
  refine k_seq (k_region (sR rfl rfl (d_eq rfl rfl rfl) (sAb rfl rfl rfl rfl (l_nil (k_cond rfl (fun hc16 => ?_) (fun hc16 => ?_))))))
  ·skip
   refine k_region (sAi rfl rfl rfl rfl (l_nil (k_nil (b_endc ?_))))
   refine ⟨_, _, rfl, ?_, ?_, ⟨rfl, H⟩⟩
   ·repeat (first | with_reducible exact .refl | (with_reducible refine .updl _ (.ovr2 ?_ ?_) ?_); rotate_left; exact rfl; exact rfl | (with_reducible refine .upd ?_ ?_); rotate_left; exact rfl)
   ·refine ⟨?_, trivial⟩
    ·exact vi (by rw [Pk.wide_253 hc16]; rfl)
  ·skip
   refine k_seq (k_region (sR rfl rfl (d_eq rfl rfl rfl) (sAb rfl rfl rfl rfl (l_nil (k_cond rfl (fun hc18 => ?_) (fun hc18 => ?_))))))
   ·skip
    refine k_region (sAi rfl rfl rfl rfl (l_nil (k_nil (b_endc ?_))))
    refine ⟨_, _, rfl, ?_, ?_, ⟨rfl, H⟩⟩
    ·repeat (first | with_reducible exact .refl | (with_reducible refine .updl _ (.ovr2 ?_ ?_) ?_); rotate_left; exact rfl; exact rfl | (with_reducible refine .upd ?_ ?_); rotate_left; exact rfl)
    ·refine ⟨?_, trivial⟩
     ·exact vi (by rw [Pk.wide_254 hc18]; rfl)
   ·skip
    refine k_seq (k_region (sR rfl rfl (d_eq rfl rfl rfl) (sAb rfl rfl rfl rfl (l_nil (k_cond rfl (fun hc20 => ?_) (fun hc20 => ?_))))))
    ·skip
     refine k_region (sAi rfl rfl rfl rfl (l_nil (k_nil (b_endc ?_))))
     refine ⟨_, _, rfl, ?_, ?_, ⟨rfl, H⟩⟩
     ·repeat (first | with_reducible exact .refl | (with_reducible refine .updl _ (.ovr2 ?_ ?_) ?_); rotate_left; exact rfl; exact rfl | (with_reducible refine .upd ?_ ?_); rotate_left; exact rfl)
     ·refine ⟨?_, trivial⟩
      ·exact vi (by rw [Pk.wide_255 hc20]; rfl)
    ·skip
     refine k_skip (k_nil (b_endc ?_))
     refine ⟨_, _, rfl, ?_, ?_, ⟨rfl, H⟩⟩
     ·repeat (first | with_reducible exact .refl | (with_reducible refine .updl _ (.ovr2 ?_ ?_) ?_); rotate_left; exact rfl; exact rfl | (with_reducible refine .upd ?_ ?_); rotate_left; exact rfl)
     ·refine ⟨?_, trivial⟩
      ·exact vi (by rw [Pk.wide_0 hc16 hc18 hc20]; rfl)
 clear H; obtain ⟨rfl, H⟩ := hJ
 refine k_seq (k_seq (k_region (sMi rfl rfl rfl rfl (sR rfl rfl (d_eq rfl rfl rfl) (l_nil (k_condF rfl (by simp [hw]) ?_))))))
 refine k_skip (k_seq ?_)
 have hok1 := Pk.ok_next (n := 1) hok
 rw [h1] at hok1
 have hw8 : Pk.wide b0 ≤ 8 := by rcases Pk.wide_of (c := b0) with h | h | h | h <;> omega
 refine k_region (sMp rfl rfl rfl rfl (sMi rfl rfl rfl rfl (sC rfl rfl rfl Tryz.func125 rfl rfl rfl (refNextE _ h2 (by rfl) (by omega) (H.get (f := RefR 124 r A c cur s1)) hok1 (H.bsT hB hS) hS hl) ?_)))
 rintro _ W ⟨⟨A2, c2, rfl, hc2, hd2, ho2, hf2, hfr2⟩, hr2⟩
 replace H := H.mutnew (f := RefR 124 r A c cur s1) (f' := RefR 124 r A c cur s2) (fn := Fact.row 5 1 (.slice A2 b.length c2) b.length _) hfr2 hr2 (fun _ h => h) ho2 hf2
 clear hfr2 hr2 ho2 hf2
 refine sAs rfl rfl rfl rfl (l_nil (k_seq (k_region (sAi rfl rfl rfl rfl (l_nil (k_seq (k_seq (k_region (sMs rfl rfl rfl rfl (sR rfl rfl (d_len rfl rfl tu35) ?_))))))))))
 refine sR rfl rfl (d_sub rfl rfl rfl (by omega)) (sAi rfl rfl rfl rfl (l_nil (k_block (k_loop 34 [6, 7] (fun mm sl W => ∃ k : Nat, k = mm ∧ sl = [(7, .int .i64 ((k : Int) - 1)), (6, .int .u64 (Pk.ofLe (b.drop k) : Int))] ∧ (k ≤ b.length) ∧ St (· = r) w W [Fact.row 5 1 (.slice A2 b.length c2) b.length (b.map u8v), Fact.row 5 1 (.slice A1 1 c1) 1 ([b0].map u8v), RefR 124 r A c cur s2]) _ _ ⟨b.length, rfl, rfl, Nat.le_refl _, H⟩ ⟨rfl, vi (by rw [Pk.ofLe_nil (Nat.le_refl _)]; rfl), trivial⟩ (fun mm sl ρv W hJ => ?_)))))
 clear H; obtain ⟨k, rfl, rfl, hk, H⟩ := hJ
 refine k_one (k_seq (k_seq (k_region (sMi rfl rfl rfl rfl (sR rfl rfl (d_ge rfl rfl rfl) (l_nil (k_cond rfl (fun hc35 => ?_) (fun hc35 => ?_))))))))
 ·first | (replace hc35 := of_decide_eq_true hc35) | simp at hc35
  refine k_skip (k_seq (k_block ?_))
  have hst := Pk.ofLe_step (b := b) (k := k) (by omega) hk (by omega)
  refine k_region (sMi rfl rfl rfl rfl (sR rfl rfl (d_mulW rfl rfl rfl hst.1) (sMs rfl rfl rfl rfl (sMi rfl rfl rfl rfl (sR rfl rfl (d_iaB rfl (H.rowrd (A := A2)) rfl rfl (q := k - 1) (by omega) (by omega) tu35 ts5) (sR rfl rfl (d_ldB rfl (H.rowrd (A := A2)) ((l_get (by omega))) rfl ta5) (sR rfl rfl (d_conv rfl rfl (by rw [tu5]; rfl) tu104 (IntWalk.u64_in _ (by have := (b.getD (k - 1) 0).toNat_lt; omega))) ?_)))))))
  refine sR rfl rfl (d_addW rfl rfl rfl hst.2) (sAi rfl rfl rfl rfl (l_nil (k_nil (b_end (k_region (sMi rfl rfl rfl rfl (sR rfl rfl (d_sub rfl rfl rfl (by omega)) (sAi rfl rfl rfl rfl (l_nil (k_nil ?_))))))))))
  refine k_next ?_
  refine ⟨_, _, _, ?_, rfl, ?_, ?_, ⟨k - 1, rfl, rfl, by omega, H⟩⟩
  ·omega
  ·repeat (first | (with_reducible refine .updl _ .ovr ?_); exact rfl | (with_reducible refine .updl _ (.ovr2 ?_ ?_) ?_); rotate_left; exact rfl; exact rfl | (with_reducible refine .upd ?_ ?_); rotate_left; exact rfl)
  ·refine ⟨?_, ?_, trivial⟩
   ·exact vi (by omega)
   ·exact rfl
 ·first | (replace hc35 := of_decide_eq_false hc35) | simp at hc35
  refine k_exit (x_then (x_then ?_))
  refine x_hit (k_seq (k_seq ?_))
  obtain rfl : k = 0 := by omega
  rw [List.drop_zero]
  obtain ⟨a, hbk, ha, hsa⟩ := H.get (f := RefR 124 r A c cur s2)
  replace H := H.turn (f := RefR 124 r A c cur s2) (f' := Fact.blk r [.slice A cur.length c, .int .i64 (a : Int), .int .i64 s2.2] 124) Fr.refl hbk (fun g h => .inl h)
  clear hbk
  refine k_region (sMp rfl rfl rfl rfl (sR rfl rfl (d_nil rfl rfl) (sR rfl rfl (d_fa rfl rfl tf124_2) (sR rfl rfl (d_ld rfl H rfl ta42 rfl) (sR rfl rfl (d_eq rfl rfl rfl) (sR rfl rfl (mv_bx (c := false) rfl rfl (by simpa using he)) ?_))))))
  refine s_skip (w_gno rfl rfl rfl rfl rfl) rfl (s_skip (w_gno rfl rfl rfl rfl rfl) rfl (sR rfl rfl (d_pickF rfl rfl rfl) (l_nil (k_condF rfl (by first | (simp; done) | (simp; omega)) ?_))))
  refine k_skip (k_seq (k_seq (k_region (sMp rfl rfl rfl rfl (sR rfl rfl (d_nil rfl rfl) (sR rfl rfl (d_fa rfl rfl tf124_2) (sR rfl rfl (d_ld rfl H rfl ta42 rfl) (sR rfl rfl (d_eq rfl rfl rfl) (sR rfl rfl (mv_bx (c := false) rfl rfl (by simpa using he)) ?_)))))))))
  refine s_skip (w_gno rfl rfl rfl rfl rfl) rfl (s_skip (w_gno rfl rfl rfl rfl rfl) rfl (s_skip (w_gno rfl rfl rfl rfl rfl) rfl (s_skip (w_gno rfl rfl rfl rfl rfl) rfl (s_skip (w_gno rfl rfl rfl rfl rfl) rfl (s_skip (w_gno rfl rfl rfl rfl rfl) rfl (s_skip (w_gno rfl rfl rfl rfl rfl) rfl (sR rfl rfl (d_pickF rfl rfl rfl) (l_nil (k_condF rfl (by first | (simp; done) | (simp; omega)) ?_)))))))))
  refine k_skip (k_seq (k_seq (k_region (sMp rfl rfl rfl rfl (sR rfl rfl (d_nil rfl rfl) (sR rfl rfl (d_fa rfl rfl tf124_2) (sR rfl rfl (d_ld rfl H rfl ta42 rfl) (sR rfl rfl (d_ne rfl rfl rfl) (l_nil (k_condT rfl (by simpa using he) ?_))))))))))
  refine k_seq (k_region (sAi rfl rfl rfl rfl (l_nil (k_ret ?_))))
  repeat (first | refine r_then ?_ | refine r_blk ?_)
  have e : Pk.rInt s = (0, s2) := by unfold Pk.rInt; rw [h1]; simp only [hw, if_false, h2, he, ne_eq, not_false_eq_true, if_true]
  rw [e]
  exact q_ret (v := .int _ _) rfl rfl ⟨_, rfl, H.valP rfl ha rfl hsa⟩

theorem refRdIntE {S : Nat → Prop} {r c : Nat} {A : Option Addr} {cur : List UInt8} {s : RS} (w : World) {s1 s2 : RS} {b0 : UInt8} {b : List UInt8} (hR : (RefR 124 r A c cur s).p w) (hok : Pk.Ok s) (hB : Bs w S (.slice A cur.length c) cur) (hS : ∀ g, S g → ¬ g = r) (hl : cur.length ≤ 1000000000000) (h1 : Pk.next 1 s = ([b0], s1)) (hw : Pk.wide b0 ≠ 0) (h2 : Pk.next (Pk.wide b0) s1 = (b, s2)) (he : s2.2 = 0) (hbl : b.length = Pk.wide b0) (hu : 9223372036854775808 ≤ Pk.ofLe b) : Calls Tryz.prog 108 [.pointer (some ⟨r, 0, none⟩)].toArray w (Ret (ValP 124 r A c cur w (.int .i64 ((Pk.rInt s).1 : Int)) (Pk.rInt s).2)) := by
 refine k_enter (l := [_]) Tryz.func108 rfl rfl ?_
 have H := St.begin (f := RefR 124 r A c cur s) hR (fun g hg => by cases hg; exact refR_lt hR)
 refine k_seq (k_region (sAi rfl rfl rfl rfl (l_nil (k_seq (k_region (sMp rfl rfl rfl rfl (sC rfl rfl rfl Tryz.func125 rfl rfl rfl (refNextE _ h1 (by rfl) (by omega) (H.get (f := RefR 124 r A c cur s)) hok (H.bsT hB hS) hS hl) ?_)))))))
 rintro _ W ⟨⟨A1, c1, rfl, hc1, hd1, ho1, hf1, hfr1⟩, hr1⟩
 replace H := H.mutnew (f := RefR 124 r A c cur s) (f' := RefR 124 r A c cur s1) (fn := Fact.row 5 1 (.slice A1 1 c1) 1 _) hfr1 hr1 (fun _ h => h) ho1 hf1
 clear hfr1 hr1 ho1 hf1
 refine sAs rfl rfl rfl rfl (l_nil (k_seq (k_seq (k_region (sMs rfl rfl rfl rfl (sR rfl rfl (d_len rfl rfl tu35) (sR rfl rfl (d_eq rfl rfl rfl) (l_nil (k_condF rfl (by first | (simp; done) | (simp; omega)) ?_)))))))))
 refine k_skip (k_seq (k_region (sAi rfl rfl rfl rfl (l_nil (k_seq (k_seq (k_region (sMs rfl rfl rfl rfl (sR rfl rfl (d_iaB rfl (H.rowrd (A := A1)) rfl rfl (q := 0) rfl (by decide) tu35 ts5) ?_)))))))))
 refine sR rfl rfl (d_ldB rfl (H.rowrd (A := A1)) ((rfl : [b0][0]? = some b0)) rfl ta5) (l_nil (k_bcut 16 [4] (fun sl W => sl = [(4, .int .i64 (Pk.wide b0 : Int))] ∧ St (· = r) w W [Fact.row 5 1 (.slice A1 1 c1) 1 ([b0].map u8v), RefR 124 r A c cur s1]) ?_ (fun sl ρv W hJ => ?_)))
 ·skip
  refine k_seq (k_region (sR rfl rfl (d_eq rfl rfl rfl) (sAb rfl rfl rfl rfl (l_nil (k_cond rfl (fun hc16 => ?_) (fun hc16 => ?_))))))
  ·skip
   refine k_region (sAi rfl rfl rfl rfl (l_nil (k_nil (b_endc ?_))))
   refine ⟨_, _, rfl, ?_, ?_, ⟨rfl, H⟩⟩
   ·repeat (first | with_reducible exact .refl | (with_reducible refine .updl _ (.ovr2 ?_ ?_) ?_); rotate_left; exact rfl; exact rfl | (with_reducible refine .upd ?_ ?_); rotate_left; exact rfl)
   ·refine ⟨?_, trivial⟩
    ·exact vi (by rw [Pk.wide_253 hc16]; rfl)
  ·skip
   refine k_seq (k_region (sR rfl rfl (d_eq rfl rfl rfl) (sAb rfl rfl rfl rfl (l_nil (k_cond rfl (fun hc18 => ?_) (fun hc18 => ?_))))))
   ·skip
    refine k_region (sAi rfl rfl rfl rfl (l_nil (k_nil (b_endc ?_))))
    refine ⟨_, _, rfl, ?_, ?_, ⟨rfl, H⟩⟩
    ·repeat (first | with_reducible exact .refl | (with_reducible refine .updl _ (.ovr2 ?_ ?_) ?_); rotate_left; exact rfl; exact rfl | (with_reducible refine .upd ?_ ?_); rotate_left; exact rfl)
    ·refine ⟨?_, trivial⟩
     ·exact vi (by rw [Pk.wide_254 hc18]; rfl)
   ·skip
    refine k_seq (k_region (sR rfl rfl (d_eq rfl rfl rfl) (sAb rfl rfl rfl rfl (l_nil (k_cond rfl (fun hc20 => ?_) (fun hc20 => ?_))))))
    ·skip
     refine k_region (sAi rfl rfl rfl rfl (l_nil (k_nil (b_endc ?_))))
     refine ⟨_, _, rfl, ?_, ?_, ⟨rfl, H⟩⟩
     ·repeat (first | with_reducible exact .refl | (with_reducible refine .updl _ (.ovr2 ?_ ?_) ?_); rotate_left; exact rfl; exact rfl | (with_reducible refine .upd ?_ ?_); rotate_left; exact rfl)
     ·refine ⟨?_, trivial⟩
      ·exact vi (by rw [Pk.wide_255 hc20]; rfl)
    ·skip
     refine k_skip (k_nil (b_endc ?_))
     refine ⟨_, _, rfl, ?_, ?_, ⟨rfl, H⟩⟩
     ·repeat (first | with_reducible exact .refl | (with_reducible refine .updl _ (.ovr2 ?_ ?_) ?_); rotate_left; exact rfl; exact rfl | (with_reducible refine .upd ?_ ?_); rotate_left; exact rfl)
     ·refine ⟨?_, trivial⟩
      ·exact vi (by rw [Pk.wide_0 hc16 hc18 hc20]; rfl)
 clear H; obtain ⟨rfl, H⟩ := hJ
 refine k_seq (k_seq (k_region (sMi rfl rfl rfl rfl (sR rfl rfl (d_eq rfl rfl rfl) (l_nil (k_condF rfl (by simp [hw]) ?_))))))
 refine k_skip (k_seq ?_)
 have hok1 := Pk.ok_next (n := 1) hok
 rw [h1] at hok1
 have hw8 : Pk.wide b0 ≤ 8 := by rcases Pk.wide_of (c := b0) with h | h | h | h <;> omega
 refine k_region (sMp rfl rfl rfl rfl (sMi rfl rfl rfl rfl (sC rfl rfl rfl Tryz.func125 rfl rfl rfl (refNextE _ h2 (by rfl) (by omega) (H.get (f := RefR 124 r A c cur s1)) hok1 (H.bsT hB hS) hS hl) ?_)))
 rintro _ W ⟨⟨A2, c2, rfl, hc2, hd2, ho2, hf2, hfr2⟩, hr2⟩
 replace H := H.mutnew (f := RefR 124 r A c cur s1) (f' := RefR 124 r A c cur s2) (fn := Fact.row 5 1 (.slice A2 b.length c2) b.length _) hfr2 hr2 (fun _ h => h) ho2 hf2
 clear hfr2 hr2 ho2 hf2
 refine sAs rfl rfl rfl rfl (l_nil (k_seq (k_region (sAi rfl rfl rfl rfl (l_nil (k_seq (k_seq (k_region (sMs rfl rfl rfl rfl (sR rfl rfl (d_len rfl rfl tu35) ?_))))))))))
 refine sR rfl rfl (d_sub rfl rfl rfl (by omega)) (sAi rfl rfl rfl rfl (l_nil (k_block (k_loop 34 [6, 7] (fun mm sl W => ∃ k : Nat, k = mm ∧ sl = [(7, .int .i64 ((k : Int) - 1)), (6, .int .u64 (Pk.ofLe (b.drop k) : Int))] ∧ (k ≤ b.length) ∧ St (· = r) w W [Fact.row 5 1 (.slice A2 b.length c2) b.length (b.map u8v), Fact.row 5 1 (.slice A1 1 c1) 1 ([b0].map u8v), RefR 124 r A c cur s2]) _ _ ⟨b.length, rfl, rfl, Nat.le_refl _, H⟩ ⟨rfl, vi (by rw [Pk.ofLe_nil (Nat.le_refl _)]; rfl), trivial⟩ (fun mm sl ρv W hJ => ?_)))))
 clear H; obtain ⟨k, rfl, rfl, hk, H⟩ := hJ
 refine k_one (k_seq (k_seq (k_region (sMi rfl rfl rfl rfl (sR rfl rfl (d_ge rfl rfl rfl) (l_nil (k_cond rfl (fun hc35 => ?_) (fun hc35 => ?_))))))))
 ·first | (replace hc35 := of_decide_eq_true hc35) | simp at hc35
  refine k_skip (k_seq (k_block ?_))
  have hst := Pk.ofLe_step (b := b) (k := k) (by omega) hk (by omega)
  refine k_region (sMi rfl rfl rfl rfl (sR rfl rfl (d_mulW rfl rfl rfl hst.1) (sMs rfl rfl rfl rfl (sMi rfl rfl rfl rfl (sR rfl rfl (d_iaB rfl (H.rowrd (A := A2)) rfl rfl (q := k - 1) (by omega) (by omega) tu35 ts5) (sR rfl rfl (d_ldB rfl (H.rowrd (A := A2)) ((l_get (by omega))) rfl ta5) (sR rfl rfl (d_conv rfl rfl (by rw [tu5]; rfl) tu104 (IntWalk.u64_in _ (by have := (b.getD (k - 1) 0).toNat_lt; omega))) ?_)))))))
  refine sR rfl rfl (d_addW rfl rfl rfl hst.2) (sAi rfl rfl rfl rfl (l_nil (k_nil (b_end (k_region (sMi rfl rfl rfl rfl (sR rfl rfl (d_sub rfl rfl rfl (by omega)) (sAi rfl rfl rfl rfl (l_nil (k_nil ?_))))))))))
  refine k_next ?_
  refine ⟨_, _, _, ?_, rfl, ?_, ?_, ⟨k - 1, rfl, rfl, by omega, H⟩⟩
  ·omega
  ·repeat (first | (with_reducible refine .updl _ .ovr ?_); exact rfl | (with_reducible refine .updl _ (.ovr2 ?_ ?_) ?_); rotate_left; exact rfl; exact rfl | (with_reducible refine .upd ?_ ?_); rotate_left; exact rfl)
  ·refine ⟨?_, ?_, trivial⟩
   ·exact vi (by omega)
   ·exact rfl
 ·first | (replace hc35 := of_decide_eq_false hc35) | simp at hc35
  refine k_exit (x_then (x_then ?_))
  refine x_hit (k_seq (k_seq ?_))
  obtain rfl : k = 0 := by omega
  rw [List.drop_zero]
  obtain ⟨a, hbk, ha, hsa⟩ := H.get (f := RefR 124 r A c cur s2)
  replace H := H.turn (f := RefR 124 r A c cur s2) (f' := Fact.blk r [.slice A cur.length c, .int .i64 (a : Int), .int .i64 s2.2] 124) Fr.refl hbk (fun g h => .inl h)
  clear hbk
  refine k_region (sMp rfl rfl rfl rfl (sR rfl rfl (d_nil rfl rfl) (sR rfl rfl (d_fa rfl rfl tf124_2) (sR rfl rfl (d_ld rfl H rfl ta42 rfl) (sR rfl rfl (d_eq rfl rfl rfl) (sR rfl rfl (mv_bx (c := true) rfl rfl (by simpa using he)) ?_))))))
  refine s_run (w_g rfl rfl rfl rfl) rfl (mv_i rfl rfl) (s_run (w_g rfl rfl rfl rfl) rfl (d_ge rfl rfl rfl) (sR rfl rfl (d_pickT rfl rfl rfl) (l_nil (k_condT rfl (by first | (simp; done) | (simp; omega)) ?_))))
  refine k_region (sMp rfl rfl rfl rfl (sR rfl rfl (d_nil rfl rfl) (sR rfl rfl (d_fa rfl rfl tf124_2) (s_eff (e_sto (w_none rfl) rfl rfl rfl rfl rfl ts42 rfl H rfl ?_)))))
  clear H; intro W H
  refine l_nil (k_seq (k_seq (k_region (sMp rfl rfl rfl rfl (sR rfl rfl (d_nil rfl rfl) (sR rfl rfl (d_fa rfl rfl tf124_2) (sR rfl rfl (d_ld rfl H rfl ta42 rfl) (sR rfl rfl (d_eq rfl rfl rfl) (sR rfl rfl (mv_bx (c := false) rfl rfl (by decide)) ?_)))))))))
  refine s_skip (w_gno rfl rfl rfl rfl rfl) rfl (s_skip (w_gno rfl rfl rfl rfl rfl) rfl (s_skip (w_gno rfl rfl rfl rfl rfl) rfl (s_skip (w_gno rfl rfl rfl rfl rfl) rfl (s_skip (w_gno rfl rfl rfl rfl rfl) rfl (s_skip (w_gno rfl rfl rfl rfl rfl) rfl (s_skip (w_gno rfl rfl rfl rfl rfl) rfl (sR rfl rfl (d_pickF rfl rfl rfl) (l_nil (k_condF rfl (by first | (simp; done) | (simp; omega)) ?_)))))))))
  refine k_skip (k_seq (k_seq (k_region (sMp rfl rfl rfl rfl (sR rfl rfl (d_nil rfl rfl) (sR rfl rfl (d_fa rfl rfl tf124_2) (sR rfl rfl (d_ld rfl H rfl ta42 rfl) (sR rfl rfl (d_ne rfl rfl rfl) (l_nil (k_condT rfl (by decide) ?_))))))))))
  refine k_seq (k_region (sAi rfl rfl rfl rfl (l_nil (k_ret ?_))))
  repeat (first | refine r_then ?_ | refine r_blk ?_)
  have e : Pk.rInt s = (0, ([], 15)) := by unfold Pk.rInt; rw [h1]; simp only [hw, if_false, h2, he, ne_eq, not_true_eq_false]; unfold Pk.num; rw [if_pos hu]
  rw [e]
  exact q_ret (v := .int _ _) rfl rfl ⟨_, rfl, H.valP (s' := ([], 15)) rfl ha rfl rfl⟩

theorem refRdIntF {S : Nat → Prop} {r c : Nat} {A : Option Addr} {cur : List UInt8} {s : RS} (w : World) {s1 s2 : RS} {b0 : UInt8} {b : List UInt8} (hR : (RefR 124 r A c cur s).p w) (hok : Pk.Ok s) (hB : Bs w S (.slice A cur.length c) cur) (hS : ∀ g, S g → ¬ g = r) (hl : cur.length ≤ 1000000000000) (h1 : Pk.next 1 s = ([b0], s1)) (hw : Pk.wide b0 ≠ 0) (h2 : Pk.next (Pk.wide b0) s1 = (b, s2)) (he : s2.2 = 0) (hbl : b.length = Pk.wide b0) (hu : Pk.ofLe b < 9223372036854775808) (hf : Pk.ofLe b < Pk.least b0) : Calls Tryz.prog 108 [.pointer (some ⟨r, 0, none⟩)].toArray w (Ret (ValP 124 r A c cur w (.int .i64 ((Pk.rInt s).1 : Int)) (Pk.rInt s).2)) := by
 refine k_enter (l := [_]) Tryz.func108 rfl rfl ?_
 have H := St.begin (f := RefR 124 r A c cur s) hR (fun g hg => by cases hg; exact refR_lt hR)
 refine k_seq (k_region (sAi rfl rfl rfl rfl (l_nil (k_seq (k_region (sMp rfl rfl rfl rfl (sC rfl rfl rfl Tryz.func125 rfl rfl rfl (refNextE _ h1 (by rfl) (by omega) (H.get (f := RefR 124 r A c cur s)) hok (H.bsT hB hS) hS hl) ?_)))))))
 rintro _ W ⟨⟨A1, c1, rfl, hc1, hd1, ho1, hf1, hfr1⟩, hr1⟩
 replace H := H.mutnew (f := RefR 124 r A c cur s) (f' := RefR 124 r A c cur s1) (fn := Fact.row 5 1 (.slice A1 1 c1) 1 _) hfr1 hr1 (fun _ h => h) ho1 hf1
 clear hfr1 hr1 ho1 hf1
 refine sAs rfl rfl rfl rfl (l_nil (k_seq (k_seq (k_region (sMs rfl rfl rfl rfl (sR rfl rfl (d_len rfl rfl tu35) (sR rfl rfl (d_eq rfl rfl rfl) (l_nil (k_condF rfl (by first | (simp; done) | (simp; omega)) ?_)))))))))
 refine k_skip (k_seq (k_region (sAi rfl rfl rfl rfl (l_nil (k_seq (k_seq (k_region (sMs rfl rfl rfl rfl (sR rfl rfl (d_iaB rfl (H.rowrd (A := A1)) rfl rfl (q := 0) rfl (by decide) tu35 ts5) ?_)))))))))
 refine sR rfl rfl (d_ldB rfl (H.rowrd (A := A1)) ((rfl : [b0][0]? = some b0)) rfl ta5) (l_nil (k_bcut 16 [4] (fun sl W => sl = [(4, .int .i64 (Pk.wide b0 : Int))] ∧ St (· = r) w W [Fact.row 5 1 (.slice A1 1 c1) 1 ([b0].map u8v), RefR 124 r A c cur s1]) ?_ (fun sl ρv W hJ => ?_)))
 ·skip
  refine k_seq (k_region (sR rfl rfl (d_eq rfl rfl rfl) (sAb rfl rfl rfl rfl (l_nil (k_cond rfl (fun hc16 => ?_) (fun hc16 => ?_))))))
  ·skip
   refine k_region (sAi rfl rfl rfl rfl (l_nil (k_nil (b_endc ?_))))
   refine ⟨_, _, rfl, ?_, ?_, ⟨rfl, H⟩⟩
   ·repeat (first | with_reducible exact .refl | (with_reducible refine .updl _ (.ovr2 ?_ ?_) ?_); rotate_left; exact rfl; exact rfl | (with_reducible refine .upd ?_ ?_); rotate_left; exact rfl)
   ·refine ⟨?_, trivial⟩
    ·exact vi (by rw [Pk.wide_253 hc16]; rfl)
  ·skip
   refine k_seq (k_region (sR rfl rfl (d_eq rfl rfl rfl) (sAb rfl rfl rfl rfl (l_nil (k_cond rfl (fun hc18 => ?_) (fun hc18 => ?_))))))
   ·skip
    refine k_region (sAi rfl rfl rfl rfl (l_nil (k_nil (b_endc ?_))))
    refine ⟨_, _, rfl, ?_, ?_, ⟨rfl, H⟩⟩
    ·repeat (first | with_reducible exact .refl | (with_reducible refine .updl _ (.ovr2 ?_ ?_) ?_); rotate_left; exact rfl; exact rfl | (with_reducible refine .upd ?_ ?_); rotate_left; exact rfl)
    ·refine ⟨?_, trivial⟩
     ·exact vi (by rw [Pk.wide_254 hc18]; rfl)
   ·skip
    refine k_seq (k_region (sR rfl rfl (d_eq rfl rfl rfl) (sAb rfl rfl rfl rfl (l_nil (k_cond rfl (fun hc20 => ?_) (fun hc20 => ?_))))))
    ·skip
     refine k_region (sAi rfl rfl rfl rfl (l_nil (k_nil (b_endc ?_))))
     refine ⟨_, _, rfl, ?_, ?_, ⟨rfl, H⟩⟩
     ·repeat (first | with_reducible exact .refl | (with_reducible refine .updl _ (.ovr2 ?_ ?_) ?_); rotate_left; exact rfl; exact rfl | (with_reducible refine .upd ?_ ?_); rotate_left; exact rfl)
     ·refine ⟨?_, trivial⟩
      ·exact vi (by rw [Pk.wide_255 hc20]; rfl)
    ·skip
     refine k_skip (k_nil (b_endc ?_))
     refine ⟨_, _, rfl, ?_, ?_, ⟨rfl, H⟩⟩
     ·repeat (first | with_reducible exact .refl | (with_reducible refine .updl _ (.ovr2 ?_ ?_) ?_); rotate_left; exact rfl; exact rfl | (with_reducible refine .upd ?_ ?_); rotate_left; exact rfl)
     ·refine ⟨?_, trivial⟩
      ·exact vi (by rw [Pk.wide_0 hc16 hc18 hc20]; rfl)
 clear H; obtain ⟨rfl, H⟩ := hJ
 refine k_seq (k_seq (k_region (sMi rfl rfl rfl rfl (sR rfl rfl (d_eq rfl rfl rfl) (l_nil (k_condF rfl (by simp [hw]) ?_))))))
 refine k_skip (k_seq ?_)
 have hok1 := Pk.ok_next (n := 1) hok
 rw [h1] at hok1
 have hw8 : Pk.wide b0 ≤ 8 := by rcases Pk.wide_of (c := b0) with h | h | h | h <;> omega
 refine k_region (sMp rfl rfl rfl rfl (sMi rfl rfl rfl rfl (sC rfl rfl rfl Tryz.func125 rfl rfl rfl (refNextE _ h2 (by rfl) (by omega) (H.get (f := RefR 124 r A c cur s1)) hok1 (H.bsT hB hS) hS hl) ?_)))
 rintro _ W ⟨⟨A2, c2, rfl, hc2, hd2, ho2, hf2, hfr2⟩, hr2⟩
 replace H := H.mutnew (f := RefR 124 r A c cur s1) (f' := RefR 124 r A c cur s2) (fn := Fact.row 5 1 (.slice A2 b.length c2) b.length _) hfr2 hr2 (fun _ h => h) ho2 hf2
 clear hfr2 hr2 ho2 hf2
 refine sAs rfl rfl rfl rfl (l_nil (k_seq (k_region (sAi rfl rfl rfl rfl (l_nil (k_seq (k_seq (k_region (sMs rfl rfl rfl rfl (sR rfl rfl (d_len rfl rfl tu35) ?_))))))))))
 refine sR rfl rfl (d_sub rfl rfl rfl (by omega)) (sAi rfl rfl rfl rfl (l_nil (k_block (k_loop 34 [6, 7] (fun mm sl W => ∃ k : Nat, k = mm ∧ sl = [(7, .int .i64 ((k : Int) - 1)), (6, .int .u64 (Pk.ofLe (b.drop k) : Int))] ∧ (k ≤ b.length) ∧ St (· = r) w W [Fact.row 5 1 (.slice A2 b.length c2) b.length (b.map u8v), Fact.row 5 1 (.slice A1 1 c1) 1 ([b0].map u8v), RefR 124 r A c cur s2]) _ _ ⟨b.length, rfl, rfl, Nat.le_refl _, H⟩ ⟨rfl, vi (by rw [Pk.ofLe_nil (Nat.le_refl _)]; rfl), trivial⟩ (fun mm sl ρv W hJ => ?_)))))
 clear H; obtain ⟨k, rfl, rfl, hk, H⟩ := hJ
 refine k_one (k_seq (k_seq (k_region (sMi rfl rfl rfl rfl (sR rfl rfl (d_ge rfl rfl rfl) (l_nil (k_cond rfl (fun hc35 => ?_) (fun hc35 => ?_))))))))
 ·first | (replace hc35 := of_decide_eq_true hc35) | simp at hc35
  refine k_skip (k_seq (k_block ?_))
  have hst := Pk.ofLe_step (b := b) (k := k) (by omega) hk (by omega)
  refine k_region (sMi rfl rfl rfl rfl (sR rfl rfl (d_mulW rfl rfl rfl hst.1) (sMs rfl rfl rfl rfl (sMi rfl rfl rfl rfl (sR rfl rfl (d_iaB rfl (H.rowrd (A := A2)) rfl rfl (q := k - 1) (by omega) (by omega) tu35 ts5) (sR rfl rfl (d_ldB rfl (H.rowrd (A := A2)) ((l_get (by omega))) rfl ta5) (sR rfl rfl (d_conv rfl rfl (by rw [tu5]; rfl) tu104 (IntWalk.u64_in _ (by have := (b.getD (k - 1) 0).toNat_lt; omega))) ?_)))))))
  refine sR rfl rfl (d_addW rfl rfl rfl hst.2) (sAi rfl rfl rfl rfl (l_nil (k_nil (b_end (k_region (sMi rfl rfl rfl rfl (sR rfl rfl (d_sub rfl rfl rfl (by omega)) (sAi rfl rfl rfl rfl (l_nil (k_nil ?_))))))))))
  refine k_next ?_
  refine ⟨_, _, _, ?_, rfl, ?_, ?_, ⟨k - 1, rfl, rfl, by omega, H⟩⟩
  ·omega
  ·repeat (first | (with_reducible refine .updl _ .ovr ?_); exact rfl | (with_reducible refine .updl _ (.ovr2 ?_ ?_) ?_); rotate_left; exact rfl; exact rfl | (with_reducible refine .upd ?_ ?_); rotate_left; exact rfl)
  ·refine ⟨?_, ?_, trivial⟩
   ·exact vi (by omega)
   ·exact rfl
 ·first | (replace hc35 := of_decide_eq_false hc35) | simp at hc35
  refine k_exit (x_then (x_then ?_))
  refine x_hit (k_seq (k_seq ?_))
  obtain rfl : k = 0 := by omega
  rw [List.drop_zero]
  obtain ⟨a, hbk, ha, hsa⟩ := H.get (f := RefR 124 r A c cur s2)
  replace H := H.turn (f := RefR 124 r A c cur s2) (f' := Fact.blk r [.slice A cur.length c, .int .i64 (a : Int), .int .i64 s2.2] 124) Fr.refl hbk (fun g h => .inl h)
  clear hbk
  refine k_region (sMp rfl rfl rfl rfl (sR rfl rfl (d_nil rfl rfl) (sR rfl rfl (d_fa rfl rfl tf124_2) (sR rfl rfl (d_ld rfl H rfl ta42 rfl) (sR rfl rfl (d_eq rfl rfl rfl) (sR rfl rfl (mv_bx (c := true) rfl rfl (by simpa using he)) ?_))))))
  refine s_run (w_g rfl rfl rfl rfl) rfl (mv_i rfl rfl) (s_run (w_g rfl rfl rfl rfl) rfl (d_ge rfl rfl rfl) (sR rfl rfl (d_pickT rfl rfl rfl) (l_nil (k_condF rfl (by simp; omega) (k_skip (k_seq (k_seq (k_region (sMp rfl rfl rfl rfl (sR rfl rfl (d_nil rfl rfl) ?_))))))))))
  refine sR rfl rfl (d_fa rfl rfl tf124_2) (sR rfl rfl (d_ld rfl H rfl ta42 rfl) (sR rfl rfl (d_eq rfl rfl rfl) (sR rfl rfl (mv_bx (c := true) rfl rfl (by simpa using he)) ?_)))
  refine s_run (w_g rfl rfl rfl rfl) rfl (mv_i rfl rfl) (s_run (w_g rfl rfl rfl rfl) rfl (d_conv rfl rfl (by rw [tu104]; rfl) tu3 (IntWalk.i64_in _ (by omega))) ?_)
  refine s_eff (e_call (w_g rfl rfl rfl rfl) rfl rfl Tryz.func47 rfl rfl rfl (refInt _ _ (Bs.nil (S := fun _ => True)) (by omega) (by simp)) ?_)
  rintro _ W ⟨A4, c4, rfl, hc4, hd4, hn⟩
  replace H := H.new hn
  clear hn
  have hlen : ([] ++ Pk.int (Pk.toU (Pk.ofLe b : Int))) = Pk.int (Pk.ofLe b) := by rw [Pk.toU_pos _ (by omega) (by omega), Int.toNat_natCast]; rfl
  have hform : (([] ++ Pk.int (Pk.toU (Pk.ofLe b : Int))).length : Int) ≠ 1 + (Pk.wide b0 : Int) ↔ Pk.ofLe b < Pk.least b0 := by
   rw [hlen, ← Pk.int_len hw (by rw [← hbl]; exact Pk.ofLe_lt b)]; omega
  refine s_run (w_g rfl rfl rfl rfl) rfl (d_len rfl rfl tu35) (s_run (w_g rfl rfl rfl rfl) rfl (mv_i rfl rfl) (s_run (w_g rfl rfl rfl rfl) rfl (d_add rfl rfl rfl (by omega)) (s_run (w_g rfl rfl rfl rfl) rfl (d_ne rfl rfl rfl) (sR rfl rfl (d_pickT rfl rfl rfl) (l_nil (k_condT rfl (by simp only [bne_iff_ne]; exact hform.2 hf) ?_))))))
  refine k_region (sMp rfl rfl rfl rfl (sR rfl rfl (d_nil rfl rfl) (sR rfl rfl (d_fa rfl rfl tf124_2) (s_eff (e_sto (w_none rfl) rfl rfl rfl rfl rfl ts42 rfl H rfl ?_)))))
  clear H; intro W H
  refine l_nil (k_seq (k_seq (k_region (sMp rfl rfl rfl rfl (sR rfl rfl (d_nil rfl rfl) (sR rfl rfl (d_fa rfl rfl tf124_2) (sR rfl rfl (d_ld rfl H rfl ta42 rfl) (sR rfl rfl (d_ne rfl rfl rfl) (l_nil (k_condT rfl (by decide) ?_))))))))))
  refine k_seq (k_region (sAi rfl rfl rfl rfl (l_nil (k_ret ?_))))
  repeat (first | refine r_then ?_ | refine r_blk ?_)
  have e : Pk.rInt s = (0, ([], 10)) := by unfold Pk.rInt; rw [h1]; simp only [hw, if_false, h2, he, ne_eq, not_true_eq_false]; unfold Pk.num; rw [if_neg (by omega), if_pos hf]
  rw [e]
  exact q_ret (v := .int _ _) rfl rfl ⟨_, rfl, H.valP (s' := ([], 10)) rfl ha rfl rfl⟩

theorem refRdIntG {S : Nat → Prop} {r c : Nat} {A : Option Addr} {cur : List UInt8} {s : RS} (w : World) {s1 s2 : RS} {b0 : UInt8} {b : List UInt8} (hR : (RefR 124 r A c cur s).p w) (hok : Pk.Ok s) (hB : Bs w S (.slice A cur.length c) cur) (hS : ∀ g, S g → ¬ g = r) (hl : cur.length ≤ 1000000000000) (h1 : Pk.next 1 s = ([b0], s1)) (hw : Pk.wide b0 ≠ 0) (h2 : Pk.next (Pk.wide b0) s1 = (b, s2)) (he : s2.2 = 0) (hbl : b.length = Pk.wide b0) (hu : Pk.ofLe b < 9223372036854775808) (hf : ¬ Pk.ofLe b < Pk.least b0) : Calls Tryz.prog 108 [.pointer (some ⟨r, 0, none⟩)].toArray w (Ret (ValP 124 r A c cur w (.int .i64 ((Pk.rInt s).1 : Int)) (Pk.rInt s).2)) := by
 refine k_enter (l := [_]) Tryz.func108 rfl rfl ?_
 have H := St.begin (f := RefR 124 r A c cur s) hR (fun g hg => by cases hg; exact refR_lt hR)
 refine k_seq (k_region (sAi rfl rfl rfl rfl (l_nil (k_seq (k_region (sMp rfl rfl rfl rfl (sC rfl rfl rfl Tryz.func125 rfl rfl rfl (refNextE _ h1 (by rfl) (by omega) (H.get (f := RefR 124 r A c cur s)) hok (H.bsT hB hS) hS hl) ?_)))))))
 rintro _ W ⟨⟨A1, c1, rfl, hc1, hd1, ho1, hf1, hfr1⟩, hr1⟩
 replace H := H.mutnew (f := RefR 124 r A c cur s) (f' := RefR 124 r A c cur s1) (fn := Fact.row 5 1 (.slice A1 1 c1) 1 _) hfr1 hr1 (fun _ h => h) ho1 hf1
 clear hfr1 hr1 ho1 hf1
 refine sAs rfl rfl rfl rfl (l_nil (k_seq (k_seq (k_region (sMs rfl rfl rfl rfl (sR rfl rfl (d_len rfl rfl tu35) (sR rfl rfl (d_eq rfl rfl rfl) (l_nil (k_condF rfl (by first | (simp; done) | (simp; omega)) ?_)))))))))
 refine k_skip (k_seq (k_region (sAi rfl rfl rfl rfl (l_nil (k_seq (k_seq (k_region (sMs rfl rfl rfl rfl (sR rfl rfl (d_iaB rfl (H.rowrd (A := A1)) rfl rfl (q := 0) rfl (by decide) tu35 ts5) ?_)))))))))
 refine sR rfl rfl (d_ldB rfl (H.rowrd (A := A1)) ((rfl : [b0][0]? = some b0)) rfl ta5) (l_nil (k_bcut 16 [4] (fun sl W => sl = [(4, .int .i64 (Pk.wide b0 : Int))] ∧ St (· = r) w W [Fact.row 5 1 (.slice A1 1 c1) 1 ([b0].map u8v), RefR 124 r A c cur s1]) ?_ (fun sl ρv W hJ => ?_)))
 ·skip
  refine k_seq (k_region (sR rfl rfl (d_eq rfl rfl rfl) (sAb rfl rfl rfl rfl (l_nil (k_cond rfl (fun hc16 => ?_) (fun hc16 => ?_))))))
  ·skip
   refine k_region (sAi rfl rfl rfl rfl (l_nil (k_nil (b_endc ?_))))
   refine ⟨_, _, rfl, ?_, ?_, ⟨rfl, H⟩⟩
   ·repeat (first | with_reducible exact .refl | (with_reducible refine .updl _ (.ovr2 ?_ ?_) ?_); rotate_left; exact rfl; exact rfl | (with_reducible refine .upd ?_ ?_); rotate_left; exact rfl)
   ·refine ⟨?_, trivial⟩
    ·exact vi (by rw [Pk.wide_253 hc16]; rfl)
  ·skip
   refine k_seq (k_region (sR rfl rfl (d_eq rfl rfl rfl) (sAb rfl rfl rfl rfl (l_nil (k_cond rfl (fun hc18 => ?_) (fun hc18 => ?_))))))
   ·skip
    refine k_region (sAi rfl rfl rfl rfl (l_nil (k_nil (b_endc ?_))))
    refine ⟨_, _, rfl, ?_, ?_, ⟨rfl, H⟩⟩
    ·repeat (first | with_reducible exact .refl | (with_reducible refine .updl _ (.ovr2 ?_ ?_) ?_); rotate_left; exact rfl; exact rfl | (with_reducible refine .upd ?_ ?_); rotate_left; exact rfl)
    ·refine ⟨?_, trivial⟩
     ·exact vi (by rw [Pk.wide_254 hc18]; rfl)
   ·skip
    refine k_seq (k_region (sR rfl rfl (d_eq rfl rfl rfl) (sAb rfl rfl rfl rfl (l_nil (k_cond rfl (fun hc20 => ?_) (fun hc20 => ?_))))))
    ·skip
     refine k_region (sAi rfl rfl rfl rfl (l_nil (k_nil (b_endc ?_))))
     refine ⟨_, _, rfl, ?_, ?_, ⟨rfl, H⟩⟩
     ·repeat (first | with_reducible exact .refl | (with_reducible refine .updl _ (.ovr2 ?_ ?_) ?_); rotate_left; exact rfl; exact rfl | (with_reducible refine .upd ?_ ?_); rotate_left; exact rfl)
     ·refine ⟨?_, trivial⟩
      ·exact vi (by rw [Pk.wide_255 hc20]; rfl)
    ·skip
     refine k_skip (k_nil (b_endc ?_))
     refine ⟨_, _, rfl, ?_, ?_, ⟨rfl, H⟩⟩
     ·repeat (first | with_reducible exact .refl | (with_reducible refine .updl _ (.ovr2 ?_ ?_) ?_); rotate_left; exact rfl; exact rfl | (with_reducible refine .upd ?_ ?_); rotate_left; exact rfl)
     ·refine ⟨?_, trivial⟩
      ·exact vi (by rw [Pk.wide_0 hc16 hc18 hc20]; rfl)
 clear H; obtain ⟨rfl, H⟩ := hJ
 refine k_seq (k_seq (k_region (sMi rfl rfl rfl rfl (sR rfl rfl (d_eq rfl rfl rfl) (l_nil (k_condF rfl (by simp [hw]) ?_))))))
 refine k_skip (k_seq ?_)
 have hok1 := Pk.ok_next (n := 1) hok
 rw [h1] at hok1
 have hw8 : Pk.wide b0 ≤ 8 := by rcases Pk.wide_of (c := b0) with h | h | h | h <;> omega
 refine k_region (sMp rfl rfl rfl rfl (sMi rfl rfl rfl rfl (sC rfl rfl rfl Tryz.func125 rfl rfl rfl (refNextE _ h2 (by rfl) (by omega) (H.get (f := RefR 124 r A c cur s1)) hok1 (H.bsT hB hS) hS hl) ?_)))
 rintro _ W ⟨⟨A2, c2, rfl, hc2, hd2, ho2, hf2, hfr2⟩, hr2⟩
 replace H := H.mutnew (f := RefR 124 r A c cur s1) (f' := RefR 124 r A c cur s2) (fn := Fact.row 5 1 (.slice A2 b.length c2) b.length _) hfr2 hr2 (fun _ h => h) ho2 hf2
 clear hfr2 hr2 ho2 hf2
 refine sAs rfl rfl rfl rfl (l_nil (k_seq (k_region (sAi rfl rfl rfl rfl (l_nil (k_seq (k_seq (k_region (sMs rfl rfl rfl rfl (sR rfl rfl (d_len rfl rfl tu35) ?_))))))))))
 refine sR rfl rfl (d_sub rfl rfl rfl (by omega)) (sAi rfl rfl rfl rfl (l_nil (k_block (k_loop 34 [6, 7] (fun mm sl W => ∃ k : Nat, k = mm ∧ sl = [(7, .int .i64 ((k : Int) - 1)), (6, .int .u64 (Pk.ofLe (b.drop k) : Int))] ∧ (k ≤ b.length) ∧ St (· = r) w W [Fact.row 5 1 (.slice A2 b.length c2) b.length (b.map u8v), Fact.row 5 1 (.slice A1 1 c1) 1 ([b0].map u8v), RefR 124 r A c cur s2]) _ _ ⟨b.length, rfl, rfl, Nat.le_refl _, H⟩ ⟨rfl, vi (by rw [Pk.ofLe_nil (Nat.le_refl _)]; rfl), trivial⟩ (fun mm sl ρv W hJ => ?_)))))
 clear H; obtain ⟨k, rfl, rfl, hk, H⟩ := hJ
 refine k_one (k_seq (k_seq (k_region (sMi rfl rfl rfl rfl (sR rfl rfl (d_ge rfl rfl rfl) (l_nil (k_cond rfl (fun hc35 => ?_) (fun hc35 => ?_))))))))
 ·first | (replace hc35 := of_decide_eq_true hc35) | simp at hc35
  refine k_skip (k_seq (k_block ?_))
  have hst := Pk.ofLe_step (b := b) (k := k) (by omega) hk (by omega)
  refine k_region (sMi rfl rfl rfl rfl (sR rfl rfl (d_mulW rfl rfl rfl hst.1) (sMs rfl rfl rfl rfl (sMi rfl rfl rfl rfl (sR rfl rfl (d_iaB rfl (H.rowrd (A := A2)) rfl rfl (q := k - 1) (by omega) (by omega) tu35 ts5) (sR rfl rfl (d_ldB rfl (H.rowrd (A := A2)) ((l_get (by omega))) rfl ta5) (sR rfl rfl (d_conv rfl rfl (by rw [tu5]; rfl) tu104 (IntWalk.u64_in _ (by have := (b.getD (k - 1) 0).toNat_lt; omega))) ?_)))))))
  refine sR rfl rfl (d_addW rfl rfl rfl hst.2) (sAi rfl rfl rfl rfl (l_nil (k_nil (b_end (k_region (sMi rfl rfl rfl rfl (sR rfl rfl (d_sub rfl rfl rfl (by omega)) (sAi rfl rfl rfl rfl (l_nil (k_nil ?_))))))))))
  refine k_next ?_
  refine ⟨_, _, _, ?_, rfl, ?_, ?_, ⟨k - 1, rfl, rfl, by omega, H⟩⟩
  ·omega
  ·repeat (first | (with_reducible refine .updl _ .ovr ?_); exact rfl | (with_reducible refine .updl _ (.ovr2 ?_ ?_) ?_); rotate_left; exact rfl; exact rfl | (with_reducible refine .upd ?_ ?_); rotate_left; exact rfl)
  ·refine ⟨?_, ?_, trivial⟩
   ·exact vi (by omega)
   ·exact rfl
 ·first | (replace hc35 := of_decide_eq_false hc35) | simp at hc35
  refine k_exit (x_then (x_then ?_))
  refine x_hit (k_seq (k_seq ?_))
  obtain rfl : k = 0 := by omega
  rw [List.drop_zero]
  obtain ⟨a, hbk, ha, hsa⟩ := H.get (f := RefR 124 r A c cur s2)
  replace H := H.turn (f := RefR 124 r A c cur s2) (f' := Fact.blk r [.slice A cur.length c, .int .i64 (a : Int), .int .i64 s2.2] 124) Fr.refl hbk (fun g h => .inl h)
  clear hbk
  refine k_region (sMp rfl rfl rfl rfl (sR rfl rfl (d_nil rfl rfl) (sR rfl rfl (d_fa rfl rfl tf124_2) (sR rfl rfl (d_ld rfl H rfl ta42 rfl) (sR rfl rfl (d_eq rfl rfl rfl) (sR rfl rfl (mv_bx (c := true) rfl rfl (by simpa using he)) ?_))))))
  refine s_run (w_g rfl rfl rfl rfl) rfl (mv_i rfl rfl) (s_run (w_g rfl rfl rfl rfl) rfl (d_ge rfl rfl rfl) (sR rfl rfl (d_pickT rfl rfl rfl) (l_nil (k_condF rfl (by simp; omega) (k_skip (k_seq (k_seq (k_region (sMp rfl rfl rfl rfl (sR rfl rfl (d_nil rfl rfl) ?_))))))))))
  refine sR rfl rfl (d_fa rfl rfl tf124_2) (sR rfl rfl (d_ld rfl H rfl ta42 rfl) (sR rfl rfl (d_eq rfl rfl rfl) (sR rfl rfl (mv_bx (c := true) rfl rfl (by simpa using he)) ?_)))
  refine s_run (w_g rfl rfl rfl rfl) rfl (mv_i rfl rfl) (s_run (w_g rfl rfl rfl rfl) rfl (d_conv rfl rfl (by rw [tu104]; rfl) tu3 (IntWalk.i64_in _ (by omega))) ?_)
  refine s_eff (e_call (w_g rfl rfl rfl rfl) rfl rfl Tryz.func47 rfl rfl rfl (refInt _ _ (Bs.nil (S := fun _ => True)) (by omega) (by simp)) ?_)
  rintro _ W ⟨A4, c4, rfl, hc4, hd4, hn⟩
  replace H := H.new hn
  clear hn
  have hlen : ([] ++ Pk.int (Pk.toU (Pk.ofLe b : Int))) = Pk.int (Pk.ofLe b) := by rw [Pk.toU_pos _ (by omega) (by omega), Int.toNat_natCast]; rfl
  have hform : (([] ++ Pk.int (Pk.toU (Pk.ofLe b : Int))).length : Int) ≠ 1 + (Pk.wide b0 : Int) ↔ Pk.ofLe b < Pk.least b0 := by
   rw [hlen, ← Pk.int_len hw (by rw [← hbl]; exact Pk.ofLe_lt b)]; omega
  refine s_run (w_g rfl rfl rfl rfl) rfl (d_len rfl rfl tu35) (s_run (w_g rfl rfl rfl rfl) rfl (mv_i rfl rfl) (s_run (w_g rfl rfl rfl rfl) rfl (d_add rfl rfl rfl (by omega)) (s_run (w_g rfl rfl rfl rfl) rfl (d_ne rfl rfl rfl) (sR rfl rfl (d_pickT rfl rfl rfl) (l_nil (k_condF rfl (by simp only [bne_eq_false_iff_eq]; exact Classical.not_not.1 (fun h => hf (hform.1 h))) ?_))))))
  refine k_skip (k_seq (k_seq (k_region (sMp rfl rfl rfl rfl (sR rfl rfl (d_nil rfl rfl) (sR rfl rfl (d_fa rfl rfl tf124_2) (sR rfl rfl (d_ld rfl H rfl ta42 rfl) (sR rfl rfl (d_ne rfl rfl rfl) (l_nil (k_condF rfl (by simpa using he) ?_))))))))))
  refine k_skip (k_seq (k_region (sMi rfl rfl rfl rfl (sR rfl rfl (d_conv rfl rfl (by rw [tu104]; rfl) tu3 (IntWalk.i64_in _ (by omega))) ?_))))
  refine sAi rfl rfl rfl rfl (l_nil (k_ret ?_))
  repeat (first | refine r_then ?_ | refine r_blk ?_)
  have e : Pk.rInt s = (Pk.ofLe b, s2) := by unfold Pk.rInt; rw [h1]; simp only [hw, if_false, h2, he, ne_eq, not_true_eq_false]; unfold Pk.num; rw [if_neg (by omega), if_neg hf]
  rw [e]
  exact q_ret (v := .int _ _) rfl rfl ⟨_, rfl, H.valP (s' := s2) rfl ha rfl hsa⟩

theorem Pk.next_eq {n : Nat} {s s' : RS} {b : List UInt8} (h : Pk.next n s = (b, s')) : (s'.2 = 0 → b.length = n) ∧ (s'.2 ≠ 0 → b.length = 0) := by
 unfold Pk.next at h
 split at h
 ·rename_i he; cases h; exact ⟨fun h => absurd h he, fun _ => rfl⟩
 ·split at h
  ·cases h; exact ⟨fun h => absurd h (by decide), fun _ => rfl⟩
  ·cases h; exact ⟨fun _ => by rw [List.length_take]; omega, fun h => absurd rfl h⟩
theorem refRdInt {S : Nat → Prop} {r c : Nat} {A : Option Addr} {cur : List UInt8} {s : RS} (w : World) (hR : (RefR 124 r A c cur s).p w) (hok : Pk.Ok s) (hB : Bs w S (.slice A cur.length c) cur) (hS : ∀ g, S g → ¬ g = r) (hl : cur.length ≤ 1000000000000) : Calls Tryz.prog 108 [.pointer (some ⟨r, 0, none⟩)].toArray w (Ret (ValP 124 r A c cur w (.int .i64 ((Pk.rInt s).1 : Int)) (Pk.rInt s).2)) := by
 rcases h1 : Pk.next 1 s with ⟨l, s1⟩
 have hl1 := Pk.next_len (n := 1) (s := s)
 rw [h1] at hl1
 match l, h1, hl1 with
 | [], h1, _ => exact refRdIntA w hR hok hB hS hl h1
 | b0 :: b1 :: _, _, hl1 => simp at hl1
 | [b0], h1, _ =>
  by_cases hw : Pk.wide b0 = 0
  ·exact refRdIntC w hR hok hB hS hl h1 hw
  ·rcases h2 : Pk.next (Pk.wide b0) s1 with ⟨b, s2⟩
   have hn := Pk.next_eq h2
   by_cases he : s2.2 = 0
   ·rcases Nat.lt_or_ge (Pk.ofLe b) 9223372036854775808 with hu | hu
    ·by_cases hf : Pk.ofLe b < Pk.least b0
     ·exact refRdIntF w hR hok hB hS hl h1 hw h2 he (hn.1 he) hu hf
     ·exact refRdIntG w hR hok hB hS hl h1 hw h2 he (hn.1 he) hu hf
    ·exact refRdIntE w hR hok hB hS hl h1 hw h2 he (hn.1 he) hu
   ·exact refRdIntD w hR hok hB hS hl h1 hw h2 he (hn.2 he)

theorem refRdCountA {S : Nat → Prop} {r c : Nat} {A : Option Addr} {cur : List UInt8} {s : RS} (w : World) {m : Int} {u : Nat} {s1 : RS} (hR : (RefR 124 r A c cur s).p w) (hok : Pk.Ok s) (hB : Bs w S (.slice A cur.length c) cur) (hS : ∀ g, S g → ¬ g = r) (hl : cur.length ≤ 1000000000000) (hx : Pk.rInt s = (u, s1)) (he : s1.2 ≠ 0) : Calls Tryz.prog 106 [.pointer (some ⟨r, 0, none⟩), .int .i64 m].toArray w (Ret (ValP 124 r A c cur w (.int .i64 ((Pk.rCount m s).1 : Int)) (Pk.rCount m s).2)) := by
 refine k_enter (l := [_, _]) Tryz.func106 rfl rfl ?_
 have H := St.begin (f := RefR 124 r A c cur s) hR (fun g hg => by cases hg; exact refR_lt hR)
 refine k_seq (k_region (sAi rfl rfl rfl rfl (l_nil (k_seq (k_region (sMp rfl rfl rfl rfl (sC rfl rfl rfl Tryz.func108 rfl rfl rfl (refRdInt _ (H.get (f := RefR 124 r A c cur s)) hok (H.bsT hB hS) hS hl) ?_)))))))
 rw [hx]
 rintro _ W ⟨rfl, hp1, hf1⟩
 replace H := H.mut (f := RefR 124 r A c cur s) (f' := RefR 124 r A c cur s1) hf1 hp1 (fun _ h => h)
 clear hp1 hf1
 obtain ⟨a, hbk, ha, hsa⟩ := H.get (f := RefR 124 r A c cur s1)
 replace H := H.turn (f := RefR 124 r A c cur s1) (f' := Fact.blk r [.slice A cur.length c, .int .i64 (a : Int), .int .i64 s1.2] 124) Fr.refl hbk (fun g h => .inl h)
 clear hbk
 refine sAi rfl rfl rfl rfl (l_nil (k_seq (k_seq (k_region (sMp rfl rfl rfl rfl (sR rfl rfl (d_nil rfl rfl) (sR rfl rfl (d_fa rfl rfl tf124_2) (sR rfl rfl (d_ld rfl H rfl ta42 rfl) (sR rfl rfl (d_eq rfl rfl rfl) (sR rfl rfl (mv_bx (c := false) rfl rfl (by simpa using he)) ?_))))))))))
 refine s_skip (w_gno rfl rfl rfl rfl rfl) rfl (s_skip (w_gno rfl rfl rfl rfl rfl) rfl (s_skip (w_gno rfl rfl rfl rfl rfl) rfl (sR rfl rfl (d_pickF rfl rfl rfl) (l_nil (k_condF rfl (by first | (simp; done) | (simp; omega)) ?_)))))
 refine k_skip (k_seq (k_seq (k_region (sMp rfl rfl rfl rfl (sR rfl rfl (d_nil rfl rfl) (sR rfl rfl (d_fa rfl rfl tf124_2) (sR rfl rfl (d_ld rfl H rfl ta42 rfl) (sR rfl rfl (d_ne rfl rfl rfl) (l_nil (k_condT rfl (by simpa using he) ?_))))))))))
 refine k_seq (k_region (sAi rfl rfl rfl rfl (l_nil (k_ret ?_))))
 repeat (first | refine r_then ?_ | refine r_blk ?_)
 have hu := Pk.rInt_bad (s := s) (by rw [hx]; exact he)
 rw [hx] at hu
 obtain rfl : u = 0 := hu
 have e : Pk.rCount m s = (0, s1) := by unfold Pk.rCount; rw [hx, if_neg (fun h => he h.1)]
 rw [e]
 exact q_ret (v := .int _ _) rfl rfl ⟨_, rfl, H.valP (s' := s1) rfl ha rfl hsa⟩

theorem refRdCountB {S : Nat → Prop} {r c : Nat} {A : Option Addr} {cur : List UInt8} {s : RS} (w : World) {m : Int} {u : Nat} {s1 : RS} (hR : (RefR 124 r A c cur s).p w) (hok : Pk.Ok s) (hB : Bs w S (.slice A cur.length c) cur) (hS : ∀ g, S g → ¬ g = r) (hl : cur.length ≤ 1000000000000) (hx : Pk.rInt s = (u, s1)) (he : s1.2 = 0) (hm : m < (u : Int)) : Calls Tryz.prog 106 [.pointer (some ⟨r, 0, none⟩), .int .i64 m].toArray w (Ret (ValP 124 r A c cur w (.int .i64 ((Pk.rCount m s).1 : Int)) (Pk.rCount m s).2)) := by
 refine k_enter (l := [_, _]) Tryz.func106 rfl rfl ?_
 have H := St.begin (f := RefR 124 r A c cur s) hR (fun g hg => by cases hg; exact refR_lt hR)
 refine k_seq (k_region (sAi rfl rfl rfl rfl (l_nil (k_seq (k_region (sMp rfl rfl rfl rfl (sC rfl rfl rfl Tryz.func108 rfl rfl rfl (refRdInt _ (H.get (f := RefR 124 r A c cur s)) hok (H.bsT hB hS) hS hl) ?_)))))))
 rw [hx]
 rintro _ W ⟨rfl, hp1, hf1⟩
 replace H := H.mut (f := RefR 124 r A c cur s) (f' := RefR 124 r A c cur s1) hf1 hp1 (fun _ h => h)
 clear hp1 hf1
 obtain ⟨a, hbk, ha, hsa⟩ := H.get (f := RefR 124 r A c cur s1)
 replace H := H.turn (f := RefR 124 r A c cur s1) (f' := Fact.blk r [.slice A cur.length c, .int .i64 (a : Int), .int .i64 s1.2] 124) Fr.refl hbk (fun g h => .inl h)
 clear hbk
 refine sAi rfl rfl rfl rfl (l_nil (k_seq (k_seq (k_region (sMp rfl rfl rfl rfl (sR rfl rfl (d_nil rfl rfl) (sR rfl rfl (d_fa rfl rfl tf124_2) (sR rfl rfl (d_ld rfl H rfl ta42 rfl) (sR rfl rfl (d_eq rfl rfl rfl) (sR rfl rfl (mv_bx (c := true) rfl rfl (by simpa using he)) ?_))))))))))
 refine s_run (w_g rfl rfl rfl rfl) rfl (mv_i rfl rfl) (s_run (w_g rfl rfl rfl rfl) rfl (mv_i rfl rfl) (s_run (w_g rfl rfl rfl rfl) rfl (d_gt rfl rfl rfl) (sR rfl rfl (d_pickT rfl rfl rfl) (l_nil (k_condT rfl (by simp; omega) (k_region (sMp rfl rfl rfl rfl (sR rfl rfl (d_nil rfl rfl) (sR rfl rfl (d_fa rfl rfl tf124_2) (s_eff (e_sto (w_none rfl) rfl rfl rfl rfl rfl ts42 rfl H rfl ?_)))))))))))
 clear H; intro W H
 refine l_nil (k_seq (k_seq (k_region (sMp rfl rfl rfl rfl (sR rfl rfl (d_nil rfl rfl) (sR rfl rfl (d_fa rfl rfl tf124_2) (sR rfl rfl (d_ld rfl H rfl ta42 rfl) (sR rfl rfl (d_ne rfl rfl rfl) (l_nil (k_condT rfl (by decide) ?_))))))))))
 refine k_seq (k_region (sAi rfl rfl rfl rfl (l_nil (k_ret ?_))))
 repeat (first | refine r_then ?_ | refine r_blk ?_)
 have e : Pk.rCount m s = (0, ([], 3)) := by unfold Pk.rCount; rw [hx, if_pos ⟨he, hm⟩]
 rw [e]
 exact q_ret (v := .int _ _) rfl rfl ⟨_, rfl, H.valP (s' := ([], 3)) rfl ha rfl rfl⟩

theorem refRdCountC {S : Nat → Prop} {r c : Nat} {A : Option Addr} {cur : List UInt8} {s : RS} (w : World) {m : Int} {u : Nat} {s1 : RS} (hR : (RefR 124 r A c cur s).p w) (hok : Pk.Ok s) (hB : Bs w S (.slice A cur.length c) cur) (hS : ∀ g, S g → ¬ g = r) (hl : cur.length ≤ 1000000000000) (hx : Pk.rInt s = (u, s1)) (he : s1.2 = 0) (hm : ¬ m < (u : Int)) : Calls Tryz.prog 106 [.pointer (some ⟨r, 0, none⟩), .int .i64 m].toArray w (Ret (ValP 124 r A c cur w (.int .i64 ((Pk.rCount m s).1 : Int)) (Pk.rCount m s).2)) := by
 refine k_enter (l := [_, _]) Tryz.func106 rfl rfl ?_
 have H := St.begin (f := RefR 124 r A c cur s) hR (fun g hg => by cases hg; exact refR_lt hR)
 refine k_seq (k_region (sAi rfl rfl rfl rfl (l_nil (k_seq (k_region (sMp rfl rfl rfl rfl (sC rfl rfl rfl Tryz.func108 rfl rfl rfl (refRdInt _ (H.get (f := RefR 124 r A c cur s)) hok (H.bsT hB hS) hS hl) ?_)))))))
 rw [hx]
 rintro _ W ⟨rfl, hp1, hf1⟩
 replace H := H.mut (f := RefR 124 r A c cur s) (f' := RefR 124 r A c cur s1) hf1 hp1 (fun _ h => h)
 clear hp1 hf1
 obtain ⟨a, hbk, ha, hsa⟩ := H.get (f := RefR 124 r A c cur s1)
 replace H := H.turn (f := RefR 124 r A c cur s1) (f' := Fact.blk r [.slice A cur.length c, .int .i64 (a : Int), .int .i64 s1.2] 124) Fr.refl hbk (fun g h => .inl h)
 clear hbk
 refine sAi rfl rfl rfl rfl (l_nil (k_seq (k_seq (k_region (sMp rfl rfl rfl rfl (sR rfl rfl (d_nil rfl rfl) (sR rfl rfl (d_fa rfl rfl tf124_2) (sR rfl rfl (d_ld rfl H rfl ta42 rfl) (sR rfl rfl (d_eq rfl rfl rfl) (sR rfl rfl (mv_bx (c := true) rfl rfl (by simpa using he)) ?_))))))))))
 refine s_run (w_g rfl rfl rfl rfl) rfl (mv_i rfl rfl) (s_run (w_g rfl rfl rfl rfl) rfl (mv_i rfl rfl) (s_run (w_g rfl rfl rfl rfl) rfl (d_gt rfl rfl rfl) (sR rfl rfl (d_pickT rfl rfl rfl) (l_nil (k_condF rfl (by simp; omega) (k_skip (k_seq (k_seq (k_region (sMp rfl rfl rfl rfl ?_))))))))))
 refine sR rfl rfl (d_nil rfl rfl) (sR rfl rfl (d_fa rfl rfl tf124_2) (sR rfl rfl (d_ld rfl H rfl ta42 rfl) (sR rfl rfl (d_ne rfl rfl rfl) (l_nil (k_condF rfl (by simpa using he) ?_)))))
 refine k_skip (k_seq (k_region (sMi rfl rfl rfl rfl (sAi rfl rfl rfl rfl (l_nil (k_ret ?_))))))
 repeat (first | refine r_then ?_ | refine r_blk ?_)
 have e : Pk.rCount m s = (u, s1) := by unfold Pk.rCount; rw [hx, if_neg (fun h => hm h.2)]
 rw [e]
 exact q_ret (v := .int _ _) rfl rfl ⟨_, rfl, H.valP (s' := s1) rfl ha rfl hsa⟩

theorem refRdCount {S : Nat → Prop} {r c : Nat} {A : Option Addr} {cur : List UInt8} {s : RS} (w : World) {m : Int} (hR : (RefR 124 r A c cur s).p w) (hok : Pk.Ok s) (hB : Bs w S (.slice A cur.length c) cur) (hS : ∀ g, S g → ¬ g = r) (hl : cur.length ≤ 1000000000000) : Calls Tryz.prog 106 [.pointer (some ⟨r, 0, none⟩), .int .i64 m].toArray w (Ret (ValP 124 r A c cur w (.int .i64 ((Pk.rCount m s).1 : Int)) (Pk.rCount m s).2)) := by
 rcases hx : Pk.rInt s with ⟨u, s1⟩
 by_cases he : s1.2 = 0
 ·by_cases hm : m < (u : Int)
  ·exact refRdCountB w hR hok hB hS hl hx he hm
  ·exact refRdCountC w hR hok hB hS hl hx he hm
 ·exact refRdCountA w hR hok hB hS hl hx he

theorem refRdBlob {S : Nat → Prop} {r c : Nat} {A : Option Addr} {cur : List UInt8} {s : RS} (w : World) {m : Int} (hR : (RefR 124 r A c cur s).p w) (hok : Pk.Ok s) (hB : Bs w S (.slice A cur.length c) cur) (hS : ∀ g, S g → ¬ g = r) (hl : cur.length ≤ 1000000000000) : Calls Tryz.prog 109 [.pointer (some ⟨r, 0, none⟩), .int .i64 m].toArray w (Ret (NextP 5 124 r A c cur w (Pk.rBlob m s).1 (Pk.rBlob m s).2)) := by
 refine k_enter (l := [_, _]) Tryz.func109 rfl rfl ?_
 have H := St.begin (f := RefR 124 r A c cur s) hR (fun g hg => by cases hg; exact refR_lt hR)
 refine k_seq (k_region (sAs rfl rfl rfl rfl (l_nil (k_seq (k_region (sMp rfl rfl rfl rfl (sMp rfl rfl rfl rfl (sMi rfl rfl rfl rfl (sC rfl rfl rfl Tryz.func106 rfl rfl rfl (refRdCount _ (H.get (f := RefR 124 r A c cur s)) hok (H.bsT hB hS) hS hl) ?_)))))))))
 rintro _ W ⟨rfl, hp1, hf1⟩
 replace H := H.mut (f := RefR 124 r A c cur s) (f' := RefR 124 r A c cur (Pk.rCount m s).2) hf1 hp1 (fun _ h => h)
 clear hp1 hf1
 have hlt := Pk.rCount_lt (m := m) (s := s)
 refine sC rfl rfl rfl Tryz.func125 rfl rfl rfl (refNext (n := (Pk.rCount m s).1) _ (by rfl) (by omega) (H.get (f := RefR 124 r A c cur (Pk.rCount m s).2)) (Pk.ok_rCount hok) (H.bsT hB hS) hS hl) ?_
 rintro _ W ⟨⟨A2, c2, rfl, hc2, hd2, ho2, hf2, hfr2⟩, hr2⟩
 replace H := H.mutnew (f := RefR 124 r A c cur (Pk.rCount m s).2) (f' := RefR 124 r A c cur (Pk.rBlob m s).2) (fn := Fact.row 5 1 (.slice A2 (Pk.rBlob m s).1.length c2) (Pk.rBlob m s).1.length _) hfr2 hr2 (fun _ h => h) ho2 hf2
 clear hfr2 hr2 ho2 hf2
 refine sAs rfl rfl rfl rfl (l_nil (k_ret ?_))
 repeat (first | refine r_then ?_ | refine r_blk ?_)
 exact q_ret (v := .slice _ _ _) rfl rfl ⟨_, rfl, H.nextP' (l := (Pk.rBlob m s).1) (s' := (Pk.rBlob m s).2) hc2 hd2⟩

theorem refRdHash0 {S : Nat → Prop} {r c : Nat} {A : Option Addr} {cur : List UInt8} {s : RS} (w : World) {b : List UInt8} {s1 : RS} (hR : (RefR 124 r A c cur s).p w) (hok : Pk.Ok s) (hB : Bs w S (.slice A cur.length c) cur) (hS : ∀ g, S g → ¬ g = r) (hl : cur.length ≤ 1000000000000) (hx : Pk.next 32 s = (b, s1)) (hbl : b.length ≤ 32) : Calls Tryz.prog 107 [.pointer (some ⟨r, 0, none⟩)].toArray w (Ret (ValP 124 r A c cur w (.agg ((Pk.full 32 b).map u8v).toArray) s1)) := by
 refine k_enter (l := [_]) Tryz.func107 rfl rfl ?_
 have H := St.begin (f := RefR 124 r A c cur s) hR (fun g hg => by cases hg; exact refR_lt hR)
 refine k_seq (k_region (s_eff (e_alloc (w_none rfl) rfl rfl (hz 32 0 b) (by rw [hz_zero]; exact tz29) H ?_)))
 clear H; intro g0_0 W H
 refine l_nil (k_seq (k_region (sMp rfl rfl rfl rfl (sC rfl rfl rfl Tryz.func125 rfl rfl rfl (refNextE _ hx (by rfl) (by omega) (H.get (f := RefR 124 r A c cur s)) hok (H.bsT hB hS) hS hl) ?_))))
 rintro _ W ⟨⟨A1, c1, rfl, hc1, hd1, ho1, hf1, hfr1⟩, hr1⟩
 replace H := H.mutnew (f := RefR 124 r A c cur s) (f' := RefR 124 r A c cur s1) (fn := Fact.row 5 1 (.slice A1 b.length c1) b.length _) hfr1 hr1 (fun _ h => h) ho1 hf1
 clear hfr1 hr1 ho1 hf1
 refine sAs rfl rfl rfl rfl (l_nil (k_seq (k_region (s_eff (e_alloc (w_none rfl) rfl rfl (hz 32 0 b) (by rw [hz_zero]; exact tz29) H ?_)))))
 clear H; intro g2_0 W H
 refine l_nil (k_seq (k_seq (k_region (sAi rfl rfl rfl rfl (l_nil (k_block (k_loop 8 [5] (fun mm sl W => ∃ k : Nat, b.length - k = mm ∧ sl = [(5, .int .i64 (k : Int))] ∧ (k ≤ b.length) ∧ St (· = r) w W [Fact.blk g2_0 (hz 32 k b) 29, Fact.row 5 1 (.slice A1 b.length c1) b.length (b.map u8v), Fact.blk g0_0 (hz 32 0 b) 29, RefR 124 r A c cur s1]) _ _ ⟨0, rfl, rfl, Nat.zero_le _, H⟩ ⟨rfl, trivial⟩ (fun mm sl ρv W hJ => ?_))))))))
 clear H; obtain ⟨k, rfl, rfl, hk, H⟩ := hJ
 refine k_one (k_seq (k_seq (k_region (sMi rfl rfl rfl rfl (sMs rfl rfl rfl rfl (sR rfl rfl (d_len rfl rfl tu35) (sR rfl rfl (d_lt rfl rfl rfl) (l_nil (k_cond rfl (fun hc11 => ?_) (fun hc11 => ?_))))))))))
 ·first | (replace hc11 := of_decide_eq_true hc11) | simp at hc11
  refine k_skip (k_seq (k_block (k_region (sMi rfl rfl rfl rfl (sMs rfl rfl rfl rfl (sMi rfl rfl rfl rfl (sR rfl rfl (d_iaB rfl (H.rowrd (A := A1)) rfl rfl (q := k) (by omega) (by omega) tu35 ts5) (sR rfl rfl (d_ldB rfl (H.rowrd (A := A1)) ((l_get (by omega))) rfl ta5) (sR rfl rfl (d_iaA rfl rfl rfl (q := k) (by omega) tu29 (by omega) ts5) (s_eff (e_stoK (hz 32 (k + 1) b) (w_none rfl) rfl rfl rfl rfl rfl ts5 rfl rfl H (by rw [len_hz hbl]; omega) ((congrArg (fun j => spl _ j _) (by omega)).trans (hz_step (k := k) (by omega) hbl)) ?_)))))))))))
  clear H; intro W H
  refine l_nil (k_nil (b_end (k_region (sMi rfl rfl rfl rfl (sR rfl rfl (d_add rfl rfl rfl (by omega)) (sAi rfl rfl rfl rfl (l_nil (k_nil (k_next ?_)))))))))
  refine ⟨_, _, _, ?_, rfl, ?_, ?_, ⟨k + 1, rfl, rfl, by omega, H⟩⟩
  ·omega
  ·repeat (first | (with_reducible refine .updl _ .ovr ?_); exact rfl | (with_reducible refine .updl _ (.ovr2 ?_ ?_) ?_); rotate_left; exact rfl; exact rfl | (with_reducible refine .upd ?_ ?_); rotate_left; exact rfl)
  ·refine ⟨?_, trivial⟩
   ·exact vi (by omega)
 ·first | (replace hc11 := of_decide_eq_false hc11) | simp at hc11
  refine k_exit (x_then (x_then ?_))
  refine x_hit (k_seq ?_)
  obtain rfl : k = b.length := by omega
  refine k_region (sR rfl rfl (d_ldm0 rfl H rfl ta29 ts29 (len_hz hbl)) (s_eff (e_stoK (hz 32 b.length b) (w_none rfl) rfl rfl rfl rfl rfl ts29 (len_hz hbl) (by unfold hz; exact all_u8L _) H (by have := len_hz (k := 0) hbl; omega) (spl_all (by rw [len_hz hbl, len_hz hbl])) ?_)))
  clear H; intro W H
  refine l_nil (k_ret ?_)
  repeat (first | refine r_then ?_ | refine r_blk ?_)
  rw [← hz_end]
  exact q_retc (g := g0_0) (t' := 29) rfl H rfl ta29 (by rw [len_hz hbl]; exact ts29) ⟨_, rfl, H.valP'⟩

theorem refRdHash {S : Nat → Prop} {r c : Nat} {A : Option Addr} {cur : List UInt8} {s : RS} (w : World) (hR : (RefR 124 r A c cur s).p w) (hok : Pk.Ok s) (hB : Bs w S (.slice A cur.length c) cur) (hS : ∀ g, S g → ¬ g = r) (hl : cur.length ≤ 1000000000000) : Calls Tryz.prog 107 [.pointer (some ⟨r, 0, none⟩)].toArray w (Ret (ValP 124 r A c cur w (.agg ((Pk.rBytes 32 s).1.map u8v).toArray) (Pk.rBytes 32 s).2)) :=
 refRdHash0 w hR hok hB hS hl rfl Pk.next_len

theorem refRead {S : Nat → Prop} {v : Value} {l : List UInt8} (w : World) (hB : Bs w S v l) (hl : l.length ≤ 1000000000000) : Calls Tryz.prog 78 [v].toArray w (Ret (fun v w' => ∃ r A c, v = .pointer (some ⟨r, 0, none⟩) ∧ l.length ≤ c ∧ c ≤ 9223372036854775807 ∧ St nT w w' [RefR 124 r A c l (l, 0), Fact.row 5 1 (.slice A l.length c) l.length (l.map u8v)])) := by
 obtain ⟨_, _, rfl, hcc, _, _⟩ := hB.op
 refine k_enter (l := [_]) Tryz.func78 rfl rfl ?_
 have H := St.start nT w
 refine k_seq (k_region (sR rfl rfl (as_p rfl rfl) (l_nil (k_seq (k_region (sMs rfl rfl rfl rfl (sC rfl rfl rfl Tryz.func10 rfl rfl rfl (copyBytes _ _ _ (H.bs hB) (by omega)) ?_)))))))
 rintro _ W ⟨A1, c1, rfl, hc1, hd1, hn⟩
 replace H := H.new hn
 clear hn
 refine sR rfl rfl (d_build (vs := [.slice A1 l.length c1, .int .i64 0, .int .i64 0]) rfl (by kernel_rfl)) ?_
 refine s_eff (e_box (w_none rfl) rfl rfl rfl rfl H ?_)
 clear H; intro g1_3 W H
 refine sR rfl rfl (as_p rfl rfl) (l_nil (k_ret ?_))
 repeat (first | refine r_then ?_ | refine r_blk ?_)
 exact q_ret (v := .pointer _) rfl rfl ⟨_, rfl, g1_3, A1, c1, rfl, hc1, hd1, H.turn (f := Fact.blk g1_3 [.slice A1 l.length c1, .int .i64 0, .int .i64 0] 124) (f' := RefR 124 g1_3 A1 c1 l (l, 0)) Fr.refl ⟨0, H.blk, Nat.zero_le _, rfl⟩ (fun g h => .inl h)⟩
end Go.Proofs.YteakkflhndifbaaGreatDoor

namespace Go.Proofs.YteakkflhndifbaaGreatDoor
open Go Go.RowKit
attribute [local irreducible] wpList

def why (k : Int) : Value := .iface 129 (.agg [.int .i64 k].toArray)
theorem mustOk {b : Bool} (z : Int) (w : World) (hb : b = true) : Calls Tryz.prog 118 [.bool b, .int .i64 z].toArray w (Ret (Is w (.tuple #[]))) := by
 subst hb
 refine k_enter (l := [_, _]) Tryz.func118 rfl rfl ?_
 have H := St.start nT w
 refine k_seq (k_region (sR rfl rfl (mv_b rfl rfl) (sR rfl rfl (d_not rfl rfl) (l_nil (k_condF rfl (by first | (simp; done) | (simp; omega)) ?_)))))
 exact k_skip (k_nil (q_end0 rfl ⟨_, rfl, rfl, H.under⟩))

theorem mustBad {b : Bool} (z : Int) (w : World) (hb : b = false) : Calls Tryz.prog 118 [.bool b, .int .i64 z].toArray w (Pan (why z) (fun w' => Below w.heap.size w w')) := by
 subst hb
 refine k_enter (l := [_, _]) Tryz.func118 rfl rfl ?_
 have H := St.start nT w
 refine k_seq (k_region (sR rfl rfl (mv_b rfl rfl) (sR rfl rfl (d_not rfl rfl) (l_nil (k_condT rfl (by first | (simp; done) | (simp; omega)) ?_)))))
 refine k_region (sMi rfl rfl rfl rfl (sR rfl rfl (d_build (vs := [.int .i64 z]) rfl (by kernel_rfl)) ?_))
 refine sR rfl rfl (d_mkiface (v := .agg [.int .i64 z].toArray) rfl rfl (by kernel_rfl)) ?_
 refine s_eff (e_panic (w_none rfl) rfl rfl ?_)
 exact ⟨rfl, rfl, H.under⟩

theorem clone {S : Nat → Prop} {v : Value} {l : List UInt8} (w : World) (hB : Bs w S v l) (hl : l.length ≤ 1000000000000) : Calls Tryz.prog 95 [v].toArray w (Ret (NewB 5 w l)) := by
 obtain ⟨A, c, rfl, hcc, hcm, hrd⟩ := hB.op
 refine k_enter (l := [_]) Tryz.func95 rfl rfl ?_
 have H := St.start nT w
 refine k_seq (k_region (sAs rfl rfl rfl rfl (l_nil (k_seq (k_seq (k_region (sMs rfl rfl rfl rfl (sR rfl rfl (d_eqnil rfl rfl rfl tu35) (l_nil (k_cond rfl (fun hc4 => ?_) (fun hc4 => ?_)))))))))))
 ·skip
  refine k_seq (k_region (sAs rfl rfl rfl rfl (l_nil (k_ret ?_))))
  repeat (first | refine r_then ?_ | refine r_blk ?_)
  obtain rfl : l = [] := by
   rcases Nat.eq_zero_or_pos l.length with h | h
   ·exact List.eq_nil_of_length_eq_zero h
   ·obtain ⟨g, o, rfl, _⟩ := hrd.2 h
    simp at hc4
  replace H := H.nilrow 5 1
  exact q_ret (v := .slice _ _ _) rfl rfl ⟨_, rfl, H.newB (l := []) (by rfl) (by rfl) (Nat.le_refl _) (by omega)⟩
 ·skip
  refine k_skip (k_seq (k_region (s_eff (e_bsl0 (w_none rfl) rfl rfl tu35 ts5 H ?_))))
  clear H; intro g3_0 W H
  refine sMs rfl rfl rfl rfl (s_eff (e_app (w_none rfl) rfl rfl tu35 tx5 rfl rfl rfl H (H.rd hrd) (all_u8L _) (by omega) rfl ?_))
  clear H; intro A1 c1 W hc1 hd1 H
  refine sAs rfl rfl rfl rfl (l_nil (k_ret ?_))
  repeat (first | refine r_then ?_ | refine r_blk ?_)
  rw [Nat.zero_add] at hc1 H ⊢
  exact q_ret (v := .slice _ _ _) rfl rfl ⟨_, rfl, H.newB (l := l) rfl rfl hc1 hd1⟩

theorem prgEnd {A0 : Option Addr} {n0 c0 r : Nat} {Y : List UInt8 → Prop} {v : Value} {b : List UInt8} {s : RS} (w : World) (hR : (RdYB 5 117 r A0 n0 c0 Y v b s).p w) : Calls Tryz.prog 76 [.pointer (some ⟨r, 0, none⟩)].toArray w (Ret (Is w (.int .i64 (Pk.rEnd s)))) := by
 obtain ⟨A, c, o, ys, h1, h2, h3, hL, hH, hY⟩ := hR
 have hG := gat_of h1
 refine k_enter (l := [_]) Tryz.func76 rfl rfl ?_
 have H := St.start nT w
 refine k_seq (k_region (sAi rfl rfl rfl rfl (l_nil (k_seq (k_seq (k_region (sMp rfl rfl rfl rfl (sR rfl rfl (d_nil rfl rfl) (sR rfl rfl (d_fa rfl rfl tf117_0) (sR rfl rfl (d_ldG rfl (H.gat hG) rfl ta35 rfl) ?_))))))))))
 refine sR rfl rfl (d_len rfl rfl tu35) (sR rfl rfl (d_gt rfl rfl rfl) (l_nil (k_cond rfl (fun hc8 => ?_) (fun hc8 => ?_))))
 ·first | (replace hc8 := of_decide_eq_true hc8) | simp at hc8
  refine k_seq (k_region (sAi rfl rfl rfl rfl (l_nil (k_ret ?_))))
  repeat (first | refine r_then ?_ | refine r_blk ?_)
  exact q_ret (v := .int _ _) rfl rfl ⟨_, rfl, vi (by rw [Pk.rEnd, if_pos (by omega)]), H.under⟩
 ·first | (replace hc8 := of_decide_eq_false hc8) | simp at hc8
  refine k_skip (k_seq (k_region (sMp rfl rfl rfl rfl (sR rfl rfl (d_nil rfl rfl) (sR rfl rfl (d_fa rfl rfl tf117_1) (sR rfl rfl (d_ldG rfl (H.gat hG) rfl ta42 rfl) (sAi rfl rfl rfl rfl (l_nil (k_ret ?_)))))))))
  repeat (first | refine r_then ?_ | refine r_blk ?_)
  exact q_ret (v := .int _ _) rfl rfl ⟨_, rfl, vi (by rw [Pk.rEnd, if_neg (by omega)]), H.under⟩

theorem takeOk {A0 : Option Addr} {n0 c0 r : Nat} {Y : List UInt8 → Prop} {v : Value} {b : List UInt8} {s : RS} (w : World) {n : Nat} {z : Int} (hz : z = (n : Int)) (hR : (RdYB 5 117 r A0 n0 c0 Y v b s).p w) (he : s.2 = 0) (hn : n ≤ s.1.length) : Calls Tryz.prog 99 [.pointer (some ⟨r, 0, none⟩), .int .i64 z].toArray w (Ret (fun v' w' => (RdYB 5 117 r A0 n0 c0 Y v' (s.1.take n) (s.1.drop n, 0)).p w' ∧ Fr (RdT r A0 n0 c0) w w')) := by
 subst hz
 have hR0 := hR
 have hne := RdB.ne hR
 have hrow : A0 = none ∨ ∃ g, A0 = some ⟨g, 0, none⟩ := by
  obtain ⟨_, _, _, _, _, h, _⟩ := hR
  exact row_addr h
 obtain ⟨A, c, o, ys, hY, hL, hH, hn0, hc0, H0⟩ := RdB.two hR
 refine k_enter (l := [_, _]) Tryz.func99 rfl rfl ?_
 have H := H0
 refine k_seq (k_region (sAs rfl rfl rfl rfl (l_nil (k_seq ?_))))
 have hlc : s.1.length ≤ c := hL.2.2.1
 refine k_region (sMi rfl rfl rfl rfl (sMp rfl rfl rfl rfl (sR rfl rfl (d_nil rfl rfl) (sR rfl rfl (d_fa rfl rfl tf117_0) (sR rfl rfl (d_ld rfl H rfl ta35 rfl) (sR rfl rfl (d_len rfl rfl tu35) (sR rfl rfl (d_le rfl rfl rfl) (sC rfl rfl rfl Tryz.func118 rfl rfl rfl (mustOk _ _ (by simp; omega)) ?_))))))))
 rintro _ W ⟨rfl, hb⟩
 replace H := H.below hb
 clear hb
 refine l_nil (k_seq (k_region (sMp rfl rfl rfl rfl (sR rfl rfl (d_nil rfl rfl) (sR rfl rfl (d_fa rfl rfl tf117_0) (sR rfl rfl (d_ld rfl H rfl ta35 rfl) (sMi rfl rfl rfl rfl (sMi rfl rfl rfl rfl (sR rfl rfl (d_cutM rfl rfl rfl (h := n) rfl rfl (by omega) rfl tu35 ts5) (sAs rfl rfl rfl rfl ?_))))))))))
 refine l_nil (k_seq (k_region (sMp rfl rfl rfl rfl (sMp rfl rfl rfl rfl (sR rfl rfl (d_nil rfl rfl) (sR rfl rfl (d_fa rfl rfl tf117_0) (sR rfl rfl (d_ld rfl H rfl ta35 rfl) (sMi rfl rfl rfl rfl (sR rfl rfl (d_cutS rfl rfl (l := n) rfl hn rfl tu35 ts5) (sR rfl rfl (d_nil rfl rfl) ?_))))))))))
 refine sR rfl rfl (d_fa rfl rfl tf117_0) (s_eff (e_sto (w_none rfl) rfl rfl rfl rfl rfl ts35 rfl H rfl ?_))
 clear H; intro W H
 refine l_nil (k_seq (k_region (sMs rfl rfl rfl rfl (sAs rfl rfl rfl rfl (l_nil (k_ret ?_))))))
 repeat (first | refine r_then ?_ | refine r_blk ?_)
 exact q_ret (v := .slice _ _ _) rfl rfl ⟨_, rfl, RdB.of (o := o + n) (ys := ys) hY H hne (by rw [List.length_drop]) he (hL.step hrow he hn) (HeldP.step hL he hn), H.fr⟩

theorem takeShort {A0 : Option Addr} {n0 c0 r : Nat} {Y : List UInt8 → Prop} {v : Value} {b : List UInt8} {s : RS} (w : World) {n : Nat} {z : Int} (hz : z = (n : Int)) (hR : (RdYB 5 117 r A0 n0 c0 Y v b s).p w) (hn : s.1.length < n) : Calls Tryz.prog 99 [.pointer (some ⟨r, 0, none⟩), .int .i64 z].toArray w (Pan (why 4) (fun w' => (RdYB 5 117 r A0 n0 c0 Y v b s).p w' ∧ Fr (RdT r A0 n0 c0) w w')) := by
 subst hz
 have hR0 := hR
 have hne := RdB.ne hR
 have hrow : A0 = none ∨ ∃ g, A0 = some ⟨g, 0, none⟩ := by
  obtain ⟨_, _, _, _, _, h, _⟩ := hR
  exact row_addr h
 obtain ⟨A, c, o, ys, hY, hL, hH, hn0, hc0, H0⟩ := RdB.two hR
 refine k_enter (l := [_, _]) Tryz.func99 rfl rfl ?_
 have H := H0
 refine k_seq (k_region (sAs rfl rfl rfl rfl (l_nil (k_seq (k_region (sMi rfl rfl rfl rfl (sMp rfl rfl rfl rfl (sR rfl rfl (d_nil rfl rfl) (sR rfl rfl (d_fa rfl rfl tf117_0) (sR rfl rfl (d_ld rfl H rfl ta35 rfl) ?_))))))))))
 refine sR rfl rfl (d_len rfl rfl tu35) (sR rfl rfl (d_le rfl rfl rfl) (s_eff (e_callP (w_none rfl) rfl Tryz.func118 rfl rfl rfl (mustBad _ _ (by simp; omega)) ?_)))
 intro W hb
 replace H := H.below hb
 exact ⟨rfl, rfl, RdB.of (o := o) (ys := ys) hY H hne rfl rfl hL hH, H.fr⟩

theorem prgReadY {S : Nat → Prop} {v : Value} {l : List UInt8} (w : World) (hB : Bs w S v l) (hl : l.length ≤ 1000000000000) : Calls Tryz.prog 66 [v].toArray w (Ret (fun v w' => ∃ r A c, v = .pointer (some ⟨r, 0, none⟩) ∧ St nT w w' [RdYP 5 117 r A l.length c (· = l) (l, 0)])) := by
 obtain ⟨_, _, rfl, hcc, _, _⟩ := hB.op
 refine k_enter (l := [_]) Tryz.func66 rfl rfl ?_
 have H := St.start nT w
 refine k_seq (k_region (sR rfl rfl (as_p rfl rfl) (l_nil (k_seq (k_region (sMs rfl rfl rfl rfl (sC rfl rfl rfl Tryz.func95 rfl rfl rfl (clone _ (H.bs hB) (by omega)) ?_)))))))
 rintro _ W ⟨A1, c1, rfl, hc1, hd1, hn⟩
 replace H := H.new hn
 clear hn
 refine sR rfl rfl (d_build (vs := [.slice A1 l.length c1, .int .i64 0]) rfl (by kernel_rfl)) ?_
 refine s_eff (e_box (w_none rfl) rfl rfl rfl rfl H ?_)
 clear H; intro g1_3 W H
 refine sR rfl rfl (as_p rfl rfl) (l_nil (k_ret ?_))
 repeat (first | refine r_then ?_ | refine r_blk ?_)
 exact q_ret (v := .pointer _) rfl rfl ⟨_, rfl, g1_3, A1, c1, rfl, RdB.make (Y := (· = l)) rfl H rfl⟩

theorem formIs {z : Int} {x y : Value} {q : Nat} {b : UInt8} (w : World) (hx : x.oneCell' = true) (hy : y.oneCell' = true) (hq : Gat w q [u8v b]) : Calls Tryz.prog 121 [.agg [.int .u8 z, x, y].toArray, .pointer (some ⟨q, 0, none⟩)].toArray w (Ret (Is w (.bool (z == (b.toNat : Int))))) := by
 refine k_enter (l := [_, _]) Tryz.func121 rfl rfl ?_
 have H := St.start nT w
 refine k_seq (k_region (s_eff (e_box (w_none rfl) rfl rfl rfl rfl H ?_)))
 clear H; intro g0_0 W H
 refine sAb rfl rfl rfl rfl (l_nil (k_seq (k_region (sR rfl rfl (d_fa rfl rfl tf106_0) (sR rfl rfl (d_ld rfl H rfl ta5 rfl) (sR rfl rfl (d_ldG rfl (H.gat hq) rfl ta5 rfl) (sR rfl rfl (d_eq rfl rfl rfl) (sAb rfl rfl rfl rfl (l_nil (k_ret ?_))))))))))
 repeat (first | refine r_then ?_ | refine r_blk ?_)
 exact q_ret (v := .bool _) rfl rfl ⟨_, rfl, rfl, H.under⟩

def idxF (b : UInt8) : Int := if b = 253 then 0 else if b = 254 then 1 else if b = 255 then 2 else -1
theorem idx_0 {b : UInt8} (h : ((253 : Int) == (b.toNat : Int)) = true) : b = 253 := UInt8.toNat_inj.1 (by have := eq_of_beq h; simp; omega)
theorem idx_1 {b : UInt8} (h : ((254 : Int) == (b.toNat : Int)) = true) : b = 254 := UInt8.toNat_inj.1 (by have := eq_of_beq h; simp; omega)
theorem idx_2 {b : UInt8} (h : ((255 : Int) == (b.toNat : Int)) = true) : b = 255 := UInt8.toNat_inj.1 (by have := eq_of_beq h; simp; omega)
theorem idx_n0 {b : UInt8} (h : ((253 : Int) == (b.toNat : Int)) = false) : ¬ b = 253 := fun e => by subst e; simp at h
theorem idx_n1 {b : UInt8} (h : ((254 : Int) == (b.toNat : Int)) = false) : ¬ b = 254 := fun e => by subst e; simp at h
theorem idx_n2 {b : UInt8} (h : ((255 : Int) == (b.toNat : Int)) = false) : ¬ b = 255 := fun e => by subst e; simp at h
theorem indexF {q : Nat} {b : UInt8} (w : World) (hG : Gat w 0 formsC) (hq : Gat w q [u8v b]) : Calls Tryz.prog 120 [.slice (some ⟨0, 0, none⟩) 3 3, .func (.func 121) #[] [.pointer (some ⟨q, 0, none⟩)].toArray].toArray w (Ret (Is w (.int .i64 (idxF b)))) := by
 refine k_enter (l := [_, _]) Tryz.func120 rfl rfl ?_
 have H := St.start nT w
 refine k_seq (k_region (sAi rfl rfl rfl rfl (l_nil (k_seq (k_seq (k_region (sMs rfl rfl rfl rfl (sR rfl rfl (d_len rfl rfl tu109) (sMi rfl rfl rfl rfl (l_nil ?_))))))))))
 refine k_block (k_unr (k_one ?_))
 refine k_seq (k_region (sR rfl rfl (d_lt rfl rfl rfl) (l_nil (k_seq (k_condT rfl (by first | (simp; done) | (simp; omega)) ?_)))))
 refine k_skip (k_seq (k_block (k_seq (k_region (sMi rfl rfl rfl rfl (sAi rfl rfl rfl rfl (l_nil (k_seq (k_region (sR rfl rfl (mv_f rfl rfl) ?_))))))))))
 refine sMs rfl rfl rfl rfl (sMi rfl rfl rfl rfl (sR rfl rfl (d_iaS rfl ((H.gat hG).rd rfl) rfl rfl (q := 0) rfl (by decide) tu109 ts106) ?_))
 refine sR rfl rfl (d_ldmG (m := 3) (i := 0) rfl (H.gat hG) rfl ta106 ts106 rfl) (s_eff (e_callv (w_none rfl) rfl rfl rfl Tryz.func121 rfl rfl rfl (formIs _ rfl rfl (H.gat hq)) ?_))
 rintro _ W ⟨rfl, hb⟩
 replace H := H.below hb
 clear hb
 refine l_nil (k_cond rfl (fun hc16 => ?_) (fun hc16 => ?_))
 ·have e1 := idx_0 hc16
  refine k_seq (k_region (sMi rfl rfl rfl rfl (sAi rfl rfl rfl rfl (l_nil (k_ret ?_)))))
  repeat (first | refine r_then ?_ | refine r_blk ?_)
  exact q_ret (v := .int _ _) rfl rfl ⟨_, rfl, vi (by unfold idxF; rw [if_pos e1]), H.under⟩
 ·have e1 := idx_n0 hc16
  refine k_skip (k_nil (b_end (k_region (sR rfl rfl (d_add rfl rfl rfl (by omega)) (sMi rfl rfl rfl rfl (l_nil (k_nil (k_next (hd_of (k_one ?_))))))))))
  refine k_seq (k_region (sR rfl rfl (d_lt rfl rfl rfl) (l_nil (k_seq (k_condT rfl (by first | (simp; done) | (simp; omega)) ?_)))))
  refine k_skip (k_seq (k_block (k_seq (k_region (sMi rfl rfl rfl rfl (sAi rfl rfl rfl rfl (l_nil (k_seq (k_region (sR rfl rfl (mv_f rfl rfl) ?_))))))))))
  refine sMs rfl rfl rfl rfl (sMi rfl rfl rfl rfl (sR rfl rfl (d_iaS rfl ((H.gat hG).rd rfl) rfl rfl (q := 1) rfl (by decide) tu109 ts106) ?_))
  refine sR rfl rfl (d_ldmG (m := 3) (i := 3) rfl (H.gat hG) rfl ta106 ts106 rfl) (s_eff (e_callv (w_none rfl) rfl rfl rfl Tryz.func121 rfl rfl rfl (formIs _ rfl rfl (H.gat hq)) ?_))
  rintro _ W ⟨rfl, hb⟩
  replace H := H.below hb
  clear hb
  refine l_nil (k_cond rfl (fun hc16 => ?_) (fun hc16 => ?_))
  ·have e2 := idx_1 hc16
   refine k_seq (k_region (sMi rfl rfl rfl rfl (sAi rfl rfl rfl rfl (l_nil (k_ret ?_)))))
   repeat (first | refine r_then ?_ | refine r_blk ?_)
   exact q_ret (v := .int _ _) rfl rfl ⟨_, rfl, vi (by unfold idxF; rw [if_neg e1, if_pos e2]; rfl), H.under⟩
  ·have e2 := idx_n1 hc16
   refine k_skip (k_nil (b_end (k_region (sR rfl rfl (d_add rfl rfl rfl (by omega)) (sMi rfl rfl rfl rfl (l_nil (k_nil (k_next (hd_of (k_one ?_))))))))))
   refine k_seq (k_region (sR rfl rfl (d_lt rfl rfl rfl) (l_nil (k_seq (k_condT rfl (by first | (simp; done) | (simp; omega)) ?_)))))
   refine k_skip (k_seq (k_block (k_seq (k_region (sMi rfl rfl rfl rfl (sAi rfl rfl rfl rfl (l_nil (k_seq (k_region (sR rfl rfl (mv_f rfl rfl) ?_))))))))))
   refine sMs rfl rfl rfl rfl (sMi rfl rfl rfl rfl (sR rfl rfl (d_iaS rfl ((H.gat hG).rd rfl) rfl rfl (q := 2) rfl (by decide) tu109 ts106) ?_))
   refine sR rfl rfl (d_ldmG (m := 3) (i := 6) rfl (H.gat hG) rfl ta106 ts106 rfl) (s_eff (e_callv (w_none rfl) rfl rfl rfl Tryz.func121 rfl rfl rfl (formIs _ rfl rfl (H.gat hq)) ?_))
   rintro _ W ⟨rfl, hb⟩
   replace H := H.below hb
   clear hb
   refine l_nil (k_cond rfl (fun hc16 => ?_) (fun hc16 => ?_))
   ·have e3 := idx_2 hc16
    refine k_seq (k_region (sMi rfl rfl rfl rfl (sAi rfl rfl rfl rfl (l_nil (k_ret ?_)))))
    repeat (first | refine r_then ?_ | refine r_blk ?_)
    exact q_ret (v := .int _ _) rfl rfl ⟨_, rfl, vi (by unfold idxF; rw [if_neg e1, if_neg e2, if_pos e3]; rfl), H.under⟩
   ·have e3 := idx_n2 hc16
    refine k_skip (k_nil (b_end (k_region (sR rfl rfl (d_add rfl rfl rfl (by omega)) (sMi rfl rfl rfl rfl (l_nil (k_nil (k_next (hd_of (k_one ?_))))))))))
    refine k_seq (k_region (sR rfl rfl (d_lt rfl rfl rfl) (l_nil (k_seq (k_condF rfl (by first | (simp; done) | (simp; omega)) ?_)))))
    refine k_exit (x_then (x_then ?_))
    refine x_hit (k_seq (k_region (sAi rfl rfl rfl rfl (l_nil (k_ret ?_)))))
    repeat (first | refine r_then ?_ | refine r_blk ?_)
    exact q_ret (v := .int _ _) rfl rfl ⟨_, rfl, vi (by unfold idxF; rw [if_neg e1, if_neg e2, if_neg e3]), H.under⟩

theorem Pk.next_s {n : Nat} {s s' : RS} {l : List UInt8} (h : Pk.next n s = (l, s')) (he : s.2 = 0) : (s'.2 = 0 → n ≤ s.1.length ∧ l = s.1.take n ∧ s' = (s.1.drop n, 0)) ∧ (s'.2 ≠ 0 → s.1.length < n ∧ s' = ([], 4)) := by
 rcases Nat.lt_or_ge s.1.length n with hn | hn
 ·rw [Pk.next_short he hn] at h
  cases h
  exact ⟨fun h => absurd h (by decide), fun _ => ⟨hn, rfl⟩⟩
 ·rw [Pk.next_ok he hn] at h
  cases h
  exact ⟨fun _ => ⟨hn, rfl, rfl⟩, fun h => absurd rfl h⟩
theorem takeE {A0 : Option Addr} {n0 c0 r : Nat} {Y : List UInt8 → Prop} {v : Value} {b : List UInt8} {s : RS} (w : World) {n : Nat} {z : Int} {l : List UInt8} {s' : RS} (hx : Pk.next n s = (l, s')) (hz : z = (n : Int)) (hR : (RdYB 5 117 r A0 n0 c0 Y v b s).p w) (he : s.2 = 0) (hs : s'.2 = 0) : Calls Tryz.prog 99 [.pointer (some ⟨r, 0, none⟩), .int .i64 z].toArray w (Ret (fun v' w' => (RdYB 5 117 r A0 n0 c0 Y v' l s').p w' ∧ Fr (RdT r A0 n0 c0) w w')) := by
 obtain ⟨h1, rfl, rfl⟩ := (Pk.next_s hx he).1 hs
 exact takeOk w hz hR he h1
theorem takeSE {A0 : Option Addr} {n0 c0 r : Nat} {Y : List UInt8 → Prop} {v : Value} {b : List UInt8} {s : RS} (w : World) {n : Nat} {z : Int} {l : List UInt8} {s' : RS} (hx : Pk.next n s = (l, s')) (hz : z = (n : Int)) (hR : (RdYB 5 117 r A0 n0 c0 Y v b s).p w) (he : s.2 = 0) (hs : s'.2 ≠ 0) : Calls Tryz.prog 99 [.pointer (some ⟨r, 0, none⟩), .int .i64 z].toArray w (Pan (why 4) (fun w' => (RdYB 5 117 r A0 n0 c0 Y v b s).p w' ∧ Fr (RdT r A0 n0 c0) w w')) :=
 takeShort w hz hR ((Pk.next_s hx he).2 hs).1
theorem idx_neg {b : UInt8} (h : Pk.wide b = 0) : idxF b = -1 := by
 unfold Pk.wide at h
 unfold idxF
 split at h
 ·omega
 ·rename_i h1
  rw [if_neg h1]
  split at h
  ·omega
  ·rename_i h2
   rw [if_neg h2]
   split at h
   ·omega
   ·rename_i h3; rw [if_neg h3]
theorem idx_pos {b : UInt8} (h : Pk.wide b ≠ 0) : ∃ j : Nat, idxF b = (j : Int) ∧ j < 3 ∧ formsC[0 + j * 3 + 1]? = some (.int .i64 (Pk.wide b : Int)) ∧ formsC[0 + j * 3 + 2]? = some (.int .u64 (Pk.least b : Int)) := by
 unfold Pk.wide Pk.least idxF at *
 by_cases h1 : b = 253
 ·exact ⟨0, by rw [if_pos h1]; rfl, by omega, by rw [if_pos h1]; rfl, by rw [if_pos h1]; rfl⟩
 ·by_cases h2 : b = 254
  ·exact ⟨1, by rw [if_neg h1, if_pos h2]; rfl, by omega, by rw [if_neg h1, if_pos h2]; rfl, by rw [if_neg h1, if_pos h2]; rfl⟩
  ·by_cases h3 : b = 255
   ·exact ⟨2, by rw [if_neg h1, if_neg h2, if_pos h3]; rfl, by omega, by rw [if_neg h1, if_neg h2, if_pos h3]; rfl, by rw [if_neg h1, if_neg h2]; rfl⟩
   ·rw [if_neg h1, if_neg h2, if_neg h3] at h; exact absurd rfl h

theorem numA {A0 : Option Addr} {n0 c0 r : Nat} {Y : List UInt8 → Prop} {v : Value} {b : List UInt8} {s : RS} (w : World) {s1 : RS} {l : List UInt8} (hR : (RdYB 5 117 r A0 n0 c0 Y v b s).p w) (hG : Gat w 0 formsC) (hT : ¬ RdT r A0 n0 c0 0) (he : s.2 = 0) (h1 : Pk.next 1 s = (l, s1)) (h1e : s1.2 ≠ 0) : Calls Tryz.prog 101 [.pointer (some ⟨r, 0, none⟩)].toArray w (Pan (why 4) (fun w' => (∃ s', (RdYP 5 117 r A0 n0 c0 Y s').p w') ∧ Fr (RdT r A0 n0 c0) w w')) := by
 refine k_enter (l := [_]) Tryz.func101 rfl rfl ?_
 have H := St.begin (f := RdYB 5 117 r A0 n0 c0 Y v b s) hR (RdB.lt hR)
 refine k_seq (k_region (sAi rfl rfl rfl rfl (l_nil (k_seq (k_region (sMp rfl rfl rfl rfl (s_eff (e_callP (w_none rfl) rfl Tryz.func99 rfl rfl rfl (takeSE _ h1 (by rfl) (H.get (f := RdYB 5 117 r A0 n0 c0 Y v b s)) he h1e) ?_))))))))
 rintro W ⟨hp, hf⟩
 replace H := H.mut (f := RdYB 5 117 r A0 n0 c0 Y v b s) (f' := RdYB 5 117 r A0 n0 c0 Y v b s) hf hp (fun _ h => h)
 exact ⟨rfl, rfl, ⟨_, RdB.toP (H.get (f := RdYB 5 117 r A0 n0 c0 Y v b s))⟩, H.fr⟩

theorem numC {A0 : Option Addr} {n0 c0 r : Nat} {Y : List UInt8 → Prop} {v : Value} {b : List UInt8} {s : RS} (w : World) {s1 : RS} {b0 : UInt8} (hR : (RdYB 5 117 r A0 n0 c0 Y v b s).p w) (hG : Gat w 0 formsC) (hT : ¬ RdT r A0 n0 c0 0) (he : s.2 = 0) (h1 : Pk.next 1 s = ([b0], s1)) (h1e : s1.2 = 0) (hw : Pk.wide b0 = 0) : Calls Tryz.prog 101 [.pointer (some ⟨r, 0, none⟩)].toArray w (Ret (fun v' w' => v' = .int .i64 (b0.toNat : Int) ∧ (RdYP 5 117 r A0 n0 c0 Y s1).p w' ∧ Fr (RdT r A0 n0 c0) w w')) := by
 refine k_enter (l := [_]) Tryz.func101 rfl rfl ?_
 have H := St.begin (f := RdYB 5 117 r A0 n0 c0 Y v b s) hR (RdB.lt hR)
 refine k_seq (k_region (sAi rfl rfl rfl rfl (l_nil (k_seq (k_region (sMp rfl rfl rfl rfl (sC rfl rfl rfl Tryz.func99 rfl rfl rfl (takeE _ h1 (by rfl) (H.get (f := RdYB 5 117 r A0 n0 c0 Y v b s)) he h1e) ?_)))))))
 rintro _ W ⟨hp1, hf1⟩
 obtain ⟨B1, d1, rfl⟩ := RdB.form hp1
 replace H := H.mut (f := RdYB 5 117 r A0 n0 c0 Y v b s) (f' := RdYB 5 117 r A0 n0 c0 Y (.slice B1 (List.length [b0]) d1) [b0] s1) hf1 hp1 (fun _ h => h)
 clear hp1 hf1
 refine sR rfl rfl (d_iaB rfl (RdB.rd (H.get (f := RdYB 5 117 r A0 n0 c0 Y (.slice B1 (List.length [b0]) d1) [b0] s1))) rfl rfl (q := 0) rfl (by exact Nat.zero_lt_one) tu35 ts5) ?_
 refine sR rfl rfl (d_ldB rfl (RdB.rd (H.get (f := RdYB 5 117 r A0 n0 c0 Y (.slice B1 (List.length [b0]) d1) [b0] s1))) ((rfl : [b0][0]? = some b0)) rfl ta5) (s_eff (e_alloc (w_none rfl) rfl rfl [.int .u8 0] tz5 H ?_))
 clear H; intro g3 W H
 refine s_eff (e_sto (w_none rfl) rfl rfl rfl rfl rfl ts5 rfl H rfl ?_)
 clear H; intro W H
 refine l_nil (k_seq (k_region (sR rfl rfl (d_arrA rfl rfl tu107 ts106) (sR rfl rfl (d_mkf rfl rfl rfl) (sC rfl rfl rfl Tryz.func120 rfl rfl rfl (indexF _ (H.gatT hG hT) (gat_of H.blk)) ?_)))))
 rintro _ W ⟨rfl, hb⟩
 replace H := H.below hb
 clear hb
 refine sAi rfl rfl rfl rfl (l_nil (k_seq (k_seq (k_region (sMi rfl rfl rfl rfl (sR rfl rfl (d_lt rfl rfl rfl) (l_nil (k_condT rfl (by rw [idx_neg hw]; rfl) ?_))))))))
 refine k_seq (k_region (sR rfl rfl (d_ld rfl H rfl ta5 rfl) (sR rfl rfl (d_conv rfl rfl (by rw [tu5]; rfl) tu3 (IntWalk.i64_in _ (by have := b0.toNat_lt; omega))) ?_)))
 refine sAi rfl rfl rfl rfl (l_nil (k_ret ?_))
 repeat (first | refine r_then ?_ | refine r_blk ?_)
 exact q_ret (v := .int _ _) rfl rfl ⟨_, rfl, rfl, RdB.toP (H.get (f := RdYB 5 117 r A0 n0 c0 Y (.slice B1 (List.length [b0]) d1) [b0] s1)), H.fr⟩

theorem numD {A0 : Option Addr} {n0 c0 r : Nat} {Y : List UInt8 → Prop} {v : Value} {b : List UInt8} {s : RS} (w : World) {s1 s2 : RS} {b0 : UInt8} {l : List UInt8} (hR : (RdYB 5 117 r A0 n0 c0 Y v b s).p w) (hG : Gat w 0 formsC) (hT : ¬ RdT r A0 n0 c0 0) (he : s.2 = 0) (h1 : Pk.next 1 s = ([b0], s1)) (h1e : s1.2 = 0) (hw : Pk.wide b0 ≠ 0) (h2 : Pk.next (Pk.wide b0) s1 = (l, s2)) (h2e : s2.2 ≠ 0) : Calls Tryz.prog 101 [.pointer (some ⟨r, 0, none⟩)].toArray w (Pan (why 4) (fun w' => (∃ s', (RdYP 5 117 r A0 n0 c0 Y s').p w') ∧ Fr (RdT r A0 n0 c0) w w')) := by
 refine k_enter (l := [_]) Tryz.func101 rfl rfl ?_
 have H := St.begin (f := RdYB 5 117 r A0 n0 c0 Y v b s) hR (RdB.lt hR)
 refine k_seq (k_region (sAi rfl rfl rfl rfl (l_nil (k_seq (k_region (sMp rfl rfl rfl rfl (sC rfl rfl rfl Tryz.func99 rfl rfl rfl (takeE _ h1 (by rfl) (H.get (f := RdYB 5 117 r A0 n0 c0 Y v b s)) he h1e) ?_)))))))
 rintro _ W ⟨hp1, hf1⟩
 obtain ⟨B1, d1, rfl⟩ := RdB.form hp1
 replace H := H.mut (f := RdYB 5 117 r A0 n0 c0 Y v b s) (f' := RdYB 5 117 r A0 n0 c0 Y (.slice B1 (List.length [b0]) d1) [b0] s1) hf1 hp1 (fun _ h => h)
 clear hp1 hf1
 refine sR rfl rfl (d_iaB rfl (RdB.rd (H.get (f := RdYB 5 117 r A0 n0 c0 Y (.slice B1 (List.length [b0]) d1) [b0] s1))) rfl rfl (q := 0) rfl (by exact Nat.zero_lt_one) tu35 ts5) ?_
 refine sR rfl rfl (d_ldB rfl (RdB.rd (H.get (f := RdYB 5 117 r A0 n0 c0 Y (.slice B1 (List.length [b0]) d1) [b0] s1))) ((rfl : [b0][0]? = some b0)) rfl ta5) (s_eff (e_alloc (w_none rfl) rfl rfl [.int .u8 0] tz5 H ?_))
 clear H; intro g3 W H
 refine s_eff (e_sto (w_none rfl) rfl rfl rfl rfl rfl ts5 rfl H rfl ?_)
 clear H; intro W H
 refine l_nil (k_seq (k_region (sR rfl rfl (d_arrA rfl rfl tu107 ts106) (sR rfl rfl (d_mkf rfl rfl rfl) (sC rfl rfl rfl Tryz.func120 rfl rfl rfl (indexF _ (H.gatT hG hT) (gat_of H.blk)) ?_)))))
 rintro _ W ⟨rfl, hb⟩
 replace H := H.below hb
 clear hb
 refine sAi rfl rfl rfl rfl (l_nil (k_seq (k_seq ?_)))
 obtain ⟨j, hj1, hj2, hj3, hj4⟩ := idx_pos hw
 refine k_region (sMi rfl rfl rfl rfl (sR rfl rfl (d_lt rfl rfl rfl) (l_nil (k_condF rfl (by rw [hj1]; simp) ?_))))
 refine k_skip (k_seq (k_region (s_eff (e_alloc (w_none rfl) rfl rfl [.int .u64 0] tz104 H ?_))))
 clear H; intro g5 W H
 refine s_eff (e_sto (w_none rfl) rfl rfl rfl rfl rfl ts104 rfl H rfl ?_)
 clear H; intro W H
 refine l_nil (k_seq (k_seq (k_region (sMp rfl rfl rfl rfl (sMi rfl rfl rfl rfl (sR rfl rfl (d_iaA rfl rfl rfl (q := j) hj1 tu107 hj2 ts106) (sR rfl rfl (d_fa rfl rfl tf106_1) (sR rfl rfl (d_ldG rfl (H.gatT hG hT) rfl ta3 hj3) (s_eff (e_callP (w_none rfl) rfl Tryz.func99 rfl rfl rfl (takeSE _ h2 (by rfl) (H.get (f := RdYB 5 117 r A0 n0 c0 Y (.slice B1 (List.length [b0]) d1) [b0] s1)) h1e h2e) ?_))))))))))
 rintro W ⟨hp, hf⟩
 replace H := H.mut (f := RdYB 5 117 r A0 n0 c0 Y (.slice B1 (List.length [b0]) d1) [b0] s1) (f' := RdYB 5 117 r A0 n0 c0 Y (.slice B1 (List.length [b0]) d1) [b0] s1) hf hp (fun _ h => h)
 exact ⟨rfl, rfl, ⟨_, RdB.toP (H.get (f := RdYB 5 117 r A0 n0 c0 Y (.slice B1 (List.length [b0]) d1) [b0] s1))⟩, H.fr⟩
end Go.Proofs.YteakkflhndifbaaGreatDoor

namespace Go.Proofs.YteakkflhndifbaaGreatDoor
open Go Go.RowKit
attribute [local irreducible] wpList

/-- The last k bytes of l, the last first, with their places. -/
def backL (l : List UInt8) (k : Nat) : List (Nat × UInt8) := (List.range k).map fun j => (l.length - 1 - j, l.getD (l.length - 1 - j) 0)
theorem backL_succ {l : List UInt8} {k : Nat} (h1 : 1 ≤ k) (hk : k ≤ l.length) : backL l (l.length - (k - 1)) = backL l (l.length - k) ++ [(k - 1, l.getD (k - 1) 0)] := by
 unfold backL
 rw [show l.length - (k - 1) = l.length - k + 1 by omega, List.range_succ, List.map_append, List.map_singleton, show l.length - 1 - (l.length - k) = k - 1 by omega]
theorem len_backL {l : List UInt8} {k : Nat} : (backL l k).length = k := by simp [backL]
theorem back_stops {q c : Nat} {B : Option Addr} {l : List UInt8} {K0 : Nat → Prop} (w : World) (hq : Gat w q [.slice B l.length c]) (hr : Rd w K0 1 B l.length (l.map u8v)) (hKq : K0 q) (hl : l.length ≤ 1000000000000) :
  SeqStopsK Fence.wide 2 Tryz.prog 128 [.pointer (some ⟨q, 0, none⟩)].toArray (fun x : Nat × UInt8 => #[.int .i64 (x.1 : Int), u8v x.2]) (KeepG K0) (fun xs => xs = backL l l.length) (fun _ => True) l.length w := by
 intro ll J Jx W0 hW hJ hJx hY h0
 refine callsIn_wide.2 ?_
 have hq0 := hq.keep hW
 have hr0 := hr.keep (fun g hg _ => hW.block g hg)
 rw [show (#[Value.func (.yield ll) #[] #[]] ++ [Value.pointer (some ⟨q, 0, none⟩)].toArray : Array Value) = [Value.func (.yield ll) #[] #[], Value.pointer (some ⟨q, 0, none⟩)].toArray from rfl]
 refine k_enter (l := [_, _]) Tryz.func128 rfl rfl ?_
 have H := St.start nT W0
 refine k_seq (k_region (sR rfl rfl (d_ldG rfl (hq0) rfl ta35 rfl) (sR rfl rfl (d_len rfl rfl tu35) (sR rfl rfl (d_sub rfl rfl rfl (by omega)) (sAi rfl rfl rfl rfl (l_nil (k_block (k_loop 7 [3] (fun mm sl W => ∃ k : Nat, k = mm ∧ sl = [(3, .int .i64 ((k : Int) - 1))] ∧ (k ≤ l.length) ∧ (J (backL l (l.length - k)) W ∧ KeepG K0 W0 W)) _ _ ⟨l.length, rfl, rfl, Nat.le_refl _, ⟨by rw [Nat.sub_self]; exact h0, fun _ _ => rfl⟩⟩ ⟨rfl, trivial⟩ (fun mm sl ρv W hJ => ?_)))))))))
 clear H; obtain ⟨k, rfl, rfl, hk, H⟩ := hJ
 refine k_one (k_seq (k_seq (k_region (sMi rfl rfl rfl rfl (sR rfl rfl (d_ge rfl rfl rfl) (l_nil (k_cond rfl (fun hc8 => ?_) (fun hc8 => ?_))))))))
 ·first | (replace hc8 := of_decide_eq_true hc8) | simp at hc8
  refine k_skip (k_seq (k_block (k_seq ?_)))
  have hq2 := hq0.same (H.2 q hKq)
  have hr2 := hr0.keep (fun g _ hg => H.2 g hg)
  refine k_regionY (r_run (fun _ => trivial) (fun c h => by cases h) (w_none rfl) rfl (mv_f rfl rfl) ?_)
  refine r_run (fun _ => trivial) (fun c h => by cases h) (w_none rfl) rfl (mv_i rfl rfl) ?_
  refine r_run (fun _ => trivial) (fun c h => by cases h) (w_none rfl) rfl (d_ldG rfl (hq2) rfl ta35 rfl) ?_
  refine r_run (fun _ => trivial) (fun c h => by cases h) (w_none rfl) rfl (mv_i rfl rfl) ?_
  refine r_run (fun _ => trivial) (fun c h => by cases h) (w_none rfl) rfl (d_iaB rfl (hr2) rfl rfl (q := k - 1) (by omega) (by omega) tu35 ts5) ?_
  refine r_run (fun _ => trivial) (fun c h => by cases h) (w_none rfl) rfl (d_ldB rfl (hr2) ((l_get (by omega))) rfl ta5) ?_
  refine r_yield (la := [.int .i64 ((k - 1 : Nat) : Int), u8v (l.getD (k - 1) 0)]) (fun _ => trivial) rfl (w_none rfl) rfl rfl rfl (by show [Value.int .i64 ((k : Int) - 1), u8v (l.getD (k - 1) 0)] = _; rw [show ((k : Int) - 1) = ((k - 1 : Nat) : Int) by omega]) (hY _ (k - 1, l.getD (k - 1) 0) W H.1 (by rw [len_backL]; omega)) (fun e W' q => by rcases q with ⟨rfl, _⟩ | ⟨rfl, _⟩ <;> exact ⟨_, rfl⟩) ?_
  intro bb W hR2
  refine r_run (fun _ => trivial) (fun c h => by cases h) (w_none rfl) rfl (d_not rfl rfl) ?_
  refine r_nil (k_cond rfl (fun hc18 => ?_) (fun hc18 => ?_))
  ·skip
   refine k_ret ?_
   repeat (first | refine r_then ?_ | refine r_blk ?_)
   have h3 := hR2.resolve_left (fun h => by cases h.1; simp at hc18)
   exact q_ret0 rfl ⟨⟨_, rfl⟩, .inr ⟨_, trivial, h3.2⟩⟩
  ·skip
   refine k_skip (k_nil (b_end (k_region (sMi rfl rfl rfl rfl (sR rfl rfl (d_sub rfl rfl rfl (by omega)) (sAi rfl rfl rfl rfl (l_nil (k_nil (k_next ?_)))))))))
   obtain ⟨_, hJ2, hK2⟩ := hR2.resolve_right (fun h => by cases h.1; simp at hc18)
   have hH : J (backL l (l.length - (k - 1))) W ∧ KeepG K0 W0 W := ⟨by rw [backL_succ (by omega) hk]; exact hJ2, fun g hg => (hK2 g hg).trans (H.2 g hg)⟩
   refine ⟨_, _, _, ?_, rfl, ?_, ?_, ⟨k - 1, rfl, rfl, by omega, hH⟩⟩
   ·omega
   ·repeat (first | (with_reducible refine .updl _ .ovr ?_); exact rfl | (with_reducible refine .updl _ (.ovr2 ?_ ?_) ?_); rotate_left; exact rfl; exact rfl | (with_reducible refine .upd ?_ ?_); rotate_left; exact rfl)
   ·refine ⟨?_, trivial⟩
    ·exact vi (by omega)
 ·first | (replace hc8 := of_decide_eq_false hc8) | simp at hc8
  refine k_exit (x_then (x_then ?_))
  refine x_hit (k_nil ?_)
  obtain rfl : k = 0 := by omega
  exact q_end0 rfl ⟨⟨_, rfl⟩, .inl ⟨_, rfl, H.1⟩⟩

theorem backward {v : Value} (w : World) {A : Option Addr} {m c : Nat} (hv : v = .slice A m c) : Calls Tryz.prog 122 [v].toArray w (Ret (fun v' w' => ∃ q, v' = .func (.func 128) #[] [.pointer (some ⟨q, 0, none⟩)].toArray ∧ New w w' (Fact.blk q [v] 35))) := by
 subst hv
 refine k_enter (l := [_]) Tryz.func122 rfl rfl ?_
 have H := St.start nT w
 refine k_seq (k_region (s_eff (e_box (vs := [.slice A m c]) (w_none rfl) rfl rfl rfl rfl H ?_)))
 clear H; intro g1 W H
 refine sR rfl rfl (d_asg rfl rfl) (l_nil (k_seq (k_region (sR rfl rfl (d_mkf rfl rfl rfl) (sR rfl rfl (as_f rfl rfl) (l_nil (k_ret ?_)))))))
 repeat (first | refine r_then ?_ | refine r_blk ?_)
 exact q_ret (v := .func _ _ _) rfl rfl ⟨_, rfl, g1, rfl, H.give⟩

def acc (xs : List (Nat × UInt8)) : Nat := xs.foldl (fun a x => a * 256 + x.2.toNat) 0
theorem acc_snoc {xs : List (Nat × UInt8)} {x : Nat × UInt8} : acc (xs ++ [x]) = acc xs * 256 + x.2.toNat := by simp [acc]
theorem acc_lt0 : ∀ (xs : List (Nat × UInt8)) (a : Nat), xs.foldl (fun a x => a * 256 + x.2.toNat) a < (a + 1) * 256 ^ xs.length
 | [], a => by simp
 | x :: xs, a => by
  have h := acc_lt0 xs (a * 256 + x.2.toNat)
  have hx := x.2.toNat_lt
  have h2 : (a * 256 + x.2.toNat + 1) * 256 ^ xs.length ≤ (a * 256 + 256) * 256 ^ xs.length := Nat.mul_le_mul_right _ (by omega)
  rw [List.foldl_cons, List.length_cons, Nat.pow_succ]
  have h3 : (a + 1) * (256 ^ xs.length * 256) = (a * 256 + 256) * 256 ^ xs.length := by
   rw [Nat.mul_comm (256 ^ xs.length) 256, ← Nat.mul_assoc, Nat.add_mul, Nat.one_mul]
  omega
theorem acc_lt {xs : List (Nat × UInt8)} (h : xs.length ≤ 7) : acc xs < 72057594037927936 := by
 have h1 := acc_lt0 xs 0
 have h2 : (256 : Nat) ^ xs.length ≤ 256 ^ 7 := Nat.pow_le_pow_right (by decide) h
 unfold acc
 omega
theorem acc_back {l : List UInt8} : ∀ {k : Nat}, k ≤ l.length → acc (backL l k) = Pk.ofLe (l.drop (l.length - k))
 | 0, _ => by rw [Nat.sub_zero, Pk.ofLe_nil (Nat.le_refl _)]; rfl
 | k + 1, h => by
  have e : backL l (k + 1) = backL l k ++ [(l.length - 1 - k, l.getD (l.length - 1 - k) 0)] := by unfold backL; rw [List.range_succ, List.map_append, List.map_singleton]
  rw [e, acc_snoc, acc_back (by omega), Pk.ofLe_drop (j := l.length - (k + 1)) (by omega), show l.length - 1 - k = l.length - (k + 1) by omega, show l.length - (k + 1) + 1 = l.length - k by omega]
  dsimp only
  omega
theorem acc_all {l : List UInt8} : acc (backL l l.length) = Pk.ofLe l := by rw [acc_back (Nat.le_refl _), Nat.sub_self, List.drop_zero]

theorem numE {A0 : Option Addr} {n0 c0 r : Nat} {Y : List UInt8 → Prop} {v : Value} {b : List UInt8} {s : RS} (w : World) {s1 s2 : RS} {b0 : UInt8} {l : List UInt8} (hR : (RdYB 5 117 r A0 n0 c0 Y v b s).p w) (hG : Gat w 0 formsC) (hT : ¬ RdT r A0 n0 c0 0) (he : s.2 = 0) (h1 : Pk.next 1 s = ([b0], s1)) (h1e : s1.2 = 0) (hw : Pk.wide b0 ≠ 0) (h2 : Pk.next (Pk.wide b0) s1 = (l, s2)) (h2e : s2.2 = 0) (hu : 9223372036854775808 ≤ Pk.ofLe l) : Calls Tryz.prog 101 [.pointer (some ⟨r, 0, none⟩)].toArray w (Pan (why 15) (fun w' => (∃ s', (RdYP 5 117 r A0 n0 c0 Y s').p w') ∧ Fr (RdT r A0 n0 c0) w w')) := by
 refine k_enterM (l := [_]) Tryz.func101 rfl rfl ?_
 have H := St.begin (f := RdYB 5 117 r A0 n0 c0 Y v b s) hR (RdB.lt hR)
 have hw8 : Pk.wide b0 ≤ 8 := by rcases Pk.wide_of (c := b0) with h | h | h | h <;> omega
 have hll : l.length ≤ 8 := by have := Pk.next_len (n := Pk.wide b0) (s := s1); rw [h2] at this; simp only at this; omega
 refine k_seq (k_region (sAi rfl rfl rfl rfl (l_nil (k_seq (k_region (sMp rfl rfl rfl rfl (sC rfl rfl rfl Tryz.func99 rfl rfl rfl (takeE _ h1 (by rfl) (H.get (f := RdYB 5 117 r A0 n0 c0 Y v b s)) he h1e) ?_)))))))
 rintro _ W ⟨hp1, hf1⟩
 obtain ⟨B1, d1, rfl⟩ := RdB.form hp1
 replace H := H.mut (f := RdYB 5 117 r A0 n0 c0 Y v b s) (f' := RdYB 5 117 r A0 n0 c0 Y (.slice B1 (List.length [b0]) d1) [b0] s1) hf1 hp1 (fun _ h => h)
 clear hp1 hf1
 refine sR rfl rfl (d_iaB rfl (RdB.rd (H.get (f := RdYB 5 117 r A0 n0 c0 Y (.slice B1 (List.length [b0]) d1) [b0] s1))) rfl rfl (q := 0) rfl (by exact Nat.zero_lt_one) tu35 ts5) ?_
 refine sR rfl rfl (d_ldB rfl (RdB.rd (H.get (f := RdYB 5 117 r A0 n0 c0 Y (.slice B1 (List.length [b0]) d1) [b0] s1))) ((rfl : [b0][0]? = some b0)) rfl ta5) (s_eff (e_alloc (w_none rfl) rfl rfl [.int .u8 0] tz5 H ?_))
 clear H; intro g3 W H
 refine s_eff (e_sto (w_none rfl) rfl rfl rfl rfl rfl ts5 rfl H rfl ?_)
 clear H; intro W H
 refine l_nil (k_seq (k_region (sR rfl rfl (d_arrA rfl rfl tu107 ts106) (sR rfl rfl (d_mkf rfl rfl rfl) (sC rfl rfl rfl Tryz.func120 rfl rfl rfl (indexF _ (H.gatT hG hT) (gat_of H.blk)) ?_)))))
 rintro _ W ⟨rfl, hb⟩
 replace H := H.below hb
 clear hb
 refine sAi rfl rfl rfl rfl (l_nil (k_seq (k_seq ?_)))
 obtain ⟨j, hj1, hj2, hj3, hj4⟩ := idx_pos hw
 refine k_region (sMi rfl rfl rfl rfl (sR rfl rfl (d_lt rfl rfl rfl) (l_nil (k_condF rfl (by rw [hj1]; simp) ?_))))
 refine k_skip (k_seq (k_region (s_eff (e_alloc (w_none rfl) rfl rfl [.int .u64 0] tz104 H ?_))))
 clear H; intro g5 W H
 refine s_eff (e_sto (w_none rfl) rfl rfl rfl rfl rfl ts104 rfl H rfl ?_)
 clear H; intro W H
 refine l_nil (k_seq (k_seq (k_region (sMp rfl rfl rfl rfl (sMi rfl rfl rfl rfl (sR rfl rfl (d_iaA rfl rfl rfl (q := j) hj1 tu107 hj2 ts106) (sR rfl rfl (d_fa rfl rfl tf106_1) (sR rfl rfl (d_ldG rfl (H.gatT hG hT) rfl ta3 hj3) (sC rfl rfl rfl Tryz.func99 rfl rfl rfl (takeE _ h2 (by rfl) (H.get (f := RdYB 5 117 r A0 n0 c0 Y (.slice B1 (List.length [b0]) d1) [b0] s1)) h1e h2e) ?_)))))))))
 rintro _ W ⟨hp2, hf2⟩
 obtain ⟨B2, d2, rfl⟩ := RdB.form hp2
 replace H := H.mut (f := RdYB 5 117 r A0 n0 c0 Y (.slice B1 (List.length [b0]) d1) [b0] s1) (f' := RdYB 5 117 r A0 n0 c0 Y (.slice B2 (List.length l) d2) l s2) hf2 hp2 (fun _ h => h)
 clear hp2 hf2
 refine sC rfl rfl rfl Tryz.func122 rfl rfl rfl (backward (v := (.slice B2 (List.length l) d2)) _ rfl) ?_
 rintro _ W ⟨q, rfl, hn⟩
 replace H := H.new hn
 clear hn
 refine l_nil (k_block (k_rangeF (α := Nat × UInt8) (e0 := fun x => .int .i64 (x.1 : Int)) (e1 := fun x => u8v x.2) (K0 := (fun g => g = q ∨ RdT r A0 n0 c0 g)) (fun pre => [Fact.blk q [(.slice B2 (List.length l) d2)] 35, Fact.blk g5 [.int .u64 (acc pre : Int)] 104, Fact.blk g3 [u8v b0] 5, RdYB 5 117 r A0 n0 c0 Y (.slice B2 (List.length l) d2) l s2]) 7 rfl Tryz.func128 rfl rfl (back_stops W (gat_of H.blk) ((RdB.rdT (H.get (f := RdYB 5 117 r A0 n0 c0 Y (.slice B2 (List.length l) d2) l s2))).mono (fun g _ h => .inr h)) (.inl rfl) (by omega)) H (by rintro g (rfl | hg); exact blk_lt (H.blk (g := _)); exact RdB.lt (H.get (f := RdYB 5 117 r A0 n0 c0 Y (.slice B2 (List.length l) d2) l s2)) g hg) (fun _ => rfl) ?_ ?_ ?_))
 ·intro l x W' K hK'
  refine kb_region (r_run (fun _ => trivial) (fun c h => by cases h) (w_none rfl) rfl (d_asg rfl rfl) ?_)
  exact r_nil hK'
 ·intro _ pre x W H hlen
  have hap := List.pairwise_cons.1 H.apart
  have hap2 := List.pairwise_cons.1 hap.2
  have hq5 : ∀ g, (g = q ∨ RdT r A0 n0 c0 g) → ¬ g = g5 := by
   rintro g (rfl | hg) e
   ·exact hap.1 _ (.head _) g rfl e
   ·exact hap2.1 _ (.tail _ (.head _)) g e hg
  have hqs : ∀ g, (g = q ∨ RdT r A0 n0 c0 g) → g < W.heap.size := by
   rintro g (rfl | hg)
   ·exact blk_lt (H.blk (g := _))
   ·exact RdB.lt (H.get (f := RdYB 5 117 r A0 n0 c0 Y (.slice B2 (List.length l) d2) l s2)) g hg
  have ha := acc_lt (xs := pre) (by omega)
  refine wpIn_block (kb_region (r_run (fun _ => trivial) (fun c h => by cases h) (w_none rfl) rfl (d_ld rfl H rfl ta104 rfl) ?_))
  refine r_run (fun _ => trivial) (fun c h => by cases h) (w_none rfl) rfl (d_shl (m := 8) (c := (acc pre : Int) * 256) rfl rfl rfl rfl (by decide) (IntWalk.u64_in _ (by omega))) ?_
  refine r_run (fun _ => trivial) (fun c h => by cases h) (w_none rfl) rfl (mv_i rfl rfl) ?_
  refine r_run (fun _ => trivial) (fun c h => by cases h) (w_none rfl) rfl (d_conv rfl rfl (by rw [tu5]; rfl) tu104 (IntWalk.u64_in _ (by have := x.2.toNat_lt; omega))) ?_
  refine r_run (fun _ => trivial) (fun c h => by cases h) (w_none rfl) rfl (d_bitW rfl rfl rfl (or_u64 ha)) ?_
  refine r_sto (fun _ => trivial) (w_none rfl) rfl rfl rfl rfl rfl ts104 rfl H ?_
  clear H; intro W2 H hFr hKO
  refine r_nil ?_
  rw [← acc_snoc] at H
  exact ⟨rfl, hKO, fun g hg => hFr.block g (hqs g hg) (hq5 g hg), H⟩
 clear H; intro D xs W hS H
 subst hS
 rw [acc_all] at H
 refine k_nil (b_end (k_seq (k_region (sR rfl rfl (d_ld rfl H rfl ta104 rfl) (sR rfl rfl (d_lt rfl rfl rfl) (s_eff (e_callP (w_none rfl) rfl Tryz.func118 rfl rfl rfl (mustBad _ _ (by simp; omega)) ?_)))))))
 intro W hb
 replace H := H.below hb
 exact q_panM (P := Tryz.prog) (fn := Tryz.f101) H (fun W H => ⟨rfl, ⟨_, RdB.toP (H.get (f := RdYB 5 117 r A0 n0 c0 Y (.slice B2 (List.length l) d2) l s2))⟩, H.fr⟩)

theorem numF {A0 : Option Addr} {n0 c0 r : Nat} {Y : List UInt8 → Prop} {v : Value} {b : List UInt8} {s : RS} (w : World) {s1 s2 : RS} {b0 : UInt8} {l : List UInt8} (hR : (RdYB 5 117 r A0 n0 c0 Y v b s).p w) (hG : Gat w 0 formsC) (hT : ¬ RdT r A0 n0 c0 0) (he : s.2 = 0) (h1 : Pk.next 1 s = ([b0], s1)) (h1e : s1.2 = 0) (hw : Pk.wide b0 ≠ 0) (h2 : Pk.next (Pk.wide b0) s1 = (l, s2)) (h2e : s2.2 = 0) (hu : Pk.ofLe l < 9223372036854775808) (hf : Pk.ofLe l < Pk.least b0) : Calls Tryz.prog 101 [.pointer (some ⟨r, 0, none⟩)].toArray w (Pan (why 10) (fun w' => (∃ s', (RdYP 5 117 r A0 n0 c0 Y s').p w') ∧ Fr (RdT r A0 n0 c0) w w')) := by
 refine k_enterM (l := [_]) Tryz.func101 rfl rfl ?_
 have H := St.begin (f := RdYB 5 117 r A0 n0 c0 Y v b s) hR (RdB.lt hR)
 have hw8 : Pk.wide b0 ≤ 8 := by rcases Pk.wide_of (c := b0) with h | h | h | h <;> omega
 have hll : l.length ≤ 8 := by have := Pk.next_len (n := Pk.wide b0) (s := s1); rw [h2] at this; simp only at this; omega
 refine k_seq (k_region (sAi rfl rfl rfl rfl (l_nil (k_seq (k_region (sMp rfl rfl rfl rfl (sC rfl rfl rfl Tryz.func99 rfl rfl rfl (takeE _ h1 (by rfl) (H.get (f := RdYB 5 117 r A0 n0 c0 Y v b s)) he h1e) ?_)))))))
 rintro _ W ⟨hp1, hf1⟩
 obtain ⟨B1, d1, rfl⟩ := RdB.form hp1
 replace H := H.mut (f := RdYB 5 117 r A0 n0 c0 Y v b s) (f' := RdYB 5 117 r A0 n0 c0 Y (.slice B1 (List.length [b0]) d1) [b0] s1) hf1 hp1 (fun _ h => h)
 clear hp1 hf1
 refine sR rfl rfl (d_iaB rfl (RdB.rd (H.get (f := RdYB 5 117 r A0 n0 c0 Y (.slice B1 (List.length [b0]) d1) [b0] s1))) rfl rfl (q := 0) rfl (by exact Nat.zero_lt_one) tu35 ts5) ?_
 refine sR rfl rfl (d_ldB rfl (RdB.rd (H.get (f := RdYB 5 117 r A0 n0 c0 Y (.slice B1 (List.length [b0]) d1) [b0] s1))) ((rfl : [b0][0]? = some b0)) rfl ta5) (s_eff (e_alloc (w_none rfl) rfl rfl [.int .u8 0] tz5 H ?_))
 clear H; intro g3 W H
 refine s_eff (e_sto (w_none rfl) rfl rfl rfl rfl rfl ts5 rfl H rfl ?_)
 clear H; intro W H
 refine l_nil (k_seq (k_region (sR rfl rfl (d_arrA rfl rfl tu107 ts106) (sR rfl rfl (d_mkf rfl rfl rfl) (sC rfl rfl rfl Tryz.func120 rfl rfl rfl (indexF _ (H.gatT hG hT) (gat_of H.blk)) ?_)))))
 rintro _ W ⟨rfl, hb⟩
 replace H := H.below hb
 clear hb
 refine sAi rfl rfl rfl rfl (l_nil (k_seq (k_seq ?_)))
 obtain ⟨j, hj1, hj2, hj3, hj4⟩ := idx_pos hw
 refine k_region (sMi rfl rfl rfl rfl (sR rfl rfl (d_lt rfl rfl rfl) (l_nil (k_condF rfl (by rw [hj1]; simp) ?_))))
 refine k_skip (k_seq (k_region (s_eff (e_alloc (w_none rfl) rfl rfl [.int .u64 0] tz104 H ?_))))
 clear H; intro g5 W H
 refine s_eff (e_sto (w_none rfl) rfl rfl rfl rfl rfl ts104 rfl H rfl ?_)
 clear H; intro W H
 refine l_nil (k_seq (k_seq (k_region (sMp rfl rfl rfl rfl (sMi rfl rfl rfl rfl (sR rfl rfl (d_iaA rfl rfl rfl (q := j) hj1 tu107 hj2 ts106) (sR rfl rfl (d_fa rfl rfl tf106_1) (sR rfl rfl (d_ldG rfl (H.gatT hG hT) rfl ta3 hj3) (sC rfl rfl rfl Tryz.func99 rfl rfl rfl (takeE _ h2 (by rfl) (H.get (f := RdYB 5 117 r A0 n0 c0 Y (.slice B1 (List.length [b0]) d1) [b0] s1)) h1e h2e) ?_)))))))))
 rintro _ W ⟨hp2, hf2⟩
 obtain ⟨B2, d2, rfl⟩ := RdB.form hp2
 replace H := H.mut (f := RdYB 5 117 r A0 n0 c0 Y (.slice B1 (List.length [b0]) d1) [b0] s1) (f' := RdYB 5 117 r A0 n0 c0 Y (.slice B2 (List.length l) d2) l s2) hf2 hp2 (fun _ h => h)
 clear hp2 hf2
 refine sC rfl rfl rfl Tryz.func122 rfl rfl rfl (backward (v := (.slice B2 (List.length l) d2)) _ rfl) ?_
 rintro _ W ⟨q, rfl, hn⟩
 replace H := H.new hn
 clear hn
 refine l_nil (k_block (k_rangeF (α := Nat × UInt8) (e0 := fun x => .int .i64 (x.1 : Int)) (e1 := fun x => u8v x.2) (K0 := (fun g => g = q ∨ RdT r A0 n0 c0 g)) (fun pre => [Fact.blk q [(.slice B2 (List.length l) d2)] 35, Fact.blk g5 [.int .u64 (acc pre : Int)] 104, Fact.blk g3 [u8v b0] 5, RdYB 5 117 r A0 n0 c0 Y (.slice B2 (List.length l) d2) l s2]) 7 rfl Tryz.func128 rfl rfl (back_stops W (gat_of H.blk) ((RdB.rdT (H.get (f := RdYB 5 117 r A0 n0 c0 Y (.slice B2 (List.length l) d2) l s2))).mono (fun g _ h => .inr h)) (.inl rfl) (by omega)) H (by rintro g (rfl | hg); exact blk_lt (H.blk (g := _)); exact RdB.lt (H.get (f := RdYB 5 117 r A0 n0 c0 Y (.slice B2 (List.length l) d2) l s2)) g hg) (fun _ => rfl) ?_ ?_ ?_))
 ·intro l x W' K hK'
  refine kb_region (r_run (fun _ => trivial) (fun c h => by cases h) (w_none rfl) rfl (d_asg rfl rfl) ?_)
  exact r_nil hK'
 ·intro _ pre x W H hlen
  have hap := List.pairwise_cons.1 H.apart
  have hap2 := List.pairwise_cons.1 hap.2
  have hq5 : ∀ g, (g = q ∨ RdT r A0 n0 c0 g) → ¬ g = g5 := by
   rintro g (rfl | hg) e
   ·exact hap.1 _ (.head _) g rfl e
   ·exact hap2.1 _ (.tail _ (.head _)) g e hg
  have hqs : ∀ g, (g = q ∨ RdT r A0 n0 c0 g) → g < W.heap.size := by
   rintro g (rfl | hg)
   ·exact blk_lt (H.blk (g := _))
   ·exact RdB.lt (H.get (f := RdYB 5 117 r A0 n0 c0 Y (.slice B2 (List.length l) d2) l s2)) g hg
  have ha := acc_lt (xs := pre) (by omega)
  refine wpIn_block (kb_region (r_run (fun _ => trivial) (fun c h => by cases h) (w_none rfl) rfl (d_ld rfl H rfl ta104 rfl) ?_))
  refine r_run (fun _ => trivial) (fun c h => by cases h) (w_none rfl) rfl (d_shl (m := 8) (c := (acc pre : Int) * 256) rfl rfl rfl rfl (by decide) (IntWalk.u64_in _ (by omega))) ?_
  refine r_run (fun _ => trivial) (fun c h => by cases h) (w_none rfl) rfl (mv_i rfl rfl) ?_
  refine r_run (fun _ => trivial) (fun c h => by cases h) (w_none rfl) rfl (d_conv rfl rfl (by rw [tu5]; rfl) tu104 (IntWalk.u64_in _ (by have := x.2.toNat_lt; omega))) ?_
  refine r_run (fun _ => trivial) (fun c h => by cases h) (w_none rfl) rfl (d_bitW rfl rfl rfl (or_u64 ha)) ?_
  refine r_sto (fun _ => trivial) (w_none rfl) rfl rfl rfl rfl rfl ts104 rfl H ?_
  clear H; intro W2 H hFr hKO
  refine r_nil ?_
  rw [← acc_snoc] at H
  exact ⟨rfl, hKO, fun g hg => hFr.block g (hqs g hg) (hq5 g hg), H⟩
 clear H; intro D xs W hS H
 subst hS
 rw [acc_all] at H
 refine k_nil (b_end (k_seq (k_region (sR rfl rfl (d_ld rfl H rfl ta104 rfl) (sR rfl rfl (d_lt rfl rfl rfl) (sC rfl rfl rfl Tryz.func118 rfl rfl rfl (mustOk _ _ (by simp; omega)) ?_))))))
 rintro _ W ⟨rfl, hb⟩
 replace H := H.below hb
 clear hb
 refine l_nil (k_seq (k_drawP 0 [(0, true), (1, true), (2, true), (3, true), (4, true), (5, true), (6, false)] _ (by kernel_rfl) (by kernel_rfl) (by kernel_rfl) H (.refl _) ?_))
 clear H; intro W H
 refine cR rfl rfl rfl (fun W H => d_ld rfl H rfl ta104 rfl) (cR rfl rfl rfl (fun W H => mv_i rfl rfl) (cR rfl rfl rfl (fun W H => d_iaA rfl rfl rfl (q := j) hj1 tu107 hj2 ts106) (cR rfl rfl rfl (fun W H => d_fa rfl rfl tf106_2) (cR rfl rfl rfl (fun W H => d_ldG rfl (H.gatT hG hT) rfl ta104 hj4) (cR rfl rfl rfl (fun W H => d_ge rfl rfl rfl) (c_eff rfl (e_callP (w_none rfl) rfl Tryz.func118 rfl rfl rfl (mustBad _ _ (by simp; omega)) ?_)))))))
 intro W hb
 replace H := H.below hb
 exact p_lo (fun a hd _ => q_panMa (P := Tryz.prog) (fn := Tryz.f101) hd H (fun W H => ⟨rfl, ⟨_, RdB.toP (H.get (f := RdYB 5 117 r A0 n0 c0 Y (.slice B2 (List.length l) d2) l s2))⟩, H.fr⟩))

theorem numG {A0 : Option Addr} {n0 c0 r : Nat} {Y : List UInt8 → Prop} {v : Value} {b : List UInt8} {s : RS} (w : World) {s1 s2 : RS} {b0 : UInt8} {l : List UInt8} (hR : (RdYB 5 117 r A0 n0 c0 Y v b s).p w) (hG : Gat w 0 formsC) (hT : ¬ RdT r A0 n0 c0 0) (he : s.2 = 0) (h1 : Pk.next 1 s = ([b0], s1)) (h1e : s1.2 = 0) (hw : Pk.wide b0 ≠ 0) (h2 : Pk.next (Pk.wide b0) s1 = (l, s2)) (h2e : s2.2 = 0) (hu : Pk.ofLe l < 9223372036854775808) (hf : ¬ Pk.ofLe l < Pk.least b0) : Calls Tryz.prog 101 [.pointer (some ⟨r, 0, none⟩)].toArray w (Ret (fun v' w' => v' = .int .i64 (Pk.ofLe l : Int) ∧ (RdYP 5 117 r A0 n0 c0 Y s2).p w' ∧ Fr (RdT r A0 n0 c0) w w')) := by
 refine k_enterM (l := [_]) Tryz.func101 rfl rfl ?_
 have H := St.begin (f := RdYB 5 117 r A0 n0 c0 Y v b s) hR (RdB.lt hR)
 have hw8 : Pk.wide b0 ≤ 8 := by rcases Pk.wide_of (c := b0) with h | h | h | h <;> omega
 have hll : l.length ≤ 8 := by have := Pk.next_len (n := Pk.wide b0) (s := s1); rw [h2] at this; simp only at this; omega
 refine k_seq (k_region (sAi rfl rfl rfl rfl (l_nil (k_seq (k_region (sMp rfl rfl rfl rfl (sC rfl rfl rfl Tryz.func99 rfl rfl rfl (takeE _ h1 (by rfl) (H.get (f := RdYB 5 117 r A0 n0 c0 Y v b s)) he h1e) ?_)))))))
 rintro _ W ⟨hp1, hf1⟩
 obtain ⟨B1, d1, rfl⟩ := RdB.form hp1
 replace H := H.mut (f := RdYB 5 117 r A0 n0 c0 Y v b s) (f' := RdYB 5 117 r A0 n0 c0 Y (.slice B1 (List.length [b0]) d1) [b0] s1) hf1 hp1 (fun _ h => h)
 clear hp1 hf1
 refine sR rfl rfl (d_iaB rfl (RdB.rd (H.get (f := RdYB 5 117 r A0 n0 c0 Y (.slice B1 (List.length [b0]) d1) [b0] s1))) rfl rfl (q := 0) rfl (by exact Nat.zero_lt_one) tu35 ts5) ?_
 refine sR rfl rfl (d_ldB rfl (RdB.rd (H.get (f := RdYB 5 117 r A0 n0 c0 Y (.slice B1 (List.length [b0]) d1) [b0] s1))) ((rfl : [b0][0]? = some b0)) rfl ta5) (s_eff (e_alloc (w_none rfl) rfl rfl [.int .u8 0] tz5 H ?_))
 clear H; intro g3 W H
 refine s_eff (e_sto (w_none rfl) rfl rfl rfl rfl rfl ts5 rfl H rfl ?_)
 clear H; intro W H
 refine l_nil (k_seq (k_region (sR rfl rfl (d_arrA rfl rfl tu107 ts106) (sR rfl rfl (d_mkf rfl rfl rfl) (sC rfl rfl rfl Tryz.func120 rfl rfl rfl (indexF _ (H.gatT hG hT) (gat_of H.blk)) ?_)))))
 rintro _ W ⟨rfl, hb⟩
 replace H := H.below hb
 clear hb
 refine sAi rfl rfl rfl rfl (l_nil (k_seq (k_seq ?_)))
 obtain ⟨j, hj1, hj2, hj3, hj4⟩ := idx_pos hw
 refine k_region (sMi rfl rfl rfl rfl (sR rfl rfl (d_lt rfl rfl rfl) (l_nil (k_condF rfl (by rw [hj1]; simp) ?_))))
 refine k_skip (k_seq (k_region (s_eff (e_alloc (w_none rfl) rfl rfl [.int .u64 0] tz104 H ?_))))
 clear H; intro g5 W H
 refine s_eff (e_sto (w_none rfl) rfl rfl rfl rfl rfl ts104 rfl H rfl ?_)
 clear H; intro W H
 refine l_nil (k_seq (k_seq (k_region (sMp rfl rfl rfl rfl (sMi rfl rfl rfl rfl (sR rfl rfl (d_iaA rfl rfl rfl (q := j) hj1 tu107 hj2 ts106) (sR rfl rfl (d_fa rfl rfl tf106_1) (sR rfl rfl (d_ldG rfl (H.gatT hG hT) rfl ta3 hj3) (sC rfl rfl rfl Tryz.func99 rfl rfl rfl (takeE _ h2 (by rfl) (H.get (f := RdYB 5 117 r A0 n0 c0 Y (.slice B1 (List.length [b0]) d1) [b0] s1)) h1e h2e) ?_)))))))))
 rintro _ W ⟨hp2, hf2⟩
 obtain ⟨B2, d2, rfl⟩ := RdB.form hp2
 replace H := H.mut (f := RdYB 5 117 r A0 n0 c0 Y (.slice B1 (List.length [b0]) d1) [b0] s1) (f' := RdYB 5 117 r A0 n0 c0 Y (.slice B2 (List.length l) d2) l s2) hf2 hp2 (fun _ h => h)
 clear hp2 hf2
 refine sC rfl rfl rfl Tryz.func122 rfl rfl rfl (backward (v := (.slice B2 (List.length l) d2)) _ rfl) ?_
 rintro _ W ⟨q, rfl, hn⟩
 replace H := H.new hn
 clear hn
 refine l_nil (k_block (k_rangeF (α := Nat × UInt8) (e0 := fun x => .int .i64 (x.1 : Int)) (e1 := fun x => u8v x.2) (K0 := (fun g => g = q ∨ RdT r A0 n0 c0 g)) (fun pre => [Fact.blk q [(.slice B2 (List.length l) d2)] 35, Fact.blk g5 [.int .u64 (acc pre : Int)] 104, Fact.blk g3 [u8v b0] 5, RdYB 5 117 r A0 n0 c0 Y (.slice B2 (List.length l) d2) l s2]) 7 rfl Tryz.func128 rfl rfl (back_stops W (gat_of H.blk) ((RdB.rdT (H.get (f := RdYB 5 117 r A0 n0 c0 Y (.slice B2 (List.length l) d2) l s2))).mono (fun g _ h => .inr h)) (.inl rfl) (by omega)) H (by rintro g (rfl | hg); exact blk_lt (H.blk (g := _)); exact RdB.lt (H.get (f := RdYB 5 117 r A0 n0 c0 Y (.slice B2 (List.length l) d2) l s2)) g hg) (fun _ => rfl) ?_ ?_ ?_))
 ·intro l x W' K hK'
  refine kb_region (r_run (fun _ => trivial) (fun c h => by cases h) (w_none rfl) rfl (d_asg rfl rfl) ?_)
  exact r_nil hK'
 ·intro _ pre x W H hlen
  have hap := List.pairwise_cons.1 H.apart
  have hap2 := List.pairwise_cons.1 hap.2
  have hq5 : ∀ g, (g = q ∨ RdT r A0 n0 c0 g) → ¬ g = g5 := by
   rintro g (rfl | hg) e
   ·exact hap.1 _ (.head _) g rfl e
   ·exact hap2.1 _ (.tail _ (.head _)) g e hg
  have hqs : ∀ g, (g = q ∨ RdT r A0 n0 c0 g) → g < W.heap.size := by
   rintro g (rfl | hg)
   ·exact blk_lt (H.blk (g := _))
   ·exact RdB.lt (H.get (f := RdYB 5 117 r A0 n0 c0 Y (.slice B2 (List.length l) d2) l s2)) g hg
  have ha := acc_lt (xs := pre) (by omega)
  refine wpIn_block (kb_region (r_run (fun _ => trivial) (fun c h => by cases h) (w_none rfl) rfl (d_ld rfl H rfl ta104 rfl) ?_))
  refine r_run (fun _ => trivial) (fun c h => by cases h) (w_none rfl) rfl (d_shl (m := 8) (c := (acc pre : Int) * 256) rfl rfl rfl rfl (by decide) (IntWalk.u64_in _ (by omega))) ?_
  refine r_run (fun _ => trivial) (fun c h => by cases h) (w_none rfl) rfl (mv_i rfl rfl) ?_
  refine r_run (fun _ => trivial) (fun c h => by cases h) (w_none rfl) rfl (d_conv rfl rfl (by rw [tu5]; rfl) tu104 (IntWalk.u64_in _ (by have := x.2.toNat_lt; omega))) ?_
  refine r_run (fun _ => trivial) (fun c h => by cases h) (w_none rfl) rfl (d_bitW rfl rfl rfl (or_u64 ha)) ?_
  refine r_sto (fun _ => trivial) (w_none rfl) rfl rfl rfl rfl rfl ts104 rfl H ?_
  clear H; intro W2 H hFr hKO
  refine r_nil ?_
  rw [← acc_snoc] at H
  exact ⟨rfl, hKO, fun g hg => hFr.block g (hqs g hg) (hq5 g hg), H⟩
 clear H; intro D xs W hS H
 subst hS
 rw [acc_all] at H
 refine k_nil (b_end (k_seq (k_region (sR rfl rfl (d_ld rfl H rfl ta104 rfl) (sR rfl rfl (d_lt rfl rfl rfl) (sC rfl rfl rfl Tryz.func118 rfl rfl rfl (mustOk _ _ (by simp; omega)) ?_))))))
 rintro _ W ⟨rfl, hb⟩
 replace H := H.below hb
 clear hb
 refine l_nil (k_seq (k_drawP 0 [(0, true), (1, true), (2, true), (3, true), (4, true), (5, true), (6, false)] _ (by kernel_rfl) (by kernel_rfl) (by kernel_rfl) H (.refl _) ?_))
 clear H; intro W H
 refine cR rfl rfl rfl (fun W H => d_ld rfl H rfl ta104 rfl) (cR rfl rfl rfl (fun W H => mv_i rfl rfl) (cR rfl rfl rfl (fun W H => d_iaA rfl rfl rfl (q := j) hj1 tu107 hj2 ts106) (cR rfl rfl rfl (fun W H => d_fa rfl rfl tf106_2) (cR rfl rfl rfl (fun W H => d_ldG rfl (H.gatT hG hT) rfl ta104 hj4) (cR rfl rfl rfl (fun W H => d_ge rfl rfl rfl) (c_eff rfl (e_call (w_none rfl) rfl rfl Tryz.func118 rfl rfl rfl (mustOk _ _ (by simp; omega)) ?_)))))))
 rintro _ W ⟨rfl, hb⟩
 replace H := H.below hb
 clear hb
 refine ⟨H.sub (by repeat (first | exact .refl _ | exact List.nil_sublist _ | refine .cons_cons _ ?_ | refine .cons _ ?_)), ?_⟩
 refine c_nilP (k_seq (k_region (sR rfl rfl (d_ld rfl H rfl ta104 rfl) (sR rfl rfl (d_conv rfl rfl (by rw [tu104]; rfl) tu3 (IntWalk.i64_in _ (by omega))) ?_))))
 refine sAi rfl rfl rfl rfl (l_nil (k_ret ?_))
 repeat (first | refine r_then ?_ | refine r_blk ?_)
 exact q_retM (P := Tryz.prog) (fn := Tryz.f101) (v := .int .i64 _) rfl rfl H (fun W H => ⟨_, rfl, rfl, RdB.toP (H.get (f := RdYB 5 117 r A0 n0 c0 Y (.slice B2 (List.length l) d2) l s2)), H.fr⟩)

/-- number: what it tells, or why it panics. -/
theorem number {A0 : Option Addr} {n0 c0 r : Nat} {Y : List UInt8 → Prop} {v : Value} {b : List UInt8} {s : RS} (w : World) (hR : (RdYB 5 117 r A0 n0 c0 Y v b s).p w) (hG : Gat w 0 formsC) (hT : ¬ RdT r A0 n0 c0 0) (he : s.2 = 0) : (((Pk.rInt s).2.2 = 0 → Calls Tryz.prog 101 [.pointer (some ⟨r, 0, none⟩)].toArray w (Ret (fun v' w' => v' = .int .i64 ((Pk.rInt s).1 : Int) ∧ (RdYP 5 117 r A0 n0 c0 Y (Pk.rInt s).2).p w' ∧ Fr (RdT r A0 n0 c0) w w'))) ∧
  ((Pk.rInt s).2.2 ≠ 0 → (Pk.rInt s) = (0, ([], (Pk.rInt s).2.2)) ∧ Calls Tryz.prog 101 [.pointer (some ⟨r, 0, none⟩)].toArray w (Pan (why (Pk.rInt s).2.2) (fun w' => (∃ s', (RdYP 5 117 r A0 n0 c0 Y s').p w') ∧ Fr (RdT r A0 n0 c0) w w')))) := by
 rcases h1 : Pk.next 1 s with ⟨l1, s1⟩
 by_cases h1e : s1.2 = 0
 ·have hl1 := (Pk.next_eq h1).1 h1e
  obtain ⟨b0, rfl⟩ : ∃ b0, l1 = [b0] := by
   match l1, hl1 with
   | [b0], _ => exact ⟨b0, rfl⟩
  by_cases hw : Pk.wide b0 = 0
  ·have e : Pk.rInt s = (b0.toNat, s1) := by unfold Pk.rInt; rw [h1]; simp only [hw, if_true]
   rw [e]
   exact ⟨fun _ => numC w hR hG hT he h1 h1e hw, fun h => absurd h1e h⟩
  ·rcases h2 : Pk.next (Pk.wide b0) s1 with ⟨l, s2⟩
   by_cases h2e : s2.2 = 0
   ·rcases Nat.lt_or_ge (Pk.ofLe l) 9223372036854775808 with hu | hu
    ·by_cases hf : Pk.ofLe l < Pk.least b0
     ·have e : Pk.rInt s = (0, ([], 10)) := by unfold Pk.rInt; rw [h1]; simp only [hw, if_false, h2, h2e, ne_eq, not_true_eq_false]; unfold Pk.num; rw [if_neg (by omega), if_pos hf]
      rw [e]
      exact ⟨fun h => absurd h (by decide), fun _ => ⟨rfl, numF w hR hG hT he h1 h1e hw h2 h2e hu hf⟩⟩
     ·have e : Pk.rInt s = (Pk.ofLe l, s2) := by unfold Pk.rInt; rw [h1]; simp only [hw, if_false, h2, h2e, ne_eq, not_true_eq_false]; unfold Pk.num; rw [if_neg (by omega), if_neg hf]
      rw [e]
      exact ⟨fun _ => numG w hR hG hT he h1 h1e hw h2 h2e hu hf, fun h => absurd h2e h⟩
    ·have e : Pk.rInt s = (0, ([], 15)) := by unfold Pk.rInt; rw [h1]; simp only [hw, if_false, h2, h2e, ne_eq, not_true_eq_false]; unfold Pk.num; rw [if_pos hu]
     rw [e]
     exact ⟨fun h => absurd h (by decide), fun _ => ⟨rfl, numE w hR hG hT he h1 h1e hw h2 h2e hu⟩⟩
   ·have hs2 := ((Pk.next_s h2 h1e).2 h2e).2
    have e : Pk.rInt s = (0, s2) := by unfold Pk.rInt; rw [h1]; simp only [hw, if_false, h2, h2e, ne_eq, not_false_eq_true, if_true]
    rw [e]
    have hd := numD w hR hG hT he h1 h1e hw h2 h2e
    subst hs2
    exact ⟨fun h => absurd h h2e, fun _ => ⟨rfl, hd⟩⟩
 ·have hs1 := ((Pk.next_s h1 he).2 h1e).2
  have hl1 := (Pk.next_eq h1).2 h1e
  obtain rfl : l1 = [] := List.eq_nil_of_length_eq_zero hl1
  have e : Pk.rInt s = (0, s1) := by unfold Pk.rInt; rw [h1]
  rw [e]
  have hd := numA w hR hG hT he h1 h1e
  subst hs1
  exact ⟨fun h => absurd h h1e, fun _ => ⟨rfl, hd⟩⟩
end Go.Proofs.YteakkflhndifbaaGreatDoor

namespace Go.Proofs.YteakkflhndifbaaGreatDoor
open Go Go.RowKit
attribute [local irreducible] wpList

theorem cntA {A0 : Option Addr} {n0 c0 r : Nat} {Y : List UInt8 → Prop} {v : Value} {b : List UInt8} {s : RS} (w : World) {m : Int} (hR : (RdYB 5 117 r A0 n0 c0 Y v b s).p w) (hG : Gat w 0 formsC) (hT : ¬ RdT r A0 n0 c0 0) (he : s.2 = 0) (hn : (Pk.rInt s).2.2 ≠ 0) : Calls Tryz.prog 104 [.pointer (some ⟨r, 0, none⟩), .int .i64 m].toArray w (Pan (why (Pk.rInt s).2.2) (fun w' => (∃ s', (RdYP 5 117 r A0 n0 c0 Y s').p w') ∧ Fr (RdT r A0 n0 c0) w w')) := by
 refine k_enter (l := [_, _]) Tryz.func104 rfl rfl ?_
 have H := St.begin (f := RdYB 5 117 r A0 n0 c0 Y v b s) hR (RdB.lt hR)
 refine k_seq (k_region (sAi rfl rfl rfl rfl (l_nil (k_seq (k_region (sMp rfl rfl rfl rfl (s_eff (e_callP (w_none rfl) rfl Tryz.func101 rfl rfl rfl ((number _ (H.get (f := RdYB 5 117 r A0 n0 c0 Y v b s)) (H.gatT hG hT) hT he).2 hn).2 ?_))))))))
 rintro W ⟨⟨s', hp⟩, hf⟩
 replace H := H.mut (f := RdYB 5 117 r A0 n0 c0 Y v b s) (f' := RdYP 5 117 r A0 n0 c0 Y s') hf hp (fun _ h => h)
 exact ⟨rfl, rfl, ⟨_, H.get (f := RdYP 5 117 r A0 n0 c0 Y s')⟩, H.fr⟩

theorem cntB {A0 : Option Addr} {n0 c0 r : Nat} {Y : List UInt8 → Prop} {v : Value} {b : List UInt8} {s : RS} (w : World) {m : Int} (hR : (RdYB 5 117 r A0 n0 c0 Y v b s).p w) (hG : Gat w 0 formsC) (hT : ¬ RdT r A0 n0 c0 0) (he : s.2 = 0) (hn : (Pk.rInt s).2.2 = 0) (hm : m < ((Pk.rInt s).1 : Int)) : Calls Tryz.prog 104 [.pointer (some ⟨r, 0, none⟩), .int .i64 m].toArray w (Pan (why 3) (fun w' => (∃ s', (RdYP 5 117 r A0 n0 c0 Y s').p w') ∧ Fr (RdT r A0 n0 c0) w w')) := by
 refine k_enter (l := [_, _]) Tryz.func104 rfl rfl ?_
 have H := St.begin (f := RdYB 5 117 r A0 n0 c0 Y v b s) hR (RdB.lt hR)
 refine k_seq (k_region (sAi rfl rfl rfl rfl (l_nil (k_seq (k_region (sMp rfl rfl rfl rfl (sC rfl rfl rfl Tryz.func101 rfl rfl rfl ((number _ (H.get (f := RdYB 5 117 r A0 n0 c0 Y v b s)) (H.gatT hG hT) hT he).1 hn) ?_)))))))
 rintro _ W ⟨rfl, hp, hf⟩
 replace H := H.mut (f := RdYB 5 117 r A0 n0 c0 Y v b s) (f' := RdYP 5 117 r A0 n0 c0 Y (Pk.rInt s).2) hf hp (fun _ h => h)
 clear hp hf
 refine sAi rfl rfl rfl rfl (l_nil (k_seq (k_region (sMi rfl rfl rfl rfl (sMi rfl rfl rfl rfl (sR rfl rfl (d_le rfl rfl rfl) (s_eff (e_callP (w_none rfl) rfl Tryz.func118 rfl rfl rfl (mustBad _ _ (by simp; omega)) ?_))))))))
 intro W hb
 replace H := H.below hb
 exact ⟨rfl, rfl, ⟨_, H.get (f := RdYP 5 117 r A0 n0 c0 Y (Pk.rInt s).2)⟩, H.fr⟩

theorem cntC {A0 : Option Addr} {n0 c0 r : Nat} {Y : List UInt8 → Prop} {v : Value} {b : List UInt8} {s : RS} (w : World) {m : Int} (hR : (RdYB 5 117 r A0 n0 c0 Y v b s).p w) (hG : Gat w 0 formsC) (hT : ¬ RdT r A0 n0 c0 0) (he : s.2 = 0) (hn : (Pk.rInt s).2.2 = 0) (hm : ¬ m < ((Pk.rInt s).1 : Int)) : Calls Tryz.prog 104 [.pointer (some ⟨r, 0, none⟩), .int .i64 m].toArray w (Ret (fun v' w' => v' = .int .i64 ((Pk.rInt s).1 : Int) ∧ (RdYP 5 117 r A0 n0 c0 Y (Pk.rInt s).2).p w' ∧ Fr (RdT r A0 n0 c0) w w')) := by
 refine k_enter (l := [_, _]) Tryz.func104 rfl rfl ?_
 have H := St.begin (f := RdYB 5 117 r A0 n0 c0 Y v b s) hR (RdB.lt hR)
 refine k_seq (k_region (sAi rfl rfl rfl rfl (l_nil (k_seq (k_region (sMp rfl rfl rfl rfl (sC rfl rfl rfl Tryz.func101 rfl rfl rfl ((number _ (H.get (f := RdYB 5 117 r A0 n0 c0 Y v b s)) (H.gatT hG hT) hT he).1 hn) ?_)))))))
 rintro _ W ⟨rfl, hp, hf⟩
 replace H := H.mut (f := RdYB 5 117 r A0 n0 c0 Y v b s) (f' := RdYP 5 117 r A0 n0 c0 Y (Pk.rInt s).2) hf hp (fun _ h => h)
 clear hp hf
 refine sAi rfl rfl rfl rfl (l_nil (k_seq (k_region (sMi rfl rfl rfl rfl (sMi rfl rfl rfl rfl (sR rfl rfl (d_le rfl rfl rfl) (sC rfl rfl rfl Tryz.func118 rfl rfl rfl (mustOk _ _ (by simp; omega)) ?_)))))))
 rintro _ W ⟨rfl, hb⟩
 replace H := H.below hb
 clear hb
 refine l_nil (k_seq (k_region (sMi rfl rfl rfl rfl (sAi rfl rfl rfl rfl (l_nil (k_ret ?_))))))
 repeat (first | refine r_then ?_ | refine r_blk ?_)
 exact q_ret (v := .int _ _) rfl rfl ⟨_, rfl, rfl, H.get (f := RdYP 5 117 r A0 n0 c0 Y (Pk.rInt s).2), H.fr⟩

theorem count {A0 : Option Addr} {n0 c0 r : Nat} {Y : List UInt8 → Prop} {v : Value} {b : List UInt8} {s : RS} (w : World) {m : Int} (hR : (RdYB 5 117 r A0 n0 c0 Y v b s).p w) (hG : Gat w 0 formsC) (hT : ¬ RdT r A0 n0 c0 0) (he : s.2 = 0) : (((Pk.rCount m s).2.2 = 0 → Calls Tryz.prog 104 [.pointer (some ⟨r, 0, none⟩), .int .i64 m].toArray w (Ret (fun v' w' => v' = .int .i64 ((Pk.rCount m s).1 : Int) ∧ (RdYP 5 117 r A0 n0 c0 Y (Pk.rCount m s).2).p w' ∧ Fr (RdT r A0 n0 c0) w w'))) ∧
  ((Pk.rCount m s).2.2 ≠ 0 → (Pk.rCount m s) = (0, ([], (Pk.rCount m s).2.2)) ∧ Calls Tryz.prog 104 [.pointer (some ⟨r, 0, none⟩), .int .i64 m].toArray w (Pan (why (Pk.rCount m s).2.2) (fun w' => (∃ s', (RdYP 5 117 r A0 n0 c0 Y s').p w') ∧ Fr (RdT r A0 n0 c0) w w')))) := by
 by_cases hn : (Pk.rInt s).2.2 = 0
 ·by_cases hm : m < ((Pk.rInt s).1 : Int)
  ·have e : Pk.rCount m s = (0, ([], 3)) := by unfold Pk.rCount; rw [if_pos ⟨hn, hm⟩]
   rw [e]
   exact ⟨fun h => absurd h (by decide), fun _ => ⟨rfl, cntB w hR hG hT he hn hm⟩⟩
  ·have e : Pk.rCount m s = Pk.rInt s := by unfold Pk.rCount; rw [if_neg (fun h => hm h.2)]
   rw [e]
   exact ⟨fun _ => cntC w hR hG hT he hn hm, fun h => absurd hn h⟩
 ·have e : Pk.rCount m s = Pk.rInt s := by unfold Pk.rCount; rw [if_neg (fun h => hn h.1)]
  rw [e]
  exact ⟨fun h => absurd h hn, fun _ => ⟨((number w hR hG hT he).2 hn).1, cntA w hR hG hT he hn⟩⟩

theorem oneCount {A0 : Option Addr} {n0 c0 r : Nat} {Y : List UInt8 → Prop} {v : Value} {b : List UInt8} {s : RS} (w : World) {gb gm : Nat} {m : Int} (hR : (RdYB 5 117 r A0 n0 c0 Y v b s).p w) (hG : Gat w 0 formsC) (hT : ¬ RdT r A0 n0 c0 0) (he : s.2 = 0) (hgb : Gat w gb [.pointer (some ⟨r, 0, none⟩)]) (hTb : ¬ RdT r A0 n0 c0 gb) (hgm : Gat w gm [.int .i64 m]) (hTm : ¬ RdT r A0 n0 c0 gm) (hn : (Pk.rCount m s).2.2 = 0) : Calls Tryz.prog 116 [.pointer (some ⟨gb, 0, none⟩), .pointer (some ⟨gm, 0, none⟩)].toArray w (Ret (fun v' w' => v' = .int .i64 ((Pk.rCount m s).1 : Int) ∧ (RdYP 5 117 r A0 n0 c0 Y (Pk.rCount m s).2).p w' ∧ Fr (RdT r A0 n0 c0) w w')) := by
 refine k_enter (l := [_, _]) Tryz.func116 rfl rfl ?_
 have H := St.begin (f := RdYB 5 117 r A0 n0 c0 Y v b s) hR (RdB.lt hR)
 refine k_seq (k_region (sAi rfl rfl rfl rfl (l_nil (k_seq (k_region (sR rfl rfl (d_ldG rfl ((H.gatT hgb hTb)) rfl ta85 rfl) (sR rfl rfl (d_ldG rfl ((H.gatT hgm hTm)) rfl ta3 rfl) (sC rfl rfl rfl Tryz.func104 rfl rfl rfl ((count _ (H.get (f := RdYB 5 117 r A0 n0 c0 Y v b s)) (H.gatT hG hT) hT he).1 hn) ?_))))))))
 rintro _ W ⟨rfl, hp, hf⟩
 replace H := H.mut (f := RdYB 5 117 r A0 n0 c0 Y v b s) (f' := RdYP 5 117 r A0 n0 c0 Y (Pk.rCount m s).2) hf hp (fun _ h => h)
 clear hp hf
 refine sAi rfl rfl rfl rfl (l_nil (k_ret ?_))
 repeat (first | refine r_then ?_ | refine r_blk ?_)
 exact q_ret (v := .int _ _) rfl rfl ⟨_, rfl, rfl, H.get (f := RdYP 5 117 r A0 n0 c0 Y (Pk.rCount m s).2), H.fr⟩

theorem oneCountP {A0 : Option Addr} {n0 c0 r : Nat} {Y : List UInt8 → Prop} {v : Value} {b : List UInt8} {s : RS} (w : World) {gb gm : Nat} {m : Int} (hR : (RdYB 5 117 r A0 n0 c0 Y v b s).p w) (hG : Gat w 0 formsC) (hT : ¬ RdT r A0 n0 c0 0) (he : s.2 = 0) (hgb : Gat w gb [.pointer (some ⟨r, 0, none⟩)]) (hTb : ¬ RdT r A0 n0 c0 gb) (hgm : Gat w gm [.int .i64 m]) (hTm : ¬ RdT r A0 n0 c0 gm) (hn : (Pk.rCount m s).2.2 ≠ 0) : Calls Tryz.prog 116 [.pointer (some ⟨gb, 0, none⟩), .pointer (some ⟨gm, 0, none⟩)].toArray w (Pan (why (Pk.rCount m s).2.2) (fun w' => (∃ s', (RdYP 5 117 r A0 n0 c0 Y s').p w') ∧ Fr (RdT r A0 n0 c0) w w')) := by
 refine k_enter (l := [_, _]) Tryz.func116 rfl rfl ?_
 have H := St.begin (f := RdYB 5 117 r A0 n0 c0 Y v b s) hR (RdB.lt hR)
 refine k_seq (k_region (sAi rfl rfl rfl rfl (l_nil (k_seq (k_region (sR rfl rfl (d_ldG rfl ((H.gatT hgb hTb)) rfl ta85 rfl) (sR rfl rfl (d_ldG rfl ((H.gatT hgm hTm)) rfl ta3 rfl) (s_eff (e_callP (w_none rfl) rfl Tryz.func104 rfl rfl rfl ((count _ (H.get (f := RdYB 5 117 r A0 n0 c0 Y v b s)) (H.gatT hG hT) hT he).2 hn).2 ?_)))))))))
 rintro W ⟨⟨s', hp⟩, hf⟩
 replace H := H.mut (f := RdYB 5 117 r A0 n0 c0 Y v b s) (f' := RdYP 5 117 r A0 n0 c0 Y s') hf hp (fun _ h => h)
 exact ⟨rfl, rfl, ⟨_, H.get (f := RdYP 5 117 r A0 n0 c0 Y s')⟩, H.fr⟩

theorem oneBlobP {A0 : Option Addr} {n0 c0 r : Nat} {Y : List UInt8 → Prop} {v : Value} {b : List UInt8} {s : RS} (w : World) {gb gm : Nat} {m : Int} (hR : (RdYB 5 117 r A0 n0 c0 Y v b s).p w) (hG : Gat w 0 formsC) (hT : ¬ RdT r A0 n0 c0 0) (he : s.2 = 0) (hgb : Gat w gb [.pointer (some ⟨r, 0, none⟩)]) (hTb : ¬ RdT r A0 n0 c0 gb) (hgm : Gat w gm [.int .i64 m]) (hTm : ¬ RdT r A0 n0 c0 gm) (hn : (Pk.rCount m s).2.2 ≠ 0) : Calls Tryz.prog 103 [.pointer (some ⟨gb, 0, none⟩), .pointer (some ⟨gm, 0, none⟩)].toArray w (Pan (why (Pk.rCount m s).2.2) (fun w' => (∃ s', (RdYP 5 117 r A0 n0 c0 Y s').p w') ∧ Fr (RdT r A0 n0 c0) w w')) := by
 refine k_enter (l := [_, _]) Tryz.func103 rfl rfl ?_
 have H := St.begin (f := RdYB 5 117 r A0 n0 c0 Y v b s) hR (RdB.lt hR)
 refine k_seq (k_region (sAs rfl rfl rfl rfl (l_nil (k_seq (k_drawP 0 [(0, true), (1, true), (2, true), (3, false), (4, false), (5, true)] [] (by kernel_rfl) (by kernel_rfl) (by kernel_rfl) H (List.nil_sublist _) ?_)))))
 clear H; intro W H
 refine cR rfl rfl rfl (fun W H => d_ldG rfl ((H.gatT hgb hTb)) rfl ta85 rfl) (cR rfl rfl rfl (fun W H => d_ldG rfl ((H.gatT hgb hTb)) rfl ta85 rfl) (cR rfl rfl rfl (fun W H => d_ldG rfl ((H.gatT hgm hTm)) rfl ta3 rfl) (c_eff rfl (e_callP (w_none rfl) rfl Tryz.func104 rfl rfl rfl ((count _ (H.get (f := RdYB 5 117 r A0 n0 c0 Y v b s)) (H.gatT hG hT) hT he).2 hn).2 ?_))))
 rintro W ⟨⟨s', hp⟩, hf⟩
 replace H := H.mut (f := RdYB 5 117 r A0 n0 c0 Y v b s) (f' := RdYP 5 117 r A0 n0 c0 Y s') hf hp (fun _ h => h)
 exact p_lo (fun a hd _ => ⟨hd, rfl, ⟨_, H.get (f := RdYP 5 117 r A0 n0 c0 Y s')⟩, H.fr⟩)

theorem oneBlobQ {A0 : Option Addr} {n0 c0 r : Nat} {Y : List UInt8 → Prop} {v : Value} {b : List UInt8} {s : RS} (w : World) {gb gm : Nat} {m : Int} (hR : (RdYB 5 117 r A0 n0 c0 Y v b s).p w) (hG : Gat w 0 formsC) (hT : ¬ RdT r A0 n0 c0 0) (he : s.2 = 0) (hgb : Gat w gb [.pointer (some ⟨r, 0, none⟩)]) (hTb : ¬ RdT r A0 n0 c0 gb) (hgm : Gat w gm [.int .i64 m]) (hTm : ¬ RdT r A0 n0 c0 gm) (hn : (Pk.rCount m s).2.2 = 0) (hb : (Pk.rBlob m s).2.2 ≠ 0) : Calls Tryz.prog 103 [.pointer (some ⟨gb, 0, none⟩), .pointer (some ⟨gm, 0, none⟩)].toArray w (Pan (why 4) (fun w' => (∃ s', (RdYP 5 117 r A0 n0 c0 Y s').p w') ∧ Fr (RdT r A0 n0 c0) w w')) := by
 refine k_enter (l := [_, _]) Tryz.func103 rfl rfl ?_
 have H := St.begin (f := RdYB 5 117 r A0 n0 c0 Y v b s) hR (RdB.lt hR)
 refine k_seq (k_region (sAs rfl rfl rfl rfl (l_nil (k_seq (k_drawP 0 [(0, true), (1, true), (2, true), (3, false), (4, false), (5, true)] [] (by kernel_rfl) (by kernel_rfl) (by kernel_rfl) H (List.nil_sublist _) ?_)))))
 clear H; intro W H
 refine cR rfl rfl rfl (fun W H => d_ldG rfl ((H.gatT hgb hTb)) rfl ta85 rfl) (cR rfl rfl rfl (fun W H => d_ldG rfl ((H.gatT hgb hTb)) rfl ta85 rfl) (cR rfl rfl rfl (fun W H => d_ldG rfl ((H.gatT hgm hTm)) rfl ta3 rfl) (c_eff rfl (e_call (w_none rfl) rfl rfl Tryz.func104 rfl rfl rfl ((count _ (H.get (f := RdYB 5 117 r A0 n0 c0 Y v b s)) (H.gatT hG hT) hT he).1 hn) ?_))))
 rintro _ W ⟨rfl, hp, hf⟩
 replace H := H.mut (f := RdYB 5 117 r A0 n0 c0 Y v b s) (f' := RdYP 5 117 r A0 n0 c0 Y (Pk.rCount m s).2) hf hp (fun _ h => h)
 clear hp hf
 refine ⟨H.sub (by repeat (first | exact .refl _ | exact List.nil_sublist _ | refine .cons_cons _ ?_ | refine .cons _ ?_)), ?_⟩
 refine c_eff rfl (e_callP (w_none rfl) rfl Tryz.func99 rfl rfl rfl (takeSE (l := (Pk.rBlob m s).1) (s' := (Pk.rBlob m s).2) _ (by rfl) (by rfl) (H.get (f := RdYP 5 117 r A0 n0 c0 Y (Pk.rCount m s).2)) hn hb) ?_)
 rintro W ⟨hp, hf⟩
 replace H := H.mut (f := RdYP 5 117 r A0 n0 c0 Y (Pk.rCount m s).2) (f' := RdYP 5 117 r A0 n0 c0 Y (Pk.rCount m s).2) hf hp (fun _ h => h)
 exact p_lo (fun a hd _ => ⟨hd, rfl, ⟨_, H.get (f := RdYP 5 117 r A0 n0 c0 Y (Pk.rCount m s).2)⟩, H.fr⟩)

theorem oneBlob {A0 : Option Addr} {n0 c0 r : Nat} {Y : List UInt8 → Prop} {v : Value} {b : List UInt8} {s : RS} (w : World) {gb gm : Nat} {m : Int} (hR : (RdYB 5 117 r A0 n0 c0 Y v b s).p w) (hG : Gat w 0 formsC) (hT : ¬ RdT r A0 n0 c0 0) (he : s.2 = 0) (hgb : Gat w gb [.pointer (some ⟨r, 0, none⟩)]) (hTb : ¬ RdT r A0 n0 c0 gb) (hgm : Gat w gm [.int .i64 m]) (hTm : ¬ RdT r A0 n0 c0 gm) (hn : (Pk.rCount m s).2.2 = 0) (hb : (Pk.rBlob m s).2.2 = 0) : Calls Tryz.prog 103 [.pointer (some ⟨gb, 0, none⟩), .pointer (some ⟨gm, 0, none⟩)].toArray w (Ret (fun v' w' => (RdYB 5 117 r A0 n0 c0 Y v' (Pk.rBlob m s).1 (Pk.rBlob m s).2).p w' ∧ Fr (RdT r A0 n0 c0) w w')) := by
 refine k_enter (l := [_, _]) Tryz.func103 rfl rfl ?_
 have H := St.begin (f := RdYB 5 117 r A0 n0 c0 Y v b s) hR (RdB.lt hR)
 refine k_seq (k_region (sAs rfl rfl rfl rfl (l_nil (k_seq (k_drawP 0 [(0, true), (1, true), (2, true), (3, false), (4, false), (5, true)] [] (by kernel_rfl) (by kernel_rfl) (by kernel_rfl) H (List.nil_sublist _) ?_)))))
 clear H; intro W H
 refine cR rfl rfl rfl (fun W H => d_ldG rfl ((H.gatT hgb hTb)) rfl ta85 rfl) (cR rfl rfl rfl (fun W H => d_ldG rfl ((H.gatT hgb hTb)) rfl ta85 rfl) (cR rfl rfl rfl (fun W H => d_ldG rfl ((H.gatT hgm hTm)) rfl ta3 rfl) (c_eff rfl (e_call (w_none rfl) rfl rfl Tryz.func104 rfl rfl rfl ((count _ (H.get (f := RdYB 5 117 r A0 n0 c0 Y v b s)) (H.gatT hG hT) hT he).1 hn) ?_))))
 rintro _ W ⟨rfl, hp, hf⟩
 replace H := H.mut (f := RdYB 5 117 r A0 n0 c0 Y v b s) (f' := RdYP 5 117 r A0 n0 c0 Y (Pk.rCount m s).2) hf hp (fun _ h => h)
 clear hp hf
 refine ⟨H.sub (by repeat (first | exact .refl _ | exact List.nil_sublist _ | refine .cons_cons _ ?_ | refine .cons _ ?_)), ?_⟩
 refine c_eff rfl (e_call (w_none rfl) rfl rfl Tryz.func99 rfl rfl rfl (takeE (l := (Pk.rBlob m s).1) (s' := (Pk.rBlob m s).2) _ (by rfl) (by rfl) (H.get (f := RdYP 5 117 r A0 n0 c0 Y (Pk.rCount m s).2)) hn hb) ?_)
 rintro _ W ⟨hp1, hf1⟩
 obtain ⟨B1, d1, rfl⟩ := RdB.form hp1
 replace H := H.mut (f := RdYP 5 117 r A0 n0 c0 Y (Pk.rCount m s).2) (f' := RdYB 5 117 r A0 n0 c0 Y (.slice B1 (List.length (Pk.rBlob m s).1) d1) (Pk.rBlob m s).1 (Pk.rBlob m s).2) hf1 hp1 (fun _ h => h)
 clear hp1 hf1
 refine ⟨H.sub (by repeat (first | exact .refl _ | exact List.nil_sublist _ | refine .cons_cons _ ?_ | refine .cons _ ?_)), ?_⟩
 refine cR rfl rfl rfl (fun W H => as_s rfl rfl) (c_nilP (k_ret ?_))
 repeat (first | refine r_then ?_ | refine r_blk ?_)
 exact q_ret (v := .slice _ _ _) rfl rfl ⟨_, rfl, H.get (f := RdYB 5 117 r A0 n0 c0 Y (.slice B1 (List.length (Pk.rBlob m s).1) d1) (Pk.rBlob m s).1 (Pk.rBlob m s).2), H.fr⟩
end Go.Proofs.YteakkflhndifbaaGreatDoor

namespace Go.Proofs.YteakkflhndifbaaGreatDoor
open Go Go.RowKit
attribute [local irreducible] wpList

theorem tuIf : Tryz.prog.underlying 20 = some (.interface #[]) := by kernel_rfl
theorem tiIf : Tryz.prog.isIface 20 = true := by kernel_rfl
theorem tnE : (Tryz.prog.underlying 129).map (fun d => match d with | .interface _ => false | _ => true) = some true := by kernel_rfl
theorem recInt {gb go : Nat} {y : Value} (w : World) (hgb : Gat w gb [y]) : CallsD Tryz.prog 119 [.pointer (some ⟨gb, 0, none⟩), .pointer (some ⟨go, 0, none⟩)].toArray .returning w (fun e u' w' => (∃ v, e = .returned v) ∧ u' = .returning ∧ Below w.heap.size w w') := by
 refine k_enterR (l := [_, _]) (z := .nilIface) (u' := .returning) Tryz.func119 rfl rfl rfl rfl rfl rfl rfl rfl rfl rec_ret ?_
 have H := St.start nT w
 refine k_seq (k_region (sR rfl rfl (mv_ni rfl rfl) (sR rfl rfl (d_nenn rfl rfl rfl rfl tuIf) (l_nil (k_condF rfl (by first | (simp; done) | (simp; omega)) ?_)))))
 exact k_skip (k_nil (q_end0 rfl ⟨⟨_, rfl⟩, rfl, H.under⟩))

theorem recPInt {A0 : Option Addr} {n0 c0 r : Nat} {Y : List UInt8 → Prop} {s : RS} {gb go : Nat} {k : Int} {old : List Value} (w : World) (hR : (RdYP 5 117 r A0 n0 c0 Y s).p w) (hk : k ≠ 0) (hgb : Gat w gb [.pointer (some ⟨r, 0, none⟩)]) (hTb : ¬ RdT r A0 n0 c0 gb) (hbo : ¬ gb = go) (ho : w.heap[go]? = some (.cells old.toArray 3 (0, 0))) (hlo : old.length = 1) (hTo : ¬ RdT r A0 n0 c0 go) :
  CallsD Tryz.prog 119 [.pointer (some ⟨gb, 0, none⟩), .pointer (some ⟨go, 0, none⟩)].toArray (.panicking [{ v := why k, recovered := false }]) w (fun e u' w' => (∃ v, e = .returned v) ∧ u' = .panicking [{ v := why k, recovered := true }] ∧ (RdYP 5 117 r A0 n0 c0 Y ([], k)).p w' ∧ w'.heap[go]? = some (.cells ([.int .i64 0]).toArray 3 (0, 0)) ∧ Fr (fun g => g = go ∨ RdT r A0 n0 c0 g) w w') := by
 have hTb2 : ¬ (fun g => g = go ∨ RdT r A0 n0 c0 g) gb := fun h => h.elim hbo hTb
 have hne := RdB.ne hR
 obtain ⟨A, c, o, ys, hY, hL, hH, hn0, hc0, H0⟩ := RdB.two hR
 have H1 := H0.old (f := Fact.blk go old 3) ho (fun g hg => by cases hg; exact blk_lt ho) (fun x hx g hg hxg => by
  cases hg
  simp only [List.mem_cons, List.not_mem_nil, or_false] at hx
  rcases hx with rfl | rfl
  ·exact hTo (.inl hxg)
  ·exact hTo (.inr hxg))
 refine k_enterR (l := [_, _]) (z := why k) (u' := .panicking [{ v := why k, recovered := true }]) Tryz.func119 rfl rfl rfl rfl rfl rfl rfl rfl rfl rec_pan ?_
 have H := H1
 refine k_seq (k_region (sR rfl rfl (mv_if rfl rfl) (sR rfl rfl (d_neni rfl rfl rfl tiIf) (l_nil (k_condT rfl (by first | (simp; done) | (simp; omega)) ?_)))))
 refine k_seq (k_region (sR rfl rfl (mv_if rfl rfl) (sR rfl rfl (d_assertB rfl rfl tnE) (sR rfl rfl (mv_t rfl rfl) (sR rfl rfl (d_extract rfl rfl rfl) (sR rfl rfl (d_extract rfl rfl rfl) (s_eff (e_alloc (w_none rfl) rfl rfl [.int .i64 0] tz129 H ?_))))))))
 clear H; intro g3 W H
 refine s_eff (e_sto (w_none rfl) rfl rfl rfl rfl rfl ts129 rfl H rfl ?_)
 clear H; intro W H
 refine sAb rfl rfl rfl rfl (l_nil (k_seq (k_seq (k_region (sR rfl rfl (mv_b rfl rfl) (sR rfl rfl (d_not rfl rfl) (l_nil (k_condF rfl (by first | (simp; done) | (simp; omega)) ?_))))))))
 refine k_skip (k_seq (k_region (sAi rfl rfl rfl rfl (l_nil (k_region (sR rfl rfl (d_ldG rfl ((H.gatT hgb hTb2)) rfl ta85 rfl) (sR rfl rfl (d_ldG rfl ((H.gatT hgb hTb2)) rfl ta85 rfl) (sR rfl rfl (d_fa rfl rfl tf129_0) (sR rfl rfl (d_ld rfl H rfl ta42 rfl) (sMi rfl rfl rfl rfl ?_))))))))))
 refine sR rfl rfl (d_nil rfl rfl) (sR rfl rfl (d_fa rfl rfl tf117_1) (s_eff (e_sto (w_none rfl) rfl rfl rfl rfl rfl ts42 rfl H rfl ?_)))
 clear H; intro W H
 refine sR rfl rfl (d_nil rfl rfl) (sR rfl rfl (d_fa rfl rfl tf117_0) (s_eff (e_sto (w_none rfl) rfl rfl rfl rfl rfl ts35 rfl H rfl ?_)))
 clear H; intro W H
 refine s_eff (e_stoK ([.int .i64 0]) (w_none rfl) rfl rfl rfl rfl rfl ts3 rfl rfl H (by rw [hlo]; exact Nat.le_refl _) (spl_all (by rw [hlo]; rfl)) ?_)
 clear H; intro W H
 exact l_nil (k_nil (q_end0 rfl ⟨⟨_, rfl⟩, rfl, RdB.of (s := ([], k)) (o := o) (ys := ys) hY H hne rfl rfl (hL.bad hk) held_nil, H.get (f := Fact.blk go [.int .i64 0] 3), H.fr⟩))

theorem recHash {gb go : Nat} {y : Value} (w : World) (hgb : Gat w gb [y]) : CallsD Tryz.prog 117 [.pointer (some ⟨gb, 0, none⟩), .pointer (some ⟨go, 0, none⟩)].toArray .returning w (fun e u' w' => (∃ v, e = .returned v) ∧ u' = .returning ∧ Below w.heap.size w w') := by
 refine k_enterR (l := [_, _]) (z := .nilIface) (u' := .returning) Tryz.func117 rfl rfl rfl rfl rfl rfl rfl rfl rfl rec_ret ?_
 have H := St.start nT w
 refine k_seq (k_region (sR rfl rfl (mv_ni rfl rfl) (sR rfl rfl (d_nenn rfl rfl rfl rfl tuIf) (l_nil (k_condF rfl (by first | (simp; done) | (simp; omega)) ?_)))))
 exact k_skip (k_nil (q_end0 rfl ⟨⟨_, rfl⟩, rfl, H.under⟩))

theorem recPHash {A0 : Option Addr} {n0 c0 r : Nat} {Y : List UInt8 → Prop} {s : RS} {gb go : Nat} {k : Int} {old : List Value} (w : World) (hR : (RdYP 5 117 r A0 n0 c0 Y s).p w) (hk : k ≠ 0) (hgb : Gat w gb [.pointer (some ⟨r, 0, none⟩)]) (hTb : ¬ RdT r A0 n0 c0 gb) (hbo : ¬ gb = go) (ho : w.heap[go]? = some (.cells old.toArray 29 (0, 0))) (hlo : old.length = 32) (hTo : ¬ RdT r A0 n0 c0 go) :
  CallsD Tryz.prog 117 [.pointer (some ⟨gb, 0, none⟩), .pointer (some ⟨go, 0, none⟩)].toArray (.panicking [{ v := why k, recovered := false }]) w (fun e u' w' => (∃ v, e = .returned v) ∧ u' = .panicking [{ v := why k, recovered := true }] ∧ (RdYP 5 117 r A0 n0 c0 Y ([], k)).p w' ∧ w'.heap[go]? = some (.cells ((List.replicate 32 (u8v 0))).toArray 29 (0, 0)) ∧ Fr (fun g => g = go ∨ RdT r A0 n0 c0 g) w w') := by
 have hTb2 : ¬ (fun g => g = go ∨ RdT r A0 n0 c0 g) gb := fun h => h.elim hbo hTb
 have hne := RdB.ne hR
 obtain ⟨A, c, o, ys, hY, hL, hH, hn0, hc0, H0⟩ := RdB.two hR
 have H1 := H0.old (f := Fact.blk go old 29) ho (fun g hg => by cases hg; exact blk_lt ho) (fun x hx g hg hxg => by
  cases hg
  simp only [List.mem_cons, List.not_mem_nil, or_false] at hx
  rcases hx with rfl | rfl
  ·exact hTo (.inl hxg)
  ·exact hTo (.inr hxg))
 refine k_enterR (l := [_, _]) (z := why k) (u' := .panicking [{ v := why k, recovered := true }]) Tryz.func117 rfl rfl rfl rfl rfl rfl rfl rfl rfl rec_pan ?_
 have H := H1
 refine k_seq (k_region (sR rfl rfl (mv_if rfl rfl) (sR rfl rfl (d_neni rfl rfl rfl tiIf) (l_nil (k_condT rfl (by first | (simp; done) | (simp; omega)) ?_)))))
 refine k_seq (k_region (sR rfl rfl (mv_if rfl rfl) (sR rfl rfl (d_assertB rfl rfl tnE) (sR rfl rfl (mv_t rfl rfl) (sR rfl rfl (d_extract rfl rfl rfl) (sR rfl rfl (d_extract rfl rfl rfl) (s_eff (e_alloc (w_none rfl) rfl rfl [.int .i64 0] tz129 H ?_))))))))
 clear H; intro g3 W H
 refine s_eff (e_sto (w_none rfl) rfl rfl rfl rfl rfl ts129 rfl H rfl ?_)
 clear H; intro W H
 refine sAb rfl rfl rfl rfl (l_nil (k_seq (k_seq (k_region (sR rfl rfl (mv_b rfl rfl) (sR rfl rfl (d_not rfl rfl) (l_nil (k_condF rfl (by first | (simp; done) | (simp; omega)) ?_))))))))
 refine k_skip (k_seq (k_region (s_eff (e_alloc (w_none rfl) rfl rfl (List.replicate 32 (u8v 0)) tz29 H ?_))))
 clear H; intro g5 W H
 refine l_nil (k_draw [(0, true), (1, true), (2, true), (3, true), (4, true), (5, true), (6, true), (7, false), (8, true), (9, true), (10, false), (11, false)] [Fact.blk g5 (List.replicate 32 (u8v 0)) 29, Fact.blk g3 [.int .i64 k] 129] (by kernel_rfl) (by kernel_rfl) H (by repeat (first | exact .refl _ | exact List.nil_sublist _ | refine .cons_cons _ ?_ | refine .cons _ ?_)) ?_)
 clear H; intro W H
 refine cR rfl rfl rfl (fun W H => d_ldG rfl ((H.gatT hgb hTb2)) rfl ta85 rfl) (cR rfl rfl rfl (fun W H => d_ldG rfl ((H.gatT hgb hTb2)) rfl ta85 rfl) (cR rfl rfl rfl (fun W H => d_fa rfl rfl tf129_0) (cR rfl rfl rfl (fun W H => d_ld rfl H rfl ta42 rfl) (cR rfl rfl rfl (fun W H => d_ldm0 rfl H rfl ta29 ts29 (by rw [List.length_replicate])) ?_))))
 refine cR rfl rfl rfl (fun W H => d_nil rfl rfl) (cR rfl rfl rfl (fun W H => d_fa rfl rfl tf117_1) (c_eff rfl (e_sto (w_none rfl) rfl rfl rfl rfl rfl ts42 rfl H rfl ?_)))
 clear H; intro W H
 refine ⟨H.sub (by repeat (first | exact .refl _ | exact List.nil_sublist _ | refine .cons_cons _ ?_ | refine .cons _ ?_)), ?_⟩
 refine cR rfl rfl rfl (fun W H => d_nil rfl rfl) (cR rfl rfl rfl (fun W H => d_fa rfl rfl tf117_0) (c_eff rfl (e_sto (w_none rfl) rfl rfl rfl rfl rfl ts35 rfl H rfl ?_)))
 clear H; intro W H
 refine ⟨H.sub (by repeat (first | exact .refl _ | exact List.nil_sublist _ | refine .cons_cons _ ?_ | refine .cons _ ?_)), ?_⟩
 refine c_eff rfl (e_stoK ((List.replicate 32 (u8v 0))) (w_none rfl) rfl rfl rfl rfl rfl ts29 (by rw [List.length_replicate]) (by rw [List.all_replicate]; rfl) H (by rw [hlo]; simp) (spl_all (by rw [hlo]; simp)) ?_)
 clear H; intro W H
 refine ⟨H.sub (by repeat (first | exact .refl _ | exact List.nil_sublist _ | refine .cons_cons _ ?_ | refine .cons _ ?_)), ?_⟩
 exact c_nil (k_nil (q_end0 rfl ⟨⟨_, rfl⟩, rfl, RdB.of (s := ([], k)) (o := o) (ys := ys) hY H hne rfl rfl (hL.bad hk) held_nil, H.get (f := Fact.blk go (List.replicate 32 (u8v 0)) 29), H.fr⟩))

theorem recBlob {gb go : Nat} {y : Value} (w : World) (hgb : Gat w gb [y]) : CallsD Tryz.prog 123 [.pointer (some ⟨gb, 0, none⟩), .pointer (some ⟨go, 0, none⟩)].toArray .returning w (fun e u' w' => (∃ v, e = .returned v) ∧ u' = .returning ∧ Below w.heap.size w w') := by
 refine k_enterR (l := [_, _]) (z := .nilIface) (u' := .returning) Tryz.func123 rfl rfl rfl rfl rfl rfl rfl rfl rfl rec_ret ?_
 have H := St.start nT w
 refine k_seq (k_region (sR rfl rfl (mv_ni rfl rfl) (sR rfl rfl (d_nenn rfl rfl rfl rfl tuIf) (l_nil (k_condF rfl (by first | (simp; done) | (simp; omega)) ?_)))))
 exact k_skip (k_nil (q_end0 rfl ⟨⟨_, rfl⟩, rfl, H.under⟩))

theorem recPBlob {A0 : Option Addr} {n0 c0 r : Nat} {Y : List UInt8 → Prop} {s : RS} {gb go : Nat} {k : Int} {old : List Value} (w : World) (hR : (RdYP 5 117 r A0 n0 c0 Y s).p w) (hk : k ≠ 0) (hgb : Gat w gb [.pointer (some ⟨r, 0, none⟩)]) (hTb : ¬ RdT r A0 n0 c0 gb) (hbo : ¬ gb = go) (ho : w.heap[go]? = some (.cells old.toArray 35 (0, 0))) (hlo : old.length = 1) (hTo : ¬ RdT r A0 n0 c0 go) :
  CallsD Tryz.prog 123 [.pointer (some ⟨gb, 0, none⟩), .pointer (some ⟨go, 0, none⟩)].toArray (.panicking [{ v := why k, recovered := false }]) w (fun e u' w' => (∃ v, e = .returned v) ∧ u' = .panicking [{ v := why k, recovered := true }] ∧ (RdYP 5 117 r A0 n0 c0 Y ([], k)).p w' ∧ w'.heap[go]? = some (.cells ([.slice none 0 0]).toArray 35 (0, 0)) ∧ Fr (fun g => g = go ∨ RdT r A0 n0 c0 g) w w') := by
 have hTb2 : ¬ (fun g => g = go ∨ RdT r A0 n0 c0 g) gb := fun h => h.elim hbo hTb
 have hne := RdB.ne hR
 obtain ⟨A, c, o, ys, hY, hL, hH, hn0, hc0, H0⟩ := RdB.two hR
 have H1 := H0.old (f := Fact.blk go old 35) ho (fun g hg => by cases hg; exact blk_lt ho) (fun x hx g hg hxg => by
  cases hg
  simp only [List.mem_cons, List.not_mem_nil, or_false] at hx
  rcases hx with rfl | rfl
  ·exact hTo (.inl hxg)
  ·exact hTo (.inr hxg))
 refine k_enterR (l := [_, _]) (z := why k) (u' := .panicking [{ v := why k, recovered := true }]) Tryz.func123 rfl rfl rfl rfl rfl rfl rfl rfl rfl rec_pan ?_
 have H := H1
 refine k_seq (k_region (sR rfl rfl (mv_if rfl rfl) (sR rfl rfl (d_neni rfl rfl rfl tiIf) (l_nil (k_condT rfl (by first | (simp; done) | (simp; omega)) ?_)))))
 refine k_seq (k_region (sR rfl rfl (mv_if rfl rfl) (sR rfl rfl (d_assertB rfl rfl tnE) (sR rfl rfl (mv_t rfl rfl) (sR rfl rfl (d_extract rfl rfl rfl) (sR rfl rfl (d_extract rfl rfl rfl) (s_eff (e_alloc (w_none rfl) rfl rfl [.int .i64 0] tz129 H ?_))))))))
 clear H; intro g3 W H
 refine s_eff (e_sto (w_none rfl) rfl rfl rfl rfl rfl ts129 rfl H rfl ?_)
 clear H; intro W H
 refine sAb rfl rfl rfl rfl (l_nil (k_seq (k_seq (k_region (sR rfl rfl (mv_b rfl rfl) (sR rfl rfl (d_not rfl rfl) (l_nil (k_condF rfl (by first | (simp; done) | (simp; omega)) ?_))))))))
 refine k_skip (k_seq (k_region (sAs rfl rfl rfl rfl (l_nil (k_region (sR rfl rfl (d_ldG rfl ((H.gatT hgb hTb2)) rfl ta85 rfl) (sR rfl rfl (d_ldG rfl ((H.gatT hgb hTb2)) rfl ta85 rfl) (sR rfl rfl (d_fa rfl rfl tf129_0) (sR rfl rfl (d_ld rfl H rfl ta42 rfl) (sMs rfl rfl rfl rfl ?_))))))))))
 refine sR rfl rfl (d_nil rfl rfl) (sR rfl rfl (d_fa rfl rfl tf117_1) (s_eff (e_sto (w_none rfl) rfl rfl rfl rfl rfl ts42 rfl H rfl ?_)))
 clear H; intro W H
 refine sR rfl rfl (d_nil rfl rfl) (sR rfl rfl (d_fa rfl rfl tf117_0) (s_eff (e_sto (w_none rfl) rfl rfl rfl rfl rfl ts35 rfl H rfl ?_)))
 clear H; intro W H
 refine s_eff (e_stoK ([.slice none 0 0]) (w_none rfl) rfl rfl rfl rfl rfl ts35 rfl rfl H (by rw [hlo]; exact Nat.le_refl _) (spl_all (by rw [hlo]; rfl)) ?_)
 clear H; intro W H
 exact l_nil (k_nil (q_end0 rfl ⟨⟨_, rfl⟩, rfl, RdB.of (s := ([], k)) (o := o) (ys := ys) hY H hne rfl rfl (hL.bad hk) held_nil, H.get (f := Fact.blk go [.slice none 0 0] 35), H.fr⟩))
end Go.Proofs.YteakkflhndifbaaGreatDoor

namespace Go.Proofs.YteakkflhndifbaaGreatDoor
open Go Go.RowKit
attribute [local irreducible] wpList

theorem rdBadInt {A0 : Option Addr} {n0 c0 r : Nat} {Y : List UInt8 → Prop} {s : RS} (w : World) (hR : (RdYP 5 117 r A0 n0 c0 Y s).p w) (hs : s.2 ≠ 0) {fo : FuncId} {pre cap : Array Value} : Calls Tryz.prog 100 [.pointer (some ⟨r, 0, none⟩), .func (.func fo) pre cap].toArray w (Ret (fun v' w' => v' = (.int .i64 0) ∧ (RdYP 5 117 r A0 n0 c0 Y ([], s.2)).p w' ∧ Fr (RdT r A0 n0 c0) w w')) := by
 have hne := RdB.ne hR
 obtain ⟨A, c, o, ys, hY, hL, hH, hn0, hc0, H0⟩ := RdB.two hR
 refine k_enterD (l := [_, _]) Tryz.func100 rfl rfl ?_
 have H := H0
 refine k_seq (k_region (s_eff (e_box (vs := [.pointer (some ⟨r, 0, none⟩)]) (w_none rfl) rfl rfl rfl rfl H ?_)))
 clear H; intro g0 W H
 refine s_eff (e_alloc (w_none rfl) rfl rfl [.int .i64 0] tz3 H ?_)
 clear H; intro g2 W H
 refine l_nil (k_seq (k_region (sR rfl rfl (d_mkf rfl rfl rfl) (s_eff (e_defer (w_none rfl) rfl rfl rfl ?_)))))
 refine l_nil (k_seq (k_drawP 6 [(0, true), (1, true), (2, true), (3, true), (4, true), (5, true), (6, true), (7, true), (8, true), (9, false)] _ (by kernel_rfl) (by kernel_rfl) (by kernel_rfl) H (.refl _) ?_))
 clear H; intro W H
 refine cR rfl rfl rfl (fun W H => d_ld rfl H rfl ta85 rfl) (cR rfl rfl rfl (fun W H => d_nil rfl rfl) (cR rfl rfl rfl (fun W H => d_fa rfl rfl tf117_1) (cR rfl rfl rfl (fun W H => d_ld rfl H rfl ta42 rfl) (cR rfl rfl rfl (fun W H => d_eq rfl rfl rfl) (cR rfl rfl rfl (fun W H => d_ld rfl H rfl ta85 rfl) (cR rfl rfl rfl (fun W H => d_nil rfl rfl) (cR rfl rfl rfl (fun W H => d_fa rfl rfl tf117_1) (cR rfl rfl rfl (fun W H => d_ld rfl H rfl ta42 rfl) (c_eff rfl (e_callP (w_none rfl) rfl Tryz.func118 rfl rfl rfl (mustBad _ _ (by simpa using hs)) ?_))))))))))
 intro W hb
 replace H := H.below hb
 replace H := RdB.close2 hY H hL
 refine p_lo (fun a hd hlo => ?_)
 have hap := List.pairwise_cons.1 H.apart
 have hap2 := List.pairwise_cons.1 hap.2
 have hT2 : ¬ RdT r A0 n0 c0 g2 := fun h => hap.1 _ (.head _) g2 h rfl
 have hT0 : ¬ RdT r A0 n0 c0 g0 := fun h => hap.1 _ (.tail _ (.head _)) g0 h rfl
 have h02 : ¬ g0 = g2 := fun h => hap2.1 _ (.head _) g2 rfl h.symm
 have hge : w.heap.size ≤ g2 := (H.own _ (.tail _ (.head _)) g2 rfl).1.resolve_left hT2
 exact q_dpan (g := g2) rfl hd (getD_lo hlo (by decide) rfl) Tryz.func119 rfl rfl rfl (recPInt W (H.get (f := RdYP 5 117 r A0 n0 c0 Y s)) hs (gat_of (H.blk (g := g0))) hT0 h02 (H.blk (g := g2)) rfl hT2) (fun W2 h => ⟨_, loads1 ta3 h.2.1, ⟨_, rfl, rfl, h.1, H.fr.trans h.2.2 (fun g hg hh => hh.elim (fun e => absurd hge (by omega)) id)⟩⟩)

theorem rdPanInt {A0 : Option Addr} {n0 c0 r : Nat} {Y : List UInt8 → Prop} {s : RS} (w : World) (hR : (RdYP 5 117 r A0 n0 c0 Y s).p w) (hs : s.2 = 0) {fo : FuncId} {fno : Func} {pre cap : Array Value} {lo : List Value} (hfo : Tryz.prog.funcs[fo]? = some fno) (hbo : fno.body.isNone = false) (hno : (fno.name == "runtime.NumGoroutine") = false) (hlo : pre.toList ++ cap.toList = lo) {k : Int} (hk : k ≠ 0) (hone : ∀ W, Fr (RdT r A0 n0 c0) w W → (RdYP 5 117 r A0 n0 c0 Y s).p W → Calls Tryz.prog fo lo.toArray W (Pan (why k) (fun w' => (∃ s', (RdYP 5 117 r A0 n0 c0 Y s').p w') ∧ Fr (RdT r A0 n0 c0) W w'))) : Calls Tryz.prog 100 [.pointer (some ⟨r, 0, none⟩), .func (.func fo) pre cap].toArray w (Ret (fun v' w' => v' = (.int .i64 0) ∧ (RdYP 5 117 r A0 n0 c0 Y ([], k)).p w' ∧ Fr (RdT r A0 n0 c0) w w')) := by
 have hne := RdB.ne hR
 obtain ⟨A, c, o, ys, hY, hL, hH, hn0, hc0, H0⟩ := RdB.two hR
 refine k_enterD (l := [_, _]) Tryz.func100 rfl rfl ?_
 have H := H0
 refine k_seq (k_region (s_eff (e_box (vs := [.pointer (some ⟨r, 0, none⟩)]) (w_none rfl) rfl rfl rfl rfl H ?_)))
 clear H; intro g0 W H
 refine s_eff (e_alloc (w_none rfl) rfl rfl [.int .i64 0] tz3 H ?_)
 clear H; intro g2 W H
 refine l_nil (k_seq (k_region (sR rfl rfl (d_mkf rfl rfl rfl) (s_eff (e_defer (w_none rfl) rfl rfl rfl ?_)))))
 refine l_nil (k_seq (k_drawP 6 [(0, true), (1, true), (2, true), (3, true), (4, true), (5, true), (6, true), (7, true), (8, true), (9, false)] _ (by kernel_rfl) (by kernel_rfl) (by kernel_rfl) H (.refl _) ?_))
 clear H; intro W H
 refine cR rfl rfl rfl (fun W H => d_ld rfl H rfl ta85 rfl) (cR rfl rfl rfl (fun W H => d_nil rfl rfl) (cR rfl rfl rfl (fun W H => d_fa rfl rfl tf117_1) (cR rfl rfl rfl (fun W H => d_ld rfl H rfl ta42 rfl) (cR rfl rfl rfl (fun W H => d_eq rfl rfl rfl) (cR rfl rfl rfl (fun W H => d_ld rfl H rfl ta85 rfl) (cR rfl rfl rfl (fun W H => d_nil rfl rfl) (cR rfl rfl rfl (fun W H => d_fa rfl rfl tf117_1) (cR rfl rfl rfl (fun W H => d_ld rfl H rfl ta42 rfl) (c_eff rfl (e_call (w_none rfl) rfl rfl Tryz.func118 rfl rfl rfl (mustOk _ _ (by simpa using hs)) ?_))))))))))
 rintro _ W ⟨rfl, hb⟩
 replace H := H.below hb
 clear hb
 refine ⟨H.sub (by repeat (first | exact .refl _ | exact List.nil_sublist _ | refine .cons_cons _ ?_ | refine .cons _ ?_)), ?_⟩
 refine c_nilP ?_
 replace H := RdB.close2 hY H hL
 refine k_seq (k_region (sR rfl rfl (mv_f rfl rfl) (s_eff (e_callvP (w_none rfl) rfl rfl hfo hbo hno (by simpa using hlo) (hone W H.fr (H.get (f := RdYP 5 117 r A0 n0 c0 Y s))) ?_))))
 rintro W ⟨⟨s', hp⟩, hf⟩
 replace H := H.mut (f := RdYP 5 117 r A0 n0 c0 Y s) (f' := RdYP 5 117 r A0 n0 c0 Y s') hf hp (fun _ h => h)
 have hap := List.pairwise_cons.1 H.apart
 have hap2 := List.pairwise_cons.1 hap.2
 have hT2 : ¬ RdT r A0 n0 c0 g2 := fun h => hap.1 _ (.head _) g2 h rfl
 have hT0 : ¬ RdT r A0 n0 c0 g0 := fun h => hap.1 _ (.tail _ (.head _)) g0 h rfl
 have h02 : ¬ g0 = g2 := fun h => hap2.1 _ (.head _) g2 rfl h.symm
 have hge : w.heap.size ≤ g2 := (H.own _ (.tail _ (.head _)) g2 rfl).1.resolve_left hT2
 exact q_dpan (g := g2) rfl rfl (by rw [st_getD]; rfl) Tryz.func119 rfl rfl rfl (recPInt W (H.get (f := RdYP 5 117 r A0 n0 c0 Y s')) hk (gat_of (H.blk (g := g0))) hT0 h02 (H.blk (g := g2)) rfl hT2) (fun W2 h => ⟨_, loads1 ta3 h.2.1, ⟨_, rfl, rfl, h.1, H.fr.trans h.2.2 (fun g hg hh => hh.elim (fun e => absurd hge (by omega)) id)⟩⟩)

theorem rdOkInt {A0 : Option Addr} {n0 c0 r : Nat} {Y : List UInt8 → Prop} {s s1 : RS} (w : World) (hR : (RdYP 5 117 r A0 n0 c0 Y s).p w) (hs : s.2 = 0) {fo : FuncId} {fno : Func} {pre cap : Array Value} {lo : List Value} (hfo : Tryz.prog.funcs[fo]? = some fno) (hbo : fno.body.isNone = false) (hno : (fno.name == "runtime.NumGoroutine") = false) (hlo : pre.toList ++ cap.toList = lo) {u : Nat} (hone : ∀ W, Fr (RdT r A0 n0 c0) w W → (RdYP 5 117 r A0 n0 c0 Y s).p W → Calls Tryz.prog fo lo.toArray W (Ret (fun v' w' => v' = .int .i64 (u : Int) ∧ (RdYP 5 117 r A0 n0 c0 Y s1).p w' ∧ Fr (RdT r A0 n0 c0) W w'))) : Calls Tryz.prog 100 [.pointer (some ⟨r, 0, none⟩), .func (.func fo) pre cap].toArray w (Ret (fun v' w' => v' = .int .i64 (u : Int) ∧ (RdYP 5 117 r A0 n0 c0 Y s1).p w' ∧ Fr (RdT r A0 n0 c0) w w')) := by
 have hne := RdB.ne hR
 obtain ⟨A, c, o, ys, hY, hL, hH, hn0, hc0, H0⟩ := RdB.two hR
 refine k_enterD (l := [_, _]) Tryz.func100 rfl rfl ?_
 have H := H0
 refine k_seq (k_region (s_eff (e_box (vs := [.pointer (some ⟨r, 0, none⟩)]) (w_none rfl) rfl rfl rfl rfl H ?_)))
 clear H; intro g0 W H
 refine s_eff (e_alloc (w_none rfl) rfl rfl [.int .i64 0] tz3 H ?_)
 clear H; intro g2 W H
 refine l_nil (k_seq (k_region (sR rfl rfl (d_mkf rfl rfl rfl) (s_eff (e_defer (w_none rfl) rfl rfl rfl ?_)))))
 refine l_nil (k_seq (k_drawP 6 [(0, true), (1, true), (2, true), (3, true), (4, true), (5, true), (6, true), (7, true), (8, true), (9, false)] _ (by kernel_rfl) (by kernel_rfl) (by kernel_rfl) H (.refl _) ?_))
 clear H; intro W H
 refine cR rfl rfl rfl (fun W H => d_ld rfl H rfl ta85 rfl) (cR rfl rfl rfl (fun W H => d_nil rfl rfl) (cR rfl rfl rfl (fun W H => d_fa rfl rfl tf117_1) (cR rfl rfl rfl (fun W H => d_ld rfl H rfl ta42 rfl) (cR rfl rfl rfl (fun W H => d_eq rfl rfl rfl) (cR rfl rfl rfl (fun W H => d_ld rfl H rfl ta85 rfl) (cR rfl rfl rfl (fun W H => d_nil rfl rfl) (cR rfl rfl rfl (fun W H => d_fa rfl rfl tf117_1) (cR rfl rfl rfl (fun W H => d_ld rfl H rfl ta42 rfl) (c_eff rfl (e_call (w_none rfl) rfl rfl Tryz.func118 rfl rfl rfl (mustOk _ _ (by simpa using hs)) ?_))))))))))
 rintro _ W ⟨rfl, hb⟩
 replace H := H.below hb
 clear hb
 refine ⟨H.sub (by repeat (first | exact .refl _ | exact List.nil_sublist _ | refine .cons_cons _ ?_ | refine .cons _ ?_)), ?_⟩
 refine c_nilP ?_
 replace H := RdB.close2 hY H hL
 refine k_seq (k_region (sR rfl rfl (mv_f rfl rfl) (s_eff (e_callv (w_none rfl) rfl rfl rfl hfo hbo hno (by simpa using hlo) (hone W H.fr (H.get (f := RdYP 5 117 r A0 n0 c0 Y s))) ?_))))
 rintro _ W ⟨rfl, hp, hf⟩
 replace H := H.mut (f := RdYP 5 117 r A0 n0 c0 Y s) (f' := RdYP 5 117 r A0 n0 c0 Y s1) hf hp (fun _ h => h)
 clear hp hf
 refine s_eff (e_sto (w_none rfl) rfl rfl rfl rfl rfl ts3 rfl H rfl ?_)
 clear H; intro W H
 refine l_nil (k_ret ?_)
 repeat (first | refine r_then ?_ | refine r_blk ?_)
 exact q_dret (g := g2) rfl rfl Tryz.func119 rfl rfl rfl (recInt W (gat_of (H.blk (g := g0)))) (fun W2 hb => by
  replace H := H.below hb
  exact ⟨_, loads1 ta3 (H.blk (g := g2)), ⟨_, rfl, rfl, H.get (f := RdYP 5 117 r A0 n0 c0 Y s1), H.fr⟩⟩)

theorem rdBadHash {A0 : Option Addr} {n0 c0 r : Nat} {Y : List UInt8 → Prop} {s : RS} (w : World) (hR : (RdYP 5 117 r A0 n0 c0 Y s).p w) (hs : s.2 ≠ 0) {fo : FuncId} {pre cap : Array Value} : Calls Tryz.prog 97 [.pointer (some ⟨r, 0, none⟩), .func (.func fo) pre cap].toArray w (Ret (fun v' w' => v' = (.agg (List.replicate 32 (u8v 0)).toArray) ∧ (RdYP 5 117 r A0 n0 c0 Y ([], s.2)).p w' ∧ Fr (RdT r A0 n0 c0) w w')) := by
 have hne := RdB.ne hR
 obtain ⟨A, c, o, ys, hY, hL, hH, hn0, hc0, H0⟩ := RdB.two hR
 refine k_enterD (l := [_, _]) Tryz.func97 rfl rfl ?_
 have H := H0
 refine k_seq (k_region (s_eff (e_box (vs := [.pointer (some ⟨r, 0, none⟩)]) (w_none rfl) rfl rfl rfl rfl H ?_)))
 clear H; intro g0 W H
 refine s_eff (e_alloc (w_none rfl) rfl rfl (List.replicate 32 (u8v 0)) tz29 H ?_)
 clear H; intro g2 W H
 refine l_nil (k_seq (k_region (sR rfl rfl (d_mkf rfl rfl rfl) (s_eff (e_defer (w_none rfl) rfl rfl rfl ?_)))))
 refine l_nil (k_seq (k_drawP 6 [(0, true), (1, true), (2, true), (3, true), (4, true), (5, true), (6, true), (7, true), (8, true), (9, false)] _ (by kernel_rfl) (by kernel_rfl) (by kernel_rfl) H (.refl _) ?_))
 clear H; intro W H
 refine cR rfl rfl rfl (fun W H => d_ld rfl H rfl ta85 rfl) (cR rfl rfl rfl (fun W H => d_nil rfl rfl) (cR rfl rfl rfl (fun W H => d_fa rfl rfl tf117_1) (cR rfl rfl rfl (fun W H => d_ld rfl H rfl ta42 rfl) (cR rfl rfl rfl (fun W H => d_eq rfl rfl rfl) (cR rfl rfl rfl (fun W H => d_ld rfl H rfl ta85 rfl) (cR rfl rfl rfl (fun W H => d_nil rfl rfl) (cR rfl rfl rfl (fun W H => d_fa rfl rfl tf117_1) (cR rfl rfl rfl (fun W H => d_ld rfl H rfl ta42 rfl) (c_eff rfl (e_callP (w_none rfl) rfl Tryz.func118 rfl rfl rfl (mustBad _ _ (by simpa using hs)) ?_))))))))))
 intro W hb
 replace H := H.below hb
 replace H := RdB.close2 hY H hL
 refine p_lo (fun a hd hlo => ?_)
 have hap := List.pairwise_cons.1 H.apart
 have hap2 := List.pairwise_cons.1 hap.2
 have hT2 : ¬ RdT r A0 n0 c0 g2 := fun h => hap.1 _ (.head _) g2 h rfl
 have hT0 : ¬ RdT r A0 n0 c0 g0 := fun h => hap.1 _ (.tail _ (.head _)) g0 h rfl
 have h02 : ¬ g0 = g2 := fun h => hap2.1 _ (.head _) g2 rfl h.symm
 have hge : w.heap.size ≤ g2 := (H.own _ (.tail _ (.head _)) g2 rfl).1.resolve_left hT2
 exact q_dpan (g := g2) rfl hd (getD_lo hlo (by decide) rfl) Tryz.func117 rfl rfl rfl (recPHash W (H.get (f := RdYP 5 117 r A0 n0 c0 Y s)) hs (gat_of (H.blk (g := g0))) hT0 h02 (H.blk (g := g2)) (by rw [List.length_replicate]) hT2) (fun W2 h => ⟨_, loadsM ta29 (by rw [List.length_replicate]; exact ts29) h.2.1, ⟨_, rfl, rfl, h.1, H.fr.trans h.2.2 (fun g hg hh => hh.elim (fun e => absurd hge (by omega)) id)⟩⟩)

theorem rdPanHash {A0 : Option Addr} {n0 c0 r : Nat} {Y : List UInt8 → Prop} {s : RS} (w : World) (hR : (RdYP 5 117 r A0 n0 c0 Y s).p w) (hs : s.2 = 0) {fo : FuncId} {fno : Func} {pre cap : Array Value} {lo : List Value} (hfo : Tryz.prog.funcs[fo]? = some fno) (hbo : fno.body.isNone = false) (hno : (fno.name == "runtime.NumGoroutine") = false) (hlo : pre.toList ++ cap.toList = lo) {k : Int} (hk : k ≠ 0) (hone : ∀ W, Fr (RdT r A0 n0 c0) w W → (RdYP 5 117 r A0 n0 c0 Y s).p W → Calls Tryz.prog fo lo.toArray W (Pan (why k) (fun w' => (∃ s', (RdYP 5 117 r A0 n0 c0 Y s').p w') ∧ Fr (RdT r A0 n0 c0) W w'))) : Calls Tryz.prog 97 [.pointer (some ⟨r, 0, none⟩), .func (.func fo) pre cap].toArray w (Ret (fun v' w' => v' = (.agg (List.replicate 32 (u8v 0)).toArray) ∧ (RdYP 5 117 r A0 n0 c0 Y ([], k)).p w' ∧ Fr (RdT r A0 n0 c0) w w')) := by
 have hne := RdB.ne hR
 obtain ⟨A, c, o, ys, hY, hL, hH, hn0, hc0, H0⟩ := RdB.two hR
 refine k_enterD (l := [_, _]) Tryz.func97 rfl rfl ?_
 have H := H0
 refine k_seq (k_region (s_eff (e_box (vs := [.pointer (some ⟨r, 0, none⟩)]) (w_none rfl) rfl rfl rfl rfl H ?_)))
 clear H; intro g0 W H
 refine s_eff (e_alloc (w_none rfl) rfl rfl (List.replicate 32 (u8v 0)) tz29 H ?_)
 clear H; intro g2 W H
 refine l_nil (k_seq (k_region (sR rfl rfl (d_mkf rfl rfl rfl) (s_eff (e_defer (w_none rfl) rfl rfl rfl ?_)))))
 refine l_nil (k_seq (k_drawP 6 [(0, true), (1, true), (2, true), (3, true), (4, true), (5, true), (6, true), (7, true), (8, true), (9, false)] _ (by kernel_rfl) (by kernel_rfl) (by kernel_rfl) H (.refl _) ?_))
 clear H; intro W H
 refine cR rfl rfl rfl (fun W H => d_ld rfl H rfl ta85 rfl) (cR rfl rfl rfl (fun W H => d_nil rfl rfl) (cR rfl rfl rfl (fun W H => d_fa rfl rfl tf117_1) (cR rfl rfl rfl (fun W H => d_ld rfl H rfl ta42 rfl) (cR rfl rfl rfl (fun W H => d_eq rfl rfl rfl) (cR rfl rfl rfl (fun W H => d_ld rfl H rfl ta85 rfl) (cR rfl rfl rfl (fun W H => d_nil rfl rfl) (cR rfl rfl rfl (fun W H => d_fa rfl rfl tf117_1) (cR rfl rfl rfl (fun W H => d_ld rfl H rfl ta42 rfl) (c_eff rfl (e_call (w_none rfl) rfl rfl Tryz.func118 rfl rfl rfl (mustOk _ _ (by simpa using hs)) ?_))))))))))
 rintro _ W ⟨rfl, hb⟩
 replace H := H.below hb
 clear hb
 refine ⟨H.sub (by repeat (first | exact .refl _ | exact List.nil_sublist _ | refine .cons_cons _ ?_ | refine .cons _ ?_)), ?_⟩
 refine c_nilP ?_
 replace H := RdB.close2 hY H hL
 refine k_seq (k_region (sR rfl rfl (mv_f rfl rfl) (s_eff (e_callvP (w_none rfl) rfl rfl hfo hbo hno (by simpa using hlo) (hone W H.fr (H.get (f := RdYP 5 117 r A0 n0 c0 Y s))) ?_))))
 rintro W ⟨⟨s', hp⟩, hf⟩
 replace H := H.mut (f := RdYP 5 117 r A0 n0 c0 Y s) (f' := RdYP 5 117 r A0 n0 c0 Y s') hf hp (fun _ h => h)
 have hap := List.pairwise_cons.1 H.apart
 have hap2 := List.pairwise_cons.1 hap.2
 have hT2 : ¬ RdT r A0 n0 c0 g2 := fun h => hap.1 _ (.head _) g2 h rfl
 have hT0 : ¬ RdT r A0 n0 c0 g0 := fun h => hap.1 _ (.tail _ (.head _)) g0 h rfl
 have h02 : ¬ g0 = g2 := fun h => hap2.1 _ (.head _) g2 rfl h.symm
 have hge : w.heap.size ≤ g2 := (H.own _ (.tail _ (.head _)) g2 rfl).1.resolve_left hT2
 exact q_dpan (g := g2) rfl rfl (by rw [st_getD]; rfl) Tryz.func117 rfl rfl rfl (recPHash W (H.get (f := RdYP 5 117 r A0 n0 c0 Y s')) hk (gat_of (H.blk (g := g0))) hT0 h02 (H.blk (g := g2)) (by rw [List.length_replicate]) hT2) (fun W2 h => ⟨_, loadsM ta29 (by rw [List.length_replicate]; exact ts29) h.2.1, ⟨_, rfl, rfl, h.1, H.fr.trans h.2.2 (fun g hg hh => hh.elim (fun e => absurd hge (by omega)) id)⟩⟩)

theorem rdOkHash {A0 : Option Addr} {n0 c0 r : Nat} {Y : List UInt8 → Prop} {s s1 : RS} (w : World) (hR : (RdYP 5 117 r A0 n0 c0 Y s).p w) (hs : s.2 = 0) {fo : FuncId} {fno : Func} {pre cap : Array Value} {lo : List Value} (hfo : Tryz.prog.funcs[fo]? = some fno) (hbo : fno.body.isNone = false) (hno : (fno.name == "runtime.NumGoroutine") = false) (hlo : pre.toList ++ cap.toList = lo) {l : List UInt8} (hll : l.length = 32) (hone : ∀ W, Fr (RdT r A0 n0 c0) w W → (RdYP 5 117 r A0 n0 c0 Y s).p W → Calls Tryz.prog fo lo.toArray W (Ret (fun v' w' => v' = .agg (l.map u8v).toArray ∧ (RdYP 5 117 r A0 n0 c0 Y s1).p w' ∧ Fr (RdT r A0 n0 c0) W w'))) : Calls Tryz.prog 97 [.pointer (some ⟨r, 0, none⟩), .func (.func fo) pre cap].toArray w (Ret (fun v' w' => v' = .agg (l.map u8v).toArray ∧ (RdYP 5 117 r A0 n0 c0 Y s1).p w' ∧ Fr (RdT r A0 n0 c0) w w')) := by
 have hne := RdB.ne hR
 obtain ⟨A, c, o, ys, hY, hL, hH, hn0, hc0, H0⟩ := RdB.two hR
 refine k_enterD (l := [_, _]) Tryz.func97 rfl rfl ?_
 have H := H0
 refine k_seq (k_region (s_eff (e_box (vs := [.pointer (some ⟨r, 0, none⟩)]) (w_none rfl) rfl rfl rfl rfl H ?_)))
 clear H; intro g0 W H
 refine s_eff (e_alloc (w_none rfl) rfl rfl (List.replicate 32 (u8v 0)) tz29 H ?_)
 clear H; intro g2 W H
 refine l_nil (k_seq (k_region (sR rfl rfl (d_mkf rfl rfl rfl) (s_eff (e_defer (w_none rfl) rfl rfl rfl ?_)))))
 refine l_nil (k_seq (k_drawP 6 [(0, true), (1, true), (2, true), (3, true), (4, true), (5, true), (6, true), (7, true), (8, true), (9, false)] _ (by kernel_rfl) (by kernel_rfl) (by kernel_rfl) H (.refl _) ?_))
 clear H; intro W H
 refine cR rfl rfl rfl (fun W H => d_ld rfl H rfl ta85 rfl) (cR rfl rfl rfl (fun W H => d_nil rfl rfl) (cR rfl rfl rfl (fun W H => d_fa rfl rfl tf117_1) (cR rfl rfl rfl (fun W H => d_ld rfl H rfl ta42 rfl) (cR rfl rfl rfl (fun W H => d_eq rfl rfl rfl) (cR rfl rfl rfl (fun W H => d_ld rfl H rfl ta85 rfl) (cR rfl rfl rfl (fun W H => d_nil rfl rfl) (cR rfl rfl rfl (fun W H => d_fa rfl rfl tf117_1) (cR rfl rfl rfl (fun W H => d_ld rfl H rfl ta42 rfl) (c_eff rfl (e_call (w_none rfl) rfl rfl Tryz.func118 rfl rfl rfl (mustOk _ _ (by simpa using hs)) ?_))))))))))
 rintro _ W ⟨rfl, hb⟩
 replace H := H.below hb
 clear hb
 refine ⟨H.sub (by repeat (first | exact .refl _ | exact List.nil_sublist _ | refine .cons_cons _ ?_ | refine .cons _ ?_)), ?_⟩
 refine c_nilP ?_
 replace H := RdB.close2 hY H hL
 refine k_seq (k_region (sR rfl rfl (mv_f rfl rfl) (s_eff (e_callv (w_none rfl) rfl rfl rfl hfo hbo hno (by simpa using hlo) (hone W H.fr (H.get (f := RdYP 5 117 r A0 n0 c0 Y s))) ?_))))
 rintro _ W ⟨rfl, hp, hf⟩
 replace H := H.mut (f := RdYP 5 117 r A0 n0 c0 Y s) (f' := RdYP 5 117 r A0 n0 c0 Y s1) hf hp (fun _ h => h)
 clear hp hf
 refine s_eff (e_stoK (l.map u8v) (w_none rfl) rfl rfl rfl rfl rfl ts29 (by rw [List.length_map, hll]) (all_u8L _) H (by simp) (spl_all (by rw [List.length_map, List.length_replicate, hll])) ?_)
 clear H; intro W H
 refine l_nil (k_ret ?_)
 repeat (first | refine r_then ?_ | refine r_blk ?_)
 exact q_dret (g := g2) rfl rfl Tryz.func117 rfl rfl rfl (recHash W (gat_of (H.blk (g := g0)))) (fun W2 hb => by
  replace H := H.below hb
  exact ⟨_, loadsM ta29 (by rw [List.length_map, hll]; exact ts29) (H.blk (g := g2)), ⟨_, rfl, rfl, H.get (f := RdYP 5 117 r A0 n0 c0 Y s1), H.fr⟩⟩)

theorem rdBadBlob {A0 : Option Addr} {n0 c0 r : Nat} {Y : List UInt8 → Prop} {s : RS} (w : World) (hR : (RdYP 5 117 r A0 n0 c0 Y s).p w) (hs : s.2 ≠ 0) {fo : FuncId} {pre cap : Array Value} : Calls Tryz.prog 102 [.pointer (some ⟨r, 0, none⟩), .func (.func fo) pre cap].toArray w (Ret (fun v' w' => v' = (.slice none 0 0) ∧ (RdYP 5 117 r A0 n0 c0 Y ([], s.2)).p w' ∧ Fr (RdT r A0 n0 c0) w w')) := by
 have hne := RdB.ne hR
 obtain ⟨A, c, o, ys, hY, hL, hH, hn0, hc0, H0⟩ := RdB.two hR
 refine k_enterD (l := [_, _]) Tryz.func102 rfl rfl ?_
 have H := H0
 refine k_seq (k_region (s_eff (e_box (vs := [.pointer (some ⟨r, 0, none⟩)]) (w_none rfl) rfl rfl rfl rfl H ?_)))
 clear H; intro g0 W H
 refine s_eff (e_alloc (w_none rfl) rfl rfl [.slice none 0 0] tz35 H ?_)
 clear H; intro g2 W H
 refine l_nil (k_seq (k_region (sR rfl rfl (d_mkf rfl rfl rfl) (s_eff (e_defer (w_none rfl) rfl rfl rfl ?_)))))
 refine l_nil (k_seq (k_drawP 6 [(0, true), (1, true), (2, true), (3, true), (4, true), (5, true), (6, true), (7, true), (8, true), (9, false)] _ (by kernel_rfl) (by kernel_rfl) (by kernel_rfl) H (.refl _) ?_))
 clear H; intro W H
 refine cR rfl rfl rfl (fun W H => d_ld rfl H rfl ta85 rfl) (cR rfl rfl rfl (fun W H => d_nil rfl rfl) (cR rfl rfl rfl (fun W H => d_fa rfl rfl tf117_1) (cR rfl rfl rfl (fun W H => d_ld rfl H rfl ta42 rfl) (cR rfl rfl rfl (fun W H => d_eq rfl rfl rfl) (cR rfl rfl rfl (fun W H => d_ld rfl H rfl ta85 rfl) (cR rfl rfl rfl (fun W H => d_nil rfl rfl) (cR rfl rfl rfl (fun W H => d_fa rfl rfl tf117_1) (cR rfl rfl rfl (fun W H => d_ld rfl H rfl ta42 rfl) (c_eff rfl (e_callP (w_none rfl) rfl Tryz.func118 rfl rfl rfl (mustBad _ _ (by simpa using hs)) ?_))))))))))
 intro W hb
 replace H := H.below hb
 replace H := RdB.close2 hY H hL
 refine p_lo (fun a hd hlo => ?_)
 have hap := List.pairwise_cons.1 H.apart
 have hap2 := List.pairwise_cons.1 hap.2
 have hT2 : ¬ RdT r A0 n0 c0 g2 := fun h => hap.1 _ (.head _) g2 h rfl
 have hT0 : ¬ RdT r A0 n0 c0 g0 := fun h => hap.1 _ (.tail _ (.head _)) g0 h rfl
 have h02 : ¬ g0 = g2 := fun h => hap2.1 _ (.head _) g2 rfl h.symm
 have hge : w.heap.size ≤ g2 := (H.own _ (.tail _ (.head _)) g2 rfl).1.resolve_left hT2
 exact q_dpan (g := g2) rfl hd (getD_lo hlo (by decide) rfl) Tryz.func123 rfl rfl rfl (recPBlob W (H.get (f := RdYP 5 117 r A0 n0 c0 Y s)) hs (gat_of (H.blk (g := g0))) hT0 h02 (H.blk (g := g2)) rfl hT2) (fun W2 h => ⟨_, loads1 ta35 h.2.1, ⟨_, rfl, rfl, h.1, H.fr.trans h.2.2 (fun g hg hh => hh.elim (fun e => absurd hge (by omega)) id)⟩⟩)

theorem rdPanBlob {A0 : Option Addr} {n0 c0 r : Nat} {Y : List UInt8 → Prop} {s : RS} (w : World) (hR : (RdYP 5 117 r A0 n0 c0 Y s).p w) (hs : s.2 = 0) {fo : FuncId} {fno : Func} {pre cap : Array Value} {lo : List Value} (hfo : Tryz.prog.funcs[fo]? = some fno) (hbo : fno.body.isNone = false) (hno : (fno.name == "runtime.NumGoroutine") = false) (hlo : pre.toList ++ cap.toList = lo) {k : Int} (hk : k ≠ 0) (hone : ∀ W, Fr (RdT r A0 n0 c0) w W → (RdYP 5 117 r A0 n0 c0 Y s).p W → Calls Tryz.prog fo lo.toArray W (Pan (why k) (fun w' => (∃ s', (RdYP 5 117 r A0 n0 c0 Y s').p w') ∧ Fr (RdT r A0 n0 c0) W w'))) : Calls Tryz.prog 102 [.pointer (some ⟨r, 0, none⟩), .func (.func fo) pre cap].toArray w (Ret (fun v' w' => v' = (.slice none 0 0) ∧ (RdYP 5 117 r A0 n0 c0 Y ([], k)).p w' ∧ Fr (RdT r A0 n0 c0) w w')) := by
 have hne := RdB.ne hR
 obtain ⟨A, c, o, ys, hY, hL, hH, hn0, hc0, H0⟩ := RdB.two hR
 refine k_enterD (l := [_, _]) Tryz.func102 rfl rfl ?_
 have H := H0
 refine k_seq (k_region (s_eff (e_box (vs := [.pointer (some ⟨r, 0, none⟩)]) (w_none rfl) rfl rfl rfl rfl H ?_)))
 clear H; intro g0 W H
 refine s_eff (e_alloc (w_none rfl) rfl rfl [.slice none 0 0] tz35 H ?_)
 clear H; intro g2 W H
 refine l_nil (k_seq (k_region (sR rfl rfl (d_mkf rfl rfl rfl) (s_eff (e_defer (w_none rfl) rfl rfl rfl ?_)))))
 refine l_nil (k_seq (k_drawP 6 [(0, true), (1, true), (2, true), (3, true), (4, true), (5, true), (6, true), (7, true), (8, true), (9, false)] _ (by kernel_rfl) (by kernel_rfl) (by kernel_rfl) H (.refl _) ?_))
 clear H; intro W H
 refine cR rfl rfl rfl (fun W H => d_ld rfl H rfl ta85 rfl) (cR rfl rfl rfl (fun W H => d_nil rfl rfl) (cR rfl rfl rfl (fun W H => d_fa rfl rfl tf117_1) (cR rfl rfl rfl (fun W H => d_ld rfl H rfl ta42 rfl) (cR rfl rfl rfl (fun W H => d_eq rfl rfl rfl) (cR rfl rfl rfl (fun W H => d_ld rfl H rfl ta85 rfl) (cR rfl rfl rfl (fun W H => d_nil rfl rfl) (cR rfl rfl rfl (fun W H => d_fa rfl rfl tf117_1) (cR rfl rfl rfl (fun W H => d_ld rfl H rfl ta42 rfl) (c_eff rfl (e_call (w_none rfl) rfl rfl Tryz.func118 rfl rfl rfl (mustOk _ _ (by simpa using hs)) ?_))))))))))
 rintro _ W ⟨rfl, hb⟩
 replace H := H.below hb
 clear hb
 refine ⟨H.sub (by repeat (first | exact .refl _ | exact List.nil_sublist _ | refine .cons_cons _ ?_ | refine .cons _ ?_)), ?_⟩
 refine c_nilP ?_
 replace H := RdB.close2 hY H hL
 refine k_seq (k_region (sR rfl rfl (mv_f rfl rfl) (s_eff (e_callvP (w_none rfl) rfl rfl hfo hbo hno (by simpa using hlo) (hone W H.fr (H.get (f := RdYP 5 117 r A0 n0 c0 Y s))) ?_))))
 rintro W ⟨⟨s', hp⟩, hf⟩
 replace H := H.mut (f := RdYP 5 117 r A0 n0 c0 Y s) (f' := RdYP 5 117 r A0 n0 c0 Y s') hf hp (fun _ h => h)
 have hap := List.pairwise_cons.1 H.apart
 have hap2 := List.pairwise_cons.1 hap.2
 have hT2 : ¬ RdT r A0 n0 c0 g2 := fun h => hap.1 _ (.head _) g2 h rfl
 have hT0 : ¬ RdT r A0 n0 c0 g0 := fun h => hap.1 _ (.tail _ (.head _)) g0 h rfl
 have h02 : ¬ g0 = g2 := fun h => hap2.1 _ (.head _) g2 rfl h.symm
 have hge : w.heap.size ≤ g2 := (H.own _ (.tail _ (.head _)) g2 rfl).1.resolve_left hT2
 exact q_dpan (g := g2) rfl rfl (by rw [st_getD]; rfl) Tryz.func123 rfl rfl rfl (recPBlob W (H.get (f := RdYP 5 117 r A0 n0 c0 Y s')) hk (gat_of (H.blk (g := g0))) hT0 h02 (H.blk (g := g2)) rfl hT2) (fun W2 h => ⟨_, loads1 ta35 h.2.1, ⟨_, rfl, rfl, h.1, H.fr.trans h.2.2 (fun g hg hh => hh.elim (fun e => absurd hge (by omega)) id)⟩⟩)

theorem rdOkBlob {A0 : Option Addr} {n0 c0 r : Nat} {Y : List UInt8 → Prop} {s s1 : RS} (w : World) (hR : (RdYP 5 117 r A0 n0 c0 Y s).p w) (hs : s.2 = 0) {fo : FuncId} {fno : Func} {pre cap : Array Value} {lo : List Value} (hfo : Tryz.prog.funcs[fo]? = some fno) (hbo : fno.body.isNone = false) (hno : (fno.name == "runtime.NumGoroutine") = false) (hlo : pre.toList ++ cap.toList = lo) {l : List UInt8} (hone : ∀ W, Fr (RdT r A0 n0 c0) w W → (RdYP 5 117 r A0 n0 c0 Y s).p W → Calls Tryz.prog fo lo.toArray W (Ret (fun v' w' => (RdYB 5 117 r A0 n0 c0 Y v' l s1).p w' ∧ Fr (RdT r A0 n0 c0) W w'))) : Calls Tryz.prog 102 [.pointer (some ⟨r, 0, none⟩), .func (.func fo) pre cap].toArray w (Ret (fun v' w' => (RdYB 5 117 r A0 n0 c0 Y v' l s1).p w' ∧ Fr (RdT r A0 n0 c0) w w')) := by
 have hne := RdB.ne hR
 obtain ⟨A, c, o, ys, hY, hL, hH, hn0, hc0, H0⟩ := RdB.two hR
 refine k_enterD (l := [_, _]) Tryz.func102 rfl rfl ?_
 have H := H0
 refine k_seq (k_region (s_eff (e_box (vs := [.pointer (some ⟨r, 0, none⟩)]) (w_none rfl) rfl rfl rfl rfl H ?_)))
 clear H; intro g0 W H
 refine s_eff (e_alloc (w_none rfl) rfl rfl [.slice none 0 0] tz35 H ?_)
 clear H; intro g2 W H
 refine l_nil (k_seq (k_region (sR rfl rfl (d_mkf rfl rfl rfl) (s_eff (e_defer (w_none rfl) rfl rfl rfl ?_)))))
 refine l_nil (k_seq (k_drawP 6 [(0, true), (1, true), (2, true), (3, true), (4, true), (5, true), (6, true), (7, true), (8, true), (9, false)] _ (by kernel_rfl) (by kernel_rfl) (by kernel_rfl) H (.refl _) ?_))
 clear H; intro W H
 refine cR rfl rfl rfl (fun W H => d_ld rfl H rfl ta85 rfl) (cR rfl rfl rfl (fun W H => d_nil rfl rfl) (cR rfl rfl rfl (fun W H => d_fa rfl rfl tf117_1) (cR rfl rfl rfl (fun W H => d_ld rfl H rfl ta42 rfl) (cR rfl rfl rfl (fun W H => d_eq rfl rfl rfl) (cR rfl rfl rfl (fun W H => d_ld rfl H rfl ta85 rfl) (cR rfl rfl rfl (fun W H => d_nil rfl rfl) (cR rfl rfl rfl (fun W H => d_fa rfl rfl tf117_1) (cR rfl rfl rfl (fun W H => d_ld rfl H rfl ta42 rfl) (c_eff rfl (e_call (w_none rfl) rfl rfl Tryz.func118 rfl rfl rfl (mustOk _ _ (by simpa using hs)) ?_))))))))))
 rintro _ W ⟨rfl, hb⟩
 replace H := H.below hb
 clear hb
 refine ⟨H.sub (by repeat (first | exact .refl _ | exact List.nil_sublist _ | refine .cons_cons _ ?_ | refine .cons _ ?_)), ?_⟩
 refine c_nilP ?_
 replace H := RdB.close2 hY H hL
 refine k_seq (k_region (sR rfl rfl (mv_f rfl rfl) (s_eff (e_callv (w_none rfl) rfl rfl rfl hfo hbo hno (by simpa using hlo) (hone W H.fr (H.get (f := RdYP 5 117 r A0 n0 c0 Y s))) ?_))))
 rintro _ W ⟨hp, hf⟩
 obtain ⟨B1, d1, rfl⟩ := RdB.form hp
 replace H := H.mut (f := RdYP 5 117 r A0 n0 c0 Y s) (f' := RdYB 5 117 r A0 n0 c0 Y (.slice B1 l.length d1) l s1) hf hp (fun _ h => h)
 clear hp hf
 refine s_eff (e_sto (w_none rfl) rfl rfl rfl rfl rfl ts35 rfl H rfl ?_)
 clear H; intro W H
 refine l_nil (k_ret ?_)
 repeat (first | refine r_then ?_ | refine r_blk ?_)
 exact q_dret (g := g2) rfl rfl Tryz.func123 rfl rfl rfl (recBlob W (gat_of (H.blk (g := g0)))) (fun W2 hb => by
  replace H := H.below hb
  exact ⟨_, loads1 ta35 (H.blk (g := g2)), ⟨_, rfl, H.get (f := RdYB 5 117 r A0 n0 c0 Y (.slice B1 l.length d1) l s1), H.fr⟩⟩)
end Go.Proofs.YteakkflhndifbaaGreatDoor

namespace Go.Proofs.YteakkflhndifbaaGreatDoor
open Go Go.RowKit
attribute [local irreducible] wpList

theorem oneHashP {A0 : Option Addr} {n0 c0 r : Nat} {Y : List UInt8 → Prop} {s : RS} {gb : Nat} (w : World) (hR : (RdYP 5 117 r A0 n0 c0 Y s).p w) (hgb : Gat w gb [.pointer (some ⟨r, 0, none⟩)]) (hTb : ¬ RdT r A0 n0 c0 gb) (he : s.2 = 0) (hn : (Pk.next 32 s).2.2 ≠ 0) : Calls Tryz.prog 98 [.pointer (some ⟨gb, 0, none⟩)].toArray w (Pan (why 4) (fun w' => (∃ s', (RdYP 5 117 r A0 n0 c0 Y s').p w') ∧ Fr (RdT r A0 n0 c0) w w')) := by
 refine k_enter (l := [_]) Tryz.func98 rfl rfl ?_
 have H := St.begin (f := RdYP 5 117 r A0 n0 c0 Y s) hR (RdB.lt hR)
 refine k_seq (k_region (s_eff (e_alloc (w_none rfl) rfl rfl [.int .u8 0, .int .u8 0, .int .u8 0, .int .u8 0, .int .u8 0, .int .u8 0, .int .u8 0, .int .u8 0, .int .u8 0, .int .u8 0, .int .u8 0, .int .u8 0, .int .u8 0, .int .u8 0, .int .u8 0, .int .u8 0, .int .u8 0, .int .u8 0, .int .u8 0, .int .u8 0, .int .u8 0, .int .u8 0, .int .u8 0, .int .u8 0, .int .u8 0, .int .u8 0, .int .u8 0, .int .u8 0, .int .u8 0, .int .u8 0, .int .u8 0, .int .u8 0] tz29 H ?_)))
 clear H; intro g1 W H
 refine l_nil (k_seq (k_region (sR rfl rfl (d_ldG rfl ((H.gatT hgb hTb)) rfl ta85 rfl) (s_eff (e_callP (w_none rfl) rfl Tryz.func99 rfl rfl rfl (takeSE (l := (Pk.next 32 s).1) (s' := (Pk.next 32 s).2) _ (by rfl) (by rfl) (H.get (f := RdYP 5 117 r A0 n0 c0 Y s)) he hn) ?_)))))
 rintro W ⟨hp, hf⟩
 replace H := H.mut (f := RdYP 5 117 r A0 n0 c0 Y s) (f' := RdYP 5 117 r A0 n0 c0 Y s) hf hp (fun _ h => h)
 exact ⟨rfl, rfl, ⟨_, H.get (f := RdYP 5 117 r A0 n0 c0 Y s)⟩, H.fr⟩

theorem oneHash {A0 : Option Addr} {n0 c0 r : Nat} {Y : List UInt8 → Prop} {s : RS} {gb : Nat} (w : World) (hR : (RdYP 5 117 r A0 n0 c0 Y s).p w) (hgb : Gat w gb [.pointer (some ⟨r, 0, none⟩)]) (hTb : ¬ RdT r A0 n0 c0 gb) (he : s.2 = 0) (hn : (Pk.next 32 s).2.2 = 0) : Calls Tryz.prog 98 [.pointer (some ⟨gb, 0, none⟩)].toArray w (Ret (fun v' w' => v' = .agg ((Pk.next 32 s).1.map u8v).toArray ∧ (RdYP 5 117 r A0 n0 c0 Y (Pk.next 32 s).2).p w' ∧ Fr (RdT r A0 n0 c0) w w')) := by
 have hln : (Pk.next 32 s).1.length = 32 := (Pk.next_eq (n := 32) (s := s) rfl).1 hn
 refine k_enter (l := [_]) Tryz.func98 rfl rfl ?_
 have H := St.begin (f := RdYP 5 117 r A0 n0 c0 Y s) hR (RdB.lt hR)
 refine k_seq (k_region (s_eff (e_alloc (w_none rfl) rfl rfl (List.replicate 32 (u8v 0)) tz29 H ?_)))
 clear H; intro g1 W H
 refine l_nil (k_seq (k_region (sR rfl rfl (d_ldG rfl ((H.gatT hgb hTb)) rfl ta85 rfl) (sC rfl rfl rfl Tryz.func99 rfl rfl rfl (takeE (l := (Pk.next 32 s).1) (s' := (Pk.next 32 s).2) _ (by rfl) (by rfl) (H.get (f := RdYP 5 117 r A0 n0 c0 Y s)) he hn) ?_))))
 rintro _ W ⟨hp1, hf1⟩
 obtain ⟨B1, d1, rfl⟩ := RdB.form hp1
 replace H := H.mut (f := RdYP 5 117 r A0 n0 c0 Y s) (f' := RdYB 5 117 r A0 n0 c0 Y (.slice B1 (List.length (Pk.next 32 s).1) d1) (Pk.next 32 s).1 (Pk.next 32 s).2) hf1 hp1 (fun _ h => h)
 clear hp1 hf1
 refine sR rfl rfl (d_s2a rfl rfl tu29 (by omega)) (sR rfl rfl (d_ldmA rfl (RdB.rd (H.get (f := RdYB 5 117 r A0 n0 c0 Y (.slice B1 (List.length (Pk.next 32 s).1) d1) (Pk.next 32 s).1 (Pk.next 32 s).2))) rfl ta29 (by rw [hln]; exact ts29) (by omega)) ?_)
 refine s_eff (e_stoK ((Pk.next 32 s).1.map u8v) (w_none rfl) rfl rfl rfl rfl rfl ts29 (by rw [List.length_map, hln]) (all_u8L _) H (by simp) (spl_all (by rw [List.length_map, List.length_replicate, hln])) ?_)
 clear H; intro W H
 refine l_nil (k_ret ?_)
 repeat (first | refine r_then ?_ | refine r_blk ?_)
 exact q_retc (g := g1) (t' := 29) rfl H rfl ta29 (by rw [List.length_map, hln]; exact ts29) ⟨_, rfl, rfl, RdB.toP (H.get (f := RdYB 5 117 r A0 n0 c0 Y (.slice B1 (List.length (Pk.next 32 s).1) d1) (Pk.next 32 s).1 (Pk.next 32 s).2)), H.fr⟩

theorem rdHash {A0 : Option Addr} {n0 c0 r : Nat} {Y : List UInt8 → Prop} {s : RS} {gb : Nat} (w : World) (hR : (RdYP 5 117 r A0 n0 c0 Y s).p w) (hgb : Gat w gb [.pointer (some ⟨r, 0, none⟩)]) (hTb : ¬ RdT r A0 n0 c0 gb) (hok : Pk.Ok s) : Calls Tryz.prog 97 [.pointer (some ⟨r, 0, none⟩), .func (.func 98) #[] [.pointer (some ⟨gb, 0, none⟩)].toArray].toArray w (Ret (fun v' w' => v' = .agg ((Pk.rBytes 32 s).1.map u8v).toArray ∧ (RdYP 5 117 r A0 n0 c0 Y (Pk.rBytes 32 s).2).p w' ∧ Fr (RdT r A0 n0 c0) w w')) := by
 by_cases he : s.2 = 0
 ·by_cases hn : (Pk.next 32 s).2.2 = 0
  ·have hln : (Pk.next 32 s).1.length = 32 := (Pk.next_eq (n := 32) (s := s) rfl).1 hn
   have e : (Pk.rBytes 32 s).1 = (Pk.next 32 s).1 := by unfold Pk.rBytes Pk.full; rw [hln]; simp
   rw [e]
   exact rdOkHash w hR he Tryz.func98 rfl rfl rfl hln (fun W hf hp => oneHash W hp (hgb.frT hf hTb) hTb he hn)
  ·have h2 := (Pk.next_s (n := 32) (s := s) rfl he).2 hn
   have e : Pk.rBytes 32 s = (List.replicate 32 0, ([], 4)) := by unfold Pk.rBytes; rw [Pk.next_short he h2.1]; rfl
   rw [e, List.map_replicate]
   exact rdPanHash w hR he Tryz.func98 rfl rfl rfl (by decide) (fun W hf hp => oneHashP W hp (hgb.frT hf hTb) hTb he hn)
 ·have e : Pk.rBytes 32 s = (List.replicate 32 0, ([], s.2)) := by unfold Pk.rBytes; rw [Pk.next_bad he, Pk.full]; simp only [List.nil_append, List.length_nil, Nat.sub_zero]; rw [← hok.1 he]
  rw [e, List.map_replicate]
  exact rdBadHash w hR he

theorem prgHash {A0 : Option Addr} {n0 c0 r : Nat} {Y : List UInt8 → Prop} {s : RS} (w : World) (hR : (RdYP 5 117 r A0 n0 c0 Y s).p w) (hok : Pk.Ok s) : Calls Tryz.prog 69 [.pointer (some ⟨r, 0, none⟩)].toArray w (Ret (fun v' w' => v' = .agg ((Pk.rBytes 32 s).1.map u8v).toArray ∧ (RdYP 5 117 r A0 n0 c0 Y (Pk.rBytes 32 s).2).p w' ∧ Fr (RdT r A0 n0 c0) w w')) := by
 have hlb : (Pk.rBytes 32 s).1.length = 32 := Pk.len_full Pk.next_len
 refine k_enter (l := [_]) Tryz.func69 rfl rfl ?_
 have H := St.begin (f := RdYP 5 117 r A0 n0 c0 Y s) hR (RdB.lt hR)
 refine k_seq (k_region (s_eff (e_box (vs := [.pointer (some ⟨r, 0, none⟩)]) (w_none rfl) rfl rfl rfl rfl H ?_)))
 clear H; intro g0 W H
 refine s_eff (e_alloc (w_none rfl) rfl rfl (List.replicate 32 (u8v 0)) tz29 H ?_)
 clear H; intro g1 W H
 refine l_nil (k_seq (k_region (sR rfl rfl (d_ld rfl H rfl ta85 rfl) (sR rfl rfl (d_mkf rfl rfl rfl) (sC rfl rfl rfl Tryz.func97 rfl rfl rfl (rdHash _ (H.get (f := RdYP 5 117 r A0 n0 c0 Y s)) (gat_of (H.blk (g := g0))) ((List.pairwise_cons.1 (List.pairwise_cons.1 H.apart).2).1 _ (.head _) g0 rfl) hok) ?_)))))
 rintro _ W ⟨rfl, hp, hf⟩
 replace H := H.mut (f := RdYP 5 117 r A0 n0 c0 Y s) (f' := RdYP 5 117 r A0 n0 c0 Y (Pk.rBytes 32 s).2) hf hp (fun _ h => h)
 clear hp hf
 refine s_eff (e_stoK ((Pk.rBytes 32 s).1.map u8v) (w_none rfl) rfl rfl rfl rfl rfl ts29 (by rw [List.length_map, hlb]) (all_u8L _) H (by simp) (spl_all (by rw [List.length_map, List.length_replicate, hlb])) ?_)
 clear H; intro W H
 refine l_nil (k_ret ?_)
 repeat (first | refine r_then ?_ | refine r_blk ?_)
 exact q_retc (g := g1) (t' := 29) rfl H rfl ta29 (by rw [List.length_map, hlb]; exact ts29) ⟨_, rfl, rfl, H.get (f := RdYP 5 117 r A0 n0 c0 Y (Pk.rBytes 32 s).2), H.fr⟩

theorem rInt_bad0 {s : RS} (hok : Pk.Ok s) (he : s.2 ≠ 0) : Pk.rInt s = (0, ([], s.2)) := by
 have h0 := hok.1 he
 unfold Pk.rInt
 rw [Pk.next_bad he]
 rcases s with ⟨s1, s2⟩
 simp only at h0
 subst h0
 rfl
theorem rCount_bad0 {s : RS} {m : Int} (hok : Pk.Ok s) (he : s.2 ≠ 0) : Pk.rCount m s = (0, ([], s.2)) := by
 unfold Pk.rCount
 rw [rInt_bad0 hok he, if_neg (fun h => he h.1)]
theorem rBlob_bad0 {s : RS} {m : Int} (h : (Pk.rCount m s).2.2 ≠ 0) : Pk.rBlob m s = ([], (Pk.rCount m s).2) := by
 unfold Pk.rBlob
 rw [Pk.next_bad h]
theorem rdInt {A0 : Option Addr} {n0 c0 r : Nat} {Y : List UInt8 → Prop} {s : RS} (w : World) (hR : (RdYP 5 117 r A0 n0 c0 Y s).p w) (hok : Pk.Ok s) (hG : Gat w 0 formsC) (hT : ¬ RdT r A0 n0 c0 0) : Calls Tryz.prog 100 [.pointer (some ⟨r, 0, none⟩), .func (.func 101) [.pointer (some ⟨r, 0, none⟩)].toArray #[]].toArray w (Ret (fun v' w' => v' = .int .i64 ((Pk.rInt s).1 : Int) ∧ (RdYP 5 117 r A0 n0 c0 Y (Pk.rInt s).2).p w' ∧ Fr (RdT r A0 n0 c0) w w')) := by
 by_cases he : s.2 = 0
 ·by_cases hn : (Pk.rInt s).2.2 = 0
  ·exact rdOkInt w hR he Tryz.func101 rfl rfl rfl (fun W hf hp => (number W hp (hG.frT hf hT) hT he).1 hn)
  ·have e := (number w hR hG hT he).2 hn
   have e1 : Pk.rInt s = (0, ([], (Pk.rInt s).2.2)) := e.1
   have h := rdPanInt w hR he Tryz.func101 rfl rfl (lo := [.pointer (some ⟨r, 0, none⟩)]) (pre := [.pointer (some ⟨r, 0, none⟩)].toArray) (cap := #[]) rfl hn (fun W hf hp => ((number W hp (hG.frT hf hT) hT he).2 hn).2)
   rw [e1]
   exact h
 ·have e := rInt_bad0 hok he
  rw [e]
  exact rdBadInt w hR he

theorem prgInt {A0 : Option Addr} {n0 c0 r : Nat} {Y : List UInt8 → Prop} {s : RS} (w : World) (hR : (RdYP 5 117 r A0 n0 c0 Y s).p w) (hok : Pk.Ok s) (hG : Gat w 0 formsC) (hT : ¬ RdT r A0 n0 c0 0) : Calls Tryz.prog 70 [.pointer (some ⟨r, 0, none⟩)].toArray w (Ret (fun v' w' => v' = .int .i64 ((Pk.rInt s).1 : Int) ∧ (RdYP 5 117 r A0 n0 c0 Y (Pk.rInt s).2).p w' ∧ Fr (RdT r A0 n0 c0) w w')) := by
 refine k_enter (l := [_]) Tryz.func70 rfl rfl ?_
 have H := St.begin (f := RdYP 5 117 r A0 n0 c0 Y s) hR (RdB.lt hR)
 refine k_seq (k_region (sAi rfl rfl rfl rfl (l_nil (k_seq (k_region (sMp rfl rfl rfl rfl (sMp rfl rfl rfl rfl (sR rfl rfl (d_mkf rfl rfl rfl) (sC rfl rfl rfl Tryz.func100 rfl rfl rfl (rdInt _ (H.get (f := RdYP 5 117 r A0 n0 c0 Y s)) hok (H.gatT hG hT) hT) ?_)))))))))
 rintro _ W ⟨rfl, hp, hf⟩
 replace H := H.mut (f := RdYP 5 117 r A0 n0 c0 Y s) (f' := RdYP 5 117 r A0 n0 c0 Y (Pk.rInt s).2) hf hp (fun _ h => h)
 clear hp hf
 refine sAi rfl rfl rfl rfl (l_nil (k_ret ?_))
 repeat (first | refine r_then ?_ | refine r_blk ?_)
 exact q_ret (v := .int _ _) rfl rfl ⟨_, rfl, rfl, H.get (f := RdYP 5 117 r A0 n0 c0 Y (Pk.rInt s).2), H.fr⟩

theorem rdCount {A0 : Option Addr} {n0 c0 r : Nat} {Y : List UInt8 → Prop} {s : RS} {gb gm : Nat} {m : Int} (w : World) (hR : (RdYP 5 117 r A0 n0 c0 Y s).p w) (hok : Pk.Ok s) (hG : Gat w 0 formsC) (hT : ¬ RdT r A0 n0 c0 0) (hgb : Gat w gb [.pointer (some ⟨r, 0, none⟩)]) (hTb : ¬ RdT r A0 n0 c0 gb) (hgm : Gat w gm [.int .i64 m]) (hTm : ¬ RdT r A0 n0 c0 gm) : Calls Tryz.prog 100 [.pointer (some ⟨r, 0, none⟩), .func (.func 116) #[] [.pointer (some ⟨gb, 0, none⟩), .pointer (some ⟨gm, 0, none⟩)].toArray].toArray w (Ret (fun v' w' => v' = .int .i64 ((Pk.rCount m s).1 : Int) ∧ (RdYP 5 117 r A0 n0 c0 Y (Pk.rCount m s).2).p w' ∧ Fr (RdT r A0 n0 c0) w w')) := by
 by_cases he : s.2 = 0
 ·by_cases hn : (Pk.rCount m s).2.2 = 0
  ·exact rdOkInt w hR he Tryz.func116 rfl rfl rfl (fun W hf hp => oneCount W hp (hG.frT hf hT) hT he (hgb.frT hf hTb) hTb (hgm.frT hf hTm) hTm hn)
  ·have e1 : Pk.rCount m s = (0, ([], (Pk.rCount m s).2.2)) := ((count w hR hG hT he).2 hn).1
   have h := rdPanInt w hR he Tryz.func116 rfl rfl (lo := [.pointer (some ⟨gb, 0, none⟩), .pointer (some ⟨gm, 0, none⟩)]) (pre := #[]) (cap := [.pointer (some ⟨gb, 0, none⟩), .pointer (some ⟨gm, 0, none⟩)].toArray) rfl hn (fun W hf hp => oneCountP W hp (hG.frT hf hT) hT he (hgb.frT hf hTb) hTb (hgm.frT hf hTm) hTm hn)
   rw [e1]
   exact h
 ·have e := rCount_bad0 (m := m) hok he
  rw [e]
  exact rdBadInt w hR he
theorem rdBlob {A0 : Option Addr} {n0 c0 r : Nat} {Y : List UInt8 → Prop} {s : RS} {gb gm : Nat} {m : Int} (w : World) (hR : (RdYP 5 117 r A0 n0 c0 Y s).p w) (hok : Pk.Ok s) (hG : Gat w 0 formsC) (hT : ¬ RdT r A0 n0 c0 0) (hgb : Gat w gb [.pointer (some ⟨r, 0, none⟩)]) (hTb : ¬ RdT r A0 n0 c0 gb) (hgm : Gat w gm [.int .i64 m]) (hTm : ¬ RdT r A0 n0 c0 gm) : Calls Tryz.prog 102 [.pointer (some ⟨r, 0, none⟩), .func (.func 103) #[] [.pointer (some ⟨gb, 0, none⟩), .pointer (some ⟨gm, 0, none⟩)].toArray].toArray w (Ret (fun v' w' => (RdYB 5 117 r A0 n0 c0 Y v' (Pk.rBlob m s).1 (Pk.rBlob m s).2).p w' ∧ Fr (RdT r A0 n0 c0) w w')) := by
 by_cases he : s.2 = 0
 ·by_cases hn : (Pk.rCount m s).2.2 = 0
  ·by_cases hb : (Pk.rBlob m s).2.2 = 0
   ·exact rdOkBlob w hR he Tryz.func103 rfl rfl rfl (fun W hf hp => oneBlob W hp (hG.frT hf hT) hT he (hgb.frT hf hTb) hTb (hgm.frT hf hTm) hTm hn hb)
   ·have h2 := ((Pk.next_s (n := (Pk.rCount m s).1) (s := (Pk.rCount m s).2) rfl hn).2 hb)
    have e1 : Pk.rBlob m s = ([], ([], 4)) := by unfold Pk.rBlob; rw [Pk.next_short hn h2.1]
    have h := rdPanBlob w hR he Tryz.func103 rfl rfl (lo := [.pointer (some ⟨gb, 0, none⟩), .pointer (some ⟨gm, 0, none⟩)]) (pre := #[]) (cap := [.pointer (some ⟨gb, 0, none⟩), .pointer (some ⟨gm, 0, none⟩)].toArray) (k := 4) rfl (by decide) (fun W hf hp => oneBlobQ W hp (hG.frT hf hT) hT he (hgb.frT hf hTb) hTb (hgm.frT hf hTm) hTm hn hb)
    rw [e1]
    exact Calls.mono h (fun e w' h => by obtain ⟨v, h1, rfl, h2⟩ := h; exact ⟨_, h1, h2⟩)
  ·have e1 : Pk.rCount m s = (0, ([], (Pk.rCount m s).2.2)) := ((count w hR hG hT he).2 hn).1
   have h := rdPanBlob w hR he Tryz.func103 rfl rfl (lo := [.pointer (some ⟨gb, 0, none⟩), .pointer (some ⟨gm, 0, none⟩)]) (pre := #[]) (cap := [.pointer (some ⟨gb, 0, none⟩), .pointer (some ⟨gm, 0, none⟩)].toArray) rfl hn (fun W hf hp => oneBlobP W hp (hG.frT hf hT) hT he (hgb.frT hf hTb) hTb (hgm.frT hf hTm) hTm hn)
   rw [rBlob_bad0 hn, e1]
   exact Calls.mono h (fun e w' h => by obtain ⟨v, h1, rfl, h2⟩ := h; exact ⟨_, h1, h2⟩)
 ·have e := rCount_bad0 (m := m) hok he
  have e2 : Pk.rBlob m s = ([], ([], s.2)) := by rw [rBlob_bad0 (by rw [e]; exact he), e]
  rw [e2]
  exact Calls.mono (rdBadBlob w hR he) (fun e w' h => by obtain ⟨v, h1, rfl, h2⟩ := h; exact ⟨_, h1, h2⟩)

theorem prgCount {A0 : Option Addr} {n0 c0 r : Nat} {Y : List UInt8 → Prop} {s : RS} {m : Int} (w : World) (hR : (RdYP 5 117 r A0 n0 c0 Y s).p w) (hok : Pk.Ok s) (hG : Gat w 0 formsC) (hT : ¬ RdT r A0 n0 c0 0) : Calls Tryz.prog 96 [.pointer (some ⟨r, 0, none⟩), .int .i64 m].toArray w (Ret (fun v' w' => v' = .int .i64 ((Pk.rCount m s).1 : Int) ∧ (RdYP 5 117 r A0 n0 c0 Y (Pk.rCount m s).2).p w' ∧ Fr (RdT r A0 n0 c0) w w')) := by
 refine k_enter (l := [_, _]) Tryz.func96 rfl rfl ?_
 have H := St.begin (f := RdYP 5 117 r A0 n0 c0 Y s) hR (RdB.lt hR)
 refine k_seq (k_region (s_eff (e_box (vs := [.pointer (some ⟨r, 0, none⟩)]) (w_none rfl) rfl rfl rfl rfl H ?_)))
 clear H; intro g0 W H
 refine s_eff (e_box (vs := [.int .i64 m]) (w_none rfl) rfl rfl rfl rfl H ?_)
 clear H; intro gm W H
 refine sAi rfl rfl rfl rfl (l_nil (k_seq (k_region (sR rfl rfl (d_ld rfl H rfl ta85 rfl) (sR rfl rfl (d_mkf rfl rfl rfl) (sC rfl rfl rfl Tryz.func100 rfl rfl rfl (rdCount _ (H.get (f := RdYP 5 117 r A0 n0 c0 Y s)) hok (H.gatT hG hT) hT (gat_of (H.blk (g := g0))) ((List.pairwise_cons.1 (List.pairwise_cons.1 H.apart).2).1 _ (.head _) g0 rfl) (gat_of (H.blk (g := gm))) ((List.pairwise_cons.1 H.apart).1 _ (.tail _ (.head _)) gm rfl)) ?_))))))
 rintro _ W ⟨rfl, hp, hf⟩
 replace H := H.mut (f := RdYP 5 117 r A0 n0 c0 Y s) (f' := RdYP 5 117 r A0 n0 c0 Y (Pk.rCount m s).2) hf hp (fun _ h => h)
 clear hp hf
 refine sAi rfl rfl rfl rfl (l_nil (k_ret ?_))
 repeat (first | refine r_then ?_ | refine r_blk ?_)
 exact q_ret (v := .int _ _) rfl rfl ⟨_, rfl, rfl, H.get (f := RdYP 5 117 r A0 n0 c0 Y (Pk.rCount m s).2), H.fr⟩

theorem prgBlob {A0 : Option Addr} {n0 c0 r : Nat} {Y : List UInt8 → Prop} {s : RS} {m : Int} (w : World) (hR : (RdYP 5 117 r A0 n0 c0 Y s).p w) (hok : Pk.Ok s) (hG : Gat w 0 formsC) (hT : ¬ RdT r A0 n0 c0 0) : Calls Tryz.prog 73 [.pointer (some ⟨r, 0, none⟩), .int .i64 m].toArray w (Ret (fun v' w' => (RdYB 5 117 r A0 n0 c0 Y v' (Pk.rBlob m s).1 (Pk.rBlob m s).2).p w' ∧ Fr (RdT r A0 n0 c0) w w')) := by
 refine k_enter (l := [_, _]) Tryz.func73 rfl rfl ?_
 have H := St.begin (f := RdYP 5 117 r A0 n0 c0 Y s) hR (RdB.lt hR)
 refine k_seq (k_region (s_eff (e_box (vs := [.pointer (some ⟨r, 0, none⟩)]) (w_none rfl) rfl rfl rfl rfl H ?_)))
 clear H; intro g0 W H
 refine s_eff (e_box (vs := [.int .i64 m]) (w_none rfl) rfl rfl rfl rfl H ?_)
 clear H; intro gm W H
 refine sAs rfl rfl rfl rfl (l_nil (k_seq (k_region (sR rfl rfl (d_ld rfl H rfl ta85 rfl) (sR rfl rfl (d_mkf rfl rfl rfl) (sC rfl rfl rfl Tryz.func102 rfl rfl rfl (rdBlob _ (H.get (f := RdYP 5 117 r A0 n0 c0 Y s)) hok (H.gatT hG hT) hT (gat_of (H.blk (g := g0))) ((List.pairwise_cons.1 (List.pairwise_cons.1 H.apart).2).1 _ (.head _) g0 rfl) (gat_of (H.blk (g := gm))) ((List.pairwise_cons.1 H.apart).1 _ (.tail _ (.head _)) gm rfl)) ?_))))))
 rintro _ W ⟨hp1, hf1⟩
 obtain ⟨B1, d1, rfl⟩ := RdB.form hp1
 replace H := H.mut (f := RdYP 5 117 r A0 n0 c0 Y s) (f' := RdYB 5 117 r A0 n0 c0 Y (.slice B1 (List.length (Pk.rBlob m s).1) d1) (Pk.rBlob m s).1 (Pk.rBlob m s).2) hf1 hp1 (fun _ h => h)
 clear hp1 hf1
 refine sAs rfl rfl rfl rfl (l_nil (k_ret ?_))
 repeat (first | refine r_then ?_ | refine r_blk ?_)
 exact q_ret (v := .slice _ _ _) rfl rfl ⟨_, rfl, H.get (f := RdYB 5 117 r A0 n0 c0 Y (.slice B1 (List.length (Pk.rBlob m s).1) d1) (Pk.rBlob m s).1 (Pk.rBlob m s).2), H.fr⟩
end Go.Proofs.YteakkflhndifbaaGreatDoor
