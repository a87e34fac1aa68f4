/- The reader of the reference: chapter 3. -/
import Derived.Test.YtejaohlijaodjaaDoorVD
import Derived.Test.YtejaohlijaodjaaDoorK2
namespace Go.Proofs.YtejaohlijaodjaaDoor
open Go Go.RowKit
attribute [local irreducible] wpList

theorem refLeft {r c : Nat} {A : Option Addr} {cur : List UInt8} {s : RS} (w : World) (hR : (RefR 101 r A c cur s).p w) (hok : Pk.Ok s) (hl : cur.length ≤ 1000000000000) : Calls Tryd.prog 36 [.pointer (some ⟨r, 0, none⟩)].toArray w (Ret (Is w (.int .i64 (s.1.length : Int)))) := by
  obtain ⟨a, h1, ha, hs1⟩ := hR
  have hG := gat_of h1
  obtain ⟨ho1, ho2, ho3⟩ := hok
  refine k_enter (l := [_]) Tryd.func36 rfl rfl ?_
  have H := St.start nT w
  refine k_seq ?_
  refine k_region ?_
  refine s_run (w_none rfl) rfl (as_i rfl rfl) ?_
  refine l_nil ?_
  refine k_seq ?_
  refine k_seq ?_
  refine k_region ?_
  refine s_run (w_none rfl) rfl (mv_p rfl rfl) ?_
  refine s_run (w_none rfl) rfl (d_nil rfl rfl) ?_
  refine s_run (w_none rfl) rfl (d_fa rfl rfl tf101_2) ?_
  refine s_run (w_none rfl) rfl (d_ldG rfl (H.gat hG) rfl ta30 rfl) ?_
  refine s_run (w_none rfl) rfl (d_ne rfl rfl rfl) ?_
  refine l_nil ?_
  refine k_cond rfl (fun hc7 => ?_) (fun hc7 => ?_)
  · have he : s.2 ≠ 0 := by simpa using hc7
    refine k_seq ?_
    refine k_region ?_
    refine s_run (w_none rfl) rfl (as_i rfl rfl) ?_
    refine l_nil ?_
    refine k_ret ?_
    repeat (first | refine r_then ?_ | refine r_blk ?_)
    exact q_ret (v := .int _ _) rfl rfl ⟨_, rfl, vi (by rw [ho1 he]; rfl), H.under⟩
  · have he : s.2 = 0 := by simpa using hc7
    rw [if_pos he] at hs1
    have hln : s.1.length = cur.length - a := by rw [hs1, List.length_drop]
    refine k_skip ?_
    refine k_seq ?_
    refine k_draw [(0, true), (1, true), (2, true), (3, true), (4, true), (5, true), (6, true), (7, true), (8, true), (9, true), (10, true)] _ (by kernel_rfl) (by kernel_rfl) H (.refl _) ?_
    clear H; intro W H
    refine c_run rfl (w_none rfl) rfl (fun W H => mv_p rfl rfl) ?_
    refine c_run rfl (w_none rfl) rfl (fun W H => d_nil rfl rfl) ?_
    refine c_run rfl (w_none rfl) rfl (fun W H => d_fa rfl rfl tf101_0) ?_
    refine c_run rfl (w_none rfl) rfl (fun W H => d_ldG rfl (H.gat hG) rfl ta23 rfl) ?_
    refine c_run rfl (w_none rfl) rfl (fun W H => d_len rfl rfl tu23) ?_
    refine c_run rfl (w_none rfl) rfl (fun W H => mv_p rfl rfl) ?_
    refine c_run rfl (w_none rfl) rfl (fun W H => d_nil rfl rfl) ?_
    refine c_run rfl (w_none rfl) rfl (fun W H => d_fa rfl rfl tf101_1) ?_
    refine c_run rfl (w_none rfl) rfl (fun W H => d_ldG rfl (H.gat hG) rfl ta3 rfl) ?_
    refine c_run rfl (w_none rfl) rfl (fun W H => d_sub rfl rfl rfl (by omega)) ?_
    refine c_run rfl (w_none rfl) rfl (fun W H => as_i rfl rfl) ?_
    refine c_nil ?_
    refine k_ret ?_
    repeat (first | refine r_then ?_ | refine r_blk ?_)
    exact q_ret (v := .int _ _) rfl rfl ⟨_, rfl, vi (by omega), H.under⟩

theorem refBad {r c : Nat} {A : Option Addr} {cur : List UInt8} {s : RS} (w : World) (hR : (RefR 101 r A c cur s).p w) : Calls Tryd.prog 40 [.pointer (some ⟨r, 0, none⟩)].toArray w (Ret (Is w (.bool (s.2 != 0)))) := by
  obtain ⟨a, h1, ha, hs1⟩ := hR
  have hG := gat_of h1
  refine k_enter (l := [_]) Tryd.func40 rfl rfl ?_
  have H := St.start nT w
  refine k_seq ?_
  refine k_region ?_
  refine s_run (w_none rfl) rfl (as_b rfl rfl) ?_
  refine l_nil ?_
  refine k_seq ?_
  refine k_region ?_
  refine s_run (w_none rfl) rfl (mv_p rfl rfl) ?_
  refine s_run (w_none rfl) rfl (d_nil rfl rfl) ?_
  refine s_run (w_none rfl) rfl (d_fa rfl rfl tf101_2) ?_
  refine s_run (w_none rfl) rfl (d_ldG rfl (H.gat hG) rfl ta30 rfl) ?_
  refine s_run (w_none rfl) rfl (d_ne rfl rfl rfl) ?_
  refine s_run (w_none rfl) rfl (as_b rfl rfl) ?_
  refine l_nil ?_
  refine k_ret ?_
  repeat (first | refine r_then ?_ | refine r_blk ?_)
  exact q_ret (v := .bool _) rfl rfl ⟨_, rfl, rfl, H.under⟩

def Pk.rEnd (s : RS) : Int := if 0 < s.1.length then 5 else s.2
theorem refEnd {r c : Nat} {A : Option Addr} {cur : List UInt8} {s : RS} (w : World) (hR : (RefR 101 r A c cur s).p w) (hok : Pk.Ok s) (hl : cur.length ≤ 1000000000000) : Calls Tryd.prog 37 [.pointer (some ⟨r, 0, none⟩)].toArray w (Ret (Is w (.int .i64 (Pk.rEnd s)))) := by
  have hR0 := hR
  obtain ⟨a, h1, ha, hs1⟩ := hR
  have hG := gat_of h1
  refine k_enter (l := [_]) Tryd.func37 rfl rfl ?_
  have H := St.start nT w
  refine k_seq ?_
  refine k_region ?_
  refine s_run (w_none rfl) rfl (as_i rfl rfl) ?_
  refine l_nil ?_
  refine k_seq ?_
  refine k_seq ?_
  refine k_region ?_
  refine s_run (w_none rfl) rfl (mv_p rfl rfl) ?_
  refine s_eff (e_call (w_none rfl) rfl rfl Tryd.func36 rfl rfl rfl (refLeft _ hR0 hok hl) ?_)
  rintro _ W ⟨rfl, hb⟩
  replace H := H.below hb
  clear hb
  refine s_run (w_none rfl) rfl (d_gt rfl rfl rfl) ?_
  refine l_nil ?_
  refine k_cond rfl (fun hc5 => ?_) (fun hc5 => ?_)
  · first | (replace hc5 := of_decide_eq_true hc5) | simp at hc5
    refine k_seq ?_
    refine k_region ?_
    refine s_run (w_none rfl) rfl (as_i rfl rfl) ?_
    refine l_nil ?_
    refine k_ret ?_
    repeat (first | refine r_then ?_ | refine r_blk ?_)
    exact q_ret (v := .int _ _) rfl rfl ⟨_, rfl, vi (by rw [Pk.rEnd, if_pos (by omega)]), H.under⟩
  · first | (replace hc5 := of_decide_eq_false hc5) | simp at hc5
    refine k_skip ?_
    refine k_seq ?_
    refine k_region ?_
    refine s_run (w_none rfl) rfl (mv_p rfl rfl) ?_
    refine s_run (w_none rfl) rfl (d_nil rfl rfl) ?_
    refine s_run (w_none rfl) rfl (d_fa rfl rfl tf101_2) ?_
    refine s_run (w_none rfl) rfl (d_ldG rfl (H.gat hG) rfl ta30 rfl) ?_
    refine s_run (w_none rfl) rfl (as_i rfl rfl) ?_
    refine l_nil ?_
    refine k_ret ?_
    repeat (first | refine r_then ?_ | refine r_blk ?_)
    exact q_ret (v := .int _ _) rfl rfl ⟨_, rfl, vi (by rw [Pk.rEnd, if_neg (by omega)]), H.under⟩

theorem refNextA {r c : Nat} {A : Option Addr} {cur : List UInt8} {s : RS} (w : World) {n : Nat} {z : Int} (hz : z = (n : Int)) (hn : n ≤ 9223372036854775807)  (hR : (RefR 101 r A c cur s).p w) (hok : Pk.Ok s) (he : s.2 ≠ 0) : Calls Tryd.prog 103 [.pointer (some ⟨r, 0, none⟩), .int .i64 z].toArray w (Ret (NextP 5 101 r A c cur w (Pk.next n s).1 (Pk.next n s).2)) := by
  subst hz
  obtain ⟨a, h1, ha, hs1⟩ := hR
  have hG := gat_of h1
  obtain ⟨ho1, ho2, ho3⟩ := hok
  refine k_enter (l := [_, _]) Tryd.func103 rfl rfl ?_
  have H := St.begin (f := Fact.blk r [.slice A cur.length c, .int .i64 (a : Int), .int .i64 s.2] 101) h1 (fun g hg => by cases hg; exact hG.1)
  refine k_seq ?_
  refine k_region ?_
  refine s_run (w_none rfl) rfl (as_s rfl rfl) ?_
  refine l_nil ?_
  refine k_seq ?_
  refine k_seq ?_
  refine k_region ?_
  refine s_run (w_none rfl) rfl (mv_p rfl rfl) ?_
  refine s_run (w_none rfl) rfl (d_nil rfl rfl) ?_
  refine s_run (w_none rfl) rfl (d_fa rfl rfl tf101_2) ?_
  refine s_run (w_none rfl) rfl (d_ld rfl H rfl ta30 rfl) ?_
  refine s_run (w_none rfl) rfl (d_eq rfl rfl rfl) ?_
  refine s_run (w_none rfl) rfl (mv_bx (c := false) rfl rfl (by simpa using he)) ?_
  refine s_skip (w_gno rfl rfl rfl rfl rfl) rfl ?_
  refine s_skip (w_gno rfl rfl rfl rfl rfl) rfl ?_
  refine s_skip (w_gno rfl rfl rfl rfl rfl) rfl ?_
  refine s_skip (w_gno rfl rfl rfl rfl rfl) rfl ?_
  refine s_run (w_none rfl) rfl (d_pickF rfl rfl rfl) ?_
  refine l_nil ?_
  refine k_condF rfl (by first | (simp; done) | (simp; omega)) ?_
  refine k_skip ?_
  refine k_seq ?_
  refine k_seq ?_
  refine k_region ?_
  refine s_run (w_none rfl) rfl (mv_p rfl rfl) ?_
  refine s_run (w_none rfl) rfl (d_nil rfl rfl) ?_
  refine s_run (w_none rfl) rfl (d_fa rfl rfl tf101_2) ?_
  refine s_run (w_none rfl) rfl (d_ld rfl H rfl ta30 rfl) ?_
  refine s_run (w_none rfl) rfl (d_ne rfl rfl rfl) ?_
  refine l_nil ?_
  refine k_condT rfl (by simpa using he) ?_
  refine k_seq ?_
  refine k_region ?_
  refine s_run (w_none rfl) rfl (as_s rfl rfl) ?_
  refine l_nil ?_
  refine k_ret ?_
  repeat (first | refine r_then ?_ | refine r_blk ?_)
  replace H := H.nilrow 5 1
  rw [Pk.next_bad he]
  exact q_ret (v := .slice _ _ _) rfl rfl ⟨_, rfl, H.nextP (s' := s) rfl rfl (Nat.le_refl _) (by omega) rfl ha rfl hs1⟩

theorem refNextB {r c : Nat} {A : Option Addr} {cur : List UInt8} {s : RS} (w : World) {n : Nat} {z : Int} (hz : z = (n : Int)) (hn : n ≤ 9223372036854775807)  (hR : (RefR 101 r A c cur s).p w) (hok : Pk.Ok s) (hl : cur.length ≤ 1000000000000) (he : s.2 = 0) (hsh : s.1.length < n) : Calls Tryd.prog 103 [.pointer (some ⟨r, 0, none⟩), .int .i64 z].toArray w (Ret (NextP 5 101 r A c cur w (Pk.next n s).1 (Pk.next n s).2)) := by
  subst hz
  have hok0 := hok
  obtain ⟨a, h1, ha, hs1⟩ := hR
  have hG := gat_of h1
  obtain ⟨ho1, ho2, ho3⟩ := hok
  refine k_enter (l := [_, _]) Tryd.func103 rfl rfl ?_
  have H := St.begin (f := Fact.blk r [.slice A cur.length c, .int .i64 (a : Int), .int .i64 s.2] 101) h1 (fun g hg => by cases hg; exact hG.1)
  refine k_seq ?_
  refine k_region ?_
  refine s_run (w_none rfl) rfl (as_s rfl rfl) ?_
  refine l_nil ?_
  refine k_seq ?_
  refine k_seq ?_
  refine k_region ?_
  refine s_run (w_none rfl) rfl (mv_p rfl rfl) ?_
  refine s_run (w_none rfl) rfl (d_nil rfl rfl) ?_
  refine s_run (w_none rfl) rfl (d_fa rfl rfl tf101_2) ?_
  refine s_run (w_none rfl) rfl (d_ld rfl H rfl ta30 rfl) ?_
  refine s_run (w_none rfl) rfl (d_eq rfl rfl rfl) ?_
  refine s_run (w_none rfl) rfl (mv_bx (c := true) rfl rfl (by simpa using he)) ?_
  refine s_run (w_g rfl rfl rfl rfl) rfl (mv_p rfl rfl) ?_
  refine s_eff (e_call (w_g rfl rfl rfl rfl) rfl rfl Tryd.func36 rfl rfl rfl (refLeft _ ⟨a, H.blk, ha, hs1⟩ hok0 hl) ?_)
  rintro _ W ⟨rfl, hb⟩
  replace H := H.below hb
  clear hb
  refine s_run (w_g rfl rfl rfl rfl) rfl (mv_i rfl rfl) ?_
  refine s_run (w_g rfl rfl rfl rfl) rfl (d_lt rfl rfl rfl) ?_
  refine s_run (w_none rfl) rfl (d_pickT rfl rfl rfl) ?_
  refine l_nil ?_
  refine k_condT rfl (by simp; omega) ?_
  refine k_region ?_
  refine s_run (w_none rfl) rfl (mv_p rfl rfl) ?_
  refine s_run (w_none rfl) rfl (d_nil rfl rfl) ?_
  refine s_run (w_none rfl) rfl (d_fa rfl rfl tf101_2) ?_
  refine s_eff (e_sto (w_none rfl) rfl rfl rfl rfl rfl ts30 rfl H rfl ?_)
  clear H; intro W H
  refine l_nil ?_
  refine k_seq ?_
  refine k_seq ?_
  refine k_region ?_
  refine s_run (w_none rfl) rfl (mv_p rfl rfl) ?_
  refine s_run (w_none rfl) rfl (d_nil rfl rfl) ?_
  refine s_run (w_none rfl) rfl (d_fa rfl rfl tf101_2) ?_
  refine s_run (w_none rfl) rfl (d_ld rfl H rfl ta30 rfl) ?_
  refine s_run (w_none rfl) rfl (d_ne rfl rfl rfl) ?_
  refine l_nil ?_
  refine k_condT rfl (by first | (simp; done) | (simp; omega)) ?_
  refine k_seq ?_
  refine k_region ?_
  refine s_run (w_none rfl) rfl (as_s rfl rfl) ?_
  refine l_nil ?_
  refine k_ret ?_
  repeat (first | refine r_then ?_ | refine r_blk ?_)
  replace H := H.nilrow 5 1
  rw [Pk.next_short he hsh]
  exact q_ret (v := .slice _ _ _) rfl rfl ⟨_, rfl, H.nextP (s' := ([], 4)) rfl rfl (Nat.le_refl _) (by omega) rfl ha rfl rfl⟩

theorem refNextC {S : Nat → Prop} {r c : Nat} {A : Option Addr} {cur : List UInt8} {s : RS} (w : World) {n : Nat} {z : Int} (hz : z = (n : Int)) (hn : n ≤ 9223372036854775807)  (hR : (RefR 101 r A c cur s).p w) (hok : Pk.Ok s) (hB : Bs w S (.slice A cur.length c) cur) (hS : ∀ g, S g → ¬ g = r) (hl : cur.length ≤ 1000000000000) (he : s.2 = 0) (hsh : n ≤ s.1.length) : Calls Tryd.prog 103 [.pointer (some ⟨r, 0, none⟩), .int .i64 z].toArray w (Ret (NextP 5 101 r A c cur w (Pk.next n s).1 (Pk.next n s).2)) := by
  subst hz
  have hok0 := hok
  obtain ⟨a, h1, ha, hs1⟩ := hR
  have hG := gat_of h1
  obtain ⟨ho1, ho2, ho3⟩ := hok
  obtain ⟨_, _, hv, hcc, _, _⟩ := hB.op
  cases hv
  have hs2 := hs1
  rw [if_pos he] at hs2
  have hln : s.1.length = cur.length - a := by rw [hs2, List.length_drop]
  refine k_enter (l := [_, _]) Tryd.func103 rfl rfl ?_
  have H := St.begin (f := Fact.blk r [.slice A cur.length c, .int .i64 (a : Int), .int .i64 s.2] 101) h1 (fun g hg => by cases hg; exact hG.1)
  refine k_seq ?_
  refine k_region ?_
  refine s_run (w_none rfl) rfl (as_s rfl rfl) ?_
  refine l_nil ?_
  refine k_seq ?_
  refine k_seq ?_
  refine k_region ?_
  refine s_run (w_none rfl) rfl (mv_p rfl rfl) ?_
  refine s_run (w_none rfl) rfl (d_nil rfl rfl) ?_
  refine s_run (w_none rfl) rfl (d_fa rfl rfl tf101_2) ?_
  refine s_run (w_none rfl) rfl (d_ld rfl H rfl ta30 rfl) ?_
  refine s_run (w_none rfl) rfl (d_eq rfl rfl rfl) ?_
  refine s_run (w_none rfl) rfl (mv_bx (c := true) rfl rfl (by simpa using he)) ?_
  refine s_run (w_g rfl rfl rfl rfl) rfl (mv_p rfl rfl) ?_
  refine s_eff (e_call (w_g rfl rfl rfl rfl) rfl rfl Tryd.func36 rfl rfl rfl (refLeft _ ⟨a, H.blk, ha, hs1⟩ hok0 hl) ?_)
  rintro _ W ⟨rfl, hb⟩
  replace H := H.below hb
  clear hb
  refine s_run (w_g rfl rfl rfl rfl) rfl (mv_i rfl rfl) ?_
  refine s_run (w_g rfl rfl rfl rfl) rfl (d_lt rfl rfl rfl) ?_
  refine s_run (w_none rfl) rfl (d_pickT rfl rfl rfl) ?_
  refine l_nil ?_
  refine k_condF rfl (by simp; omega) ?_
  refine k_skip ?_
  refine k_seq ?_
  refine k_seq ?_
  refine k_region ?_
  refine s_run (w_none rfl) rfl (mv_p rfl rfl) ?_
  refine s_run (w_none rfl) rfl (d_nil rfl rfl) ?_
  refine s_run (w_none rfl) rfl (d_fa rfl rfl tf101_2) ?_
  refine s_run (w_none rfl) rfl (d_ld rfl H rfl ta30 rfl) ?_
  refine s_run (w_none rfl) rfl (d_ne rfl rfl rfl) ?_
  refine l_nil ?_
  refine k_condF rfl (by simpa using he) ?_
  refine k_skip ?_
  refine k_seq ?_
  refine k_region ?_
  refine s_run (w_none rfl) rfl (mv_p rfl rfl) ?_
  refine s_run (w_none rfl) rfl (mv_p rfl rfl) ?_
  refine s_run (w_none rfl) rfl (d_nil rfl rfl) ?_
  refine s_run (w_none rfl) rfl (d_fa rfl rfl tf101_1) ?_
  refine s_run (w_none rfl) rfl (d_ld rfl H rfl ta3 rfl) ?_
  refine s_run (w_none rfl) rfl (mv_i rfl rfl) ?_
  refine s_run (w_none rfl) rfl (d_add rfl rfl rfl (by omega)) ?_
  refine s_run (w_none rfl) rfl (d_nil rfl rfl) ?_
  refine s_run (w_none rfl) rfl (d_fa rfl rfl tf101_1) ?_
  refine s_eff (e_sto (w_none rfl) rfl rfl rfl rfl rfl ts3 rfl H rfl ?_)
  clear H; intro W H
  refine l_nil ?_
  refine k_seq ?_
  refine k_draw [(0, true), (1, true), (2, true), (3, true), (4, true), (5, true), (6, true), (7, true), (8, true), (9, true), (10, true), (11, true), (12, true), (13, true), (14, true), (15, false), (16, true)] _ (by kernel_rfl) (by kernel_rfl) H (.refl _) ?_
  clear H; intro W H
  refine c_run rfl (w_none rfl) rfl (fun W H => mv_p rfl rfl) ?_
  refine c_run rfl (w_none rfl) rfl (fun W H => d_nil rfl rfl) ?_
  refine c_run rfl (w_none rfl) rfl (fun W H => d_fa rfl rfl tf101_0) ?_
  refine c_run rfl (w_none rfl) rfl (fun W H => d_ld rfl H rfl ta23 rfl) ?_
  refine c_run rfl (w_none rfl) rfl (fun W H => mv_p rfl rfl) ?_
  refine c_run rfl (w_none rfl) rfl (fun W H => d_nil rfl rfl) ?_
  refine c_run rfl (w_none rfl) rfl (fun W H => d_fa rfl rfl tf101_1) ?_
  refine c_run rfl (w_none rfl) rfl (fun W H => d_ld rfl H rfl ta3 rfl) ?_
  refine c_run rfl (w_none rfl) rfl (fun W H => mv_i rfl rfl) ?_
  refine c_run rfl (w_none rfl) rfl (fun W H => d_sub rfl rfl rfl (by omega)) ?_
  refine c_run rfl (w_none rfl) rfl (fun W H => mv_p rfl rfl) ?_
  refine c_run rfl (w_none rfl) rfl (fun W H => d_nil rfl rfl) ?_
  refine c_run rfl (w_none rfl) rfl (fun W H => d_fa rfl rfl tf101_1) ?_
  refine c_run rfl (w_none rfl) rfl (fun W H => d_ld rfl H rfl ta3 rfl) ?_
  refine c_run rfl (w_none rfl) rfl (fun W H => d_cut rfl rfl rfl (l := a) (by omega) (h := a + n) (by omega) (by omega) (by omega) rfl tu23 ts5) ?_
  refine c_eff rfl (e_call (w_none rfl) rfl rfl Tryd.func67 rfl rfl rfl (copyBytes _ ((cur.drop a).take (a + n - a)) _ (bs_cut (H.bsT hB hS) rfl (by omega) (by omega)) (by simp; omega)) ?_)
  rintro _ W ⟨A1, c1, rfl, hc1, hd1, hn⟩
  replace H := H.new hn
  clear hn
  refine ⟨H.sub (by repeat (first | exact List.Sublist.refl _ | refine List.Sublist.cons_cons _ ?_ | refine List.Sublist.cons _ ?_)), ?_⟩
  refine c_run rfl (w_none rfl) rfl (fun W H => as_s rfl rfl) ?_
  refine c_nil ?_
  refine k_ret ?_
  repeat (first | refine r_then ?_ | refine r_blk ?_)
  rw [Pk.next_ok he hsh]
  have el : ((cur.drop a).take (a + n - a)) = s.1.take n := by rw [hs2, Nat.add_sub_cancel_left]
  rw [el] at H hc1 ⊢
  exact q_ret (v := .slice _ _ _) rfl rfl ⟨_, rfl, H.nextP (q := a + n) (s' := (s.1.drop n, 0)) rfl rfl hc1 hd1 (by omega) (by omega) he.symm (by rw [he, if_pos rfl, hs2, List.drop_drop])⟩

theorem refNext {S : Nat → Prop} {r c : Nat} {A : Option Addr} {cur : List UInt8} {s : RS} (w : World) {n : Nat} {z : Int} (hz : z = (n : Int)) (hn : n ≤ 9223372036854775807) (hR : (RefR 101 r A c cur s).p w) (hok : Pk.Ok s) (hB : Bs w S (.slice A cur.length c) cur) (hS : ∀ g, S g → ¬ g = r) (hl : cur.length ≤ 1000000000000) : Calls Tryd.prog 103 [.pointer (some ⟨r, 0, none⟩), .int .i64 z].toArray w (Ret (NextP 5 101 r A c cur w (Pk.next n s).1 (Pk.next n s).2)) := by
  by_cases he : s.2 = 0
  · rcases Nat.lt_or_ge s.1.length n with h | h
    · exact refNextB w hz hn hR hok hl he h
    · exact refNextC w hz hn hR hok hB hS hl he h
  · exact refNextA w hz hn hR hok he

theorem refNextE {S : Nat → Prop} {r c : Nat} {A : Option Addr} {cur : List UInt8} {s : RS} (w : World) {n : Nat} {z : Int} {b : List UInt8} {s' : RS} (hx : Pk.next n s = (b, s')) (hz : z = (n : Int)) (hn : n ≤ 9223372036854775807) (hR : (RefR 101 r A c cur s).p w) (hok : Pk.Ok s) (hB : Bs w S (.slice A cur.length c) cur) (hS : ∀ g, S g → ¬ g = r) (hl : cur.length ≤ 1000000000000) : Calls Tryd.prog 103 [.pointer (some ⟨r, 0, none⟩), .int .i64 z].toArray w (Ret (NextP 5 101 r A c cur w b s')) := by
  have h := refNext w hz hn hR hok hB hS hl
  rw [hx] at h
  exact h

theorem refRdIntA {S : Nat → Prop} {r c : Nat} {A : Option Addr} {cur : List UInt8} {s : RS} (w : World) {s1 : RS} (hR : (RefR 101 r A c cur s).p w) (hok : Pk.Ok s) (hB : Bs w S (.slice A cur.length c) cur) (hS : ∀ g, S g → ¬ g = r) (hl : cur.length ≤ 1000000000000) (h1 : Pk.next 1 s = ([], s1)) : Calls Tryd.prog 75 [.pointer (some ⟨r, 0, none⟩)].toArray w (Ret (ValP 101 r A c cur w (.int .i64 ((Pk.rInt s).1 : Int)) (Pk.rInt s).2)) := by
  refine k_enter (l := [_]) Tryd.func75 rfl rfl ?_
  have H := St.begin (f := RefR 101 r A c cur s) hR (fun g hg => by cases hg; exact refR_lt hR)
  refine k_seq ?_
  refine k_region ?_
  refine s_run (w_none rfl) rfl (as_i rfl rfl) ?_
  refine l_nil ?_
  refine k_seq ?_
  refine k_region ?_
  refine s_run (w_none rfl) rfl (mv_p rfl rfl) ?_
  refine s_eff (e_call (w_none rfl) rfl rfl Tryd.func103 rfl rfl rfl (refNextE _ h1 (by rfl) (by omega) (H.get (f := RefR 101 r A c cur s)) hok (H.bsT hB hS) hS hl) ?_)
  rintro _ W ⟨⟨A1, c1, rfl, hc1, hd1, ho1, hf1, hfr1⟩, hr1⟩
  replace H := H.mutnew (f := RefR 101 r A c cur s) (f' := RefR 101 r A c cur s1) (fn := Fact.row 5 1 (.slice A1 0 c1) 0 _) hfr1 hr1 (fun _ h => h) ho1 hf1
  clear hfr1 hr1 ho1 hf1
  refine s_run (w_none rfl) rfl (as_s rfl rfl) ?_
  refine l_nil ?_
  refine k_seq ?_
  refine k_seq ?_
  refine k_region ?_
  refine s_run (w_none rfl) rfl (mv_s rfl rfl) ?_
  refine s_run (w_none rfl) rfl (d_len rfl rfl tu23) ?_
  refine s_run (w_none rfl) rfl (d_eq rfl rfl rfl) ?_
  refine l_nil ?_
  refine k_condT rfl (by first | (simp; done) | (simp; omega)) ?_
  refine k_seq ?_
  refine k_region ?_
  refine s_run (w_none rfl) rfl (as_i rfl rfl) ?_
  refine l_nil ?_
  refine k_ret ?_
  repeat (first | refine r_then ?_ | refine r_blk ?_)
  have e : Pk.rInt s = (0, s1) := by unfold Pk.rInt; rw [h1]
  rw [e]
  exact q_ret (v := .int _ _) rfl rfl ⟨_, rfl, H.valP'⟩

theorem refRdIntC {S : Nat → Prop} {r c : Nat} {A : Option Addr} {cur : List UInt8} {s : RS} (w : World) {s1 : RS} {b0 : UInt8} (hR : (RefR 101 r A c cur s).p w) (hok : Pk.Ok s) (hB : Bs w S (.slice A cur.length c) cur) (hS : ∀ g, S g → ¬ g = r) (hl : cur.length ≤ 1000000000000) (h1 : Pk.next 1 s = ([b0], s1)) (hw : Pk.wide b0 = 0) : Calls Tryd.prog 75 [.pointer (some ⟨r, 0, none⟩)].toArray w (Ret (ValP 101 r A c cur w (.int .i64 ((Pk.rInt s).1 : Int)) (Pk.rInt s).2)) := by
  refine k_enter (l := [_]) Tryd.func75 rfl rfl ?_
  have H := St.begin (f := RefR 101 r A c cur s) hR (fun g hg => by cases hg; exact refR_lt hR)
  refine k_seq ?_
  refine k_region ?_
  refine s_run (w_none rfl) rfl (as_i rfl rfl) ?_
  refine l_nil ?_
  refine k_seq ?_
  refine k_region ?_
  refine s_run (w_none rfl) rfl (mv_p rfl rfl) ?_
  refine s_eff (e_call (w_none rfl) rfl rfl Tryd.func103 rfl rfl rfl (refNextE _ h1 (by rfl) (by omega) (H.get (f := RefR 101 r A c cur s)) hok (H.bsT hB hS) hS hl) ?_)
  rintro _ W ⟨⟨A1, c1, rfl, hc1, hd1, ho1, hf1, hfr1⟩, hr1⟩
  replace H := H.mutnew (f := RefR 101 r A c cur s) (f' := RefR 101 r A c cur s1) (fn := Fact.row 5 1 (.slice A1 1 c1) 1 _) hfr1 hr1 (fun _ h => h) ho1 hf1
  clear hfr1 hr1 ho1 hf1
  refine s_run (w_none rfl) rfl (as_s rfl rfl) ?_
  refine l_nil ?_
  refine k_seq ?_
  refine k_seq ?_
  refine k_region ?_
  refine s_run (w_none rfl) rfl (mv_s rfl rfl) ?_
  refine s_run (w_none rfl) rfl (d_len rfl rfl tu23) ?_
  refine s_run (w_none rfl) rfl (d_eq rfl rfl rfl) ?_
  refine l_nil ?_
  refine k_condF rfl (by first | (simp; done) | (simp; omega)) ?_
  refine k_skip ?_
  refine k_seq ?_
  refine k_region ?_
  refine s_run (w_none rfl) rfl (as_i rfl rfl) ?_
  refine l_nil ?_
  refine k_seq ?_
  refine k_seq ?_
  refine k_region ?_
  refine s_run (w_none rfl) rfl (mv_s rfl rfl) ?_
  refine s_run (w_none rfl) rfl (d_iaB rfl (H.rowrd (A := A1)) rfl rfl (q := 0) rfl (by decide) tu23 ts5) ?_
  refine s_run (w_none rfl) rfl (d_ldB rfl (H.rowrd (A := A1)) ((rfl : [b0][0]? = some b0)) rfl ta5) ?_
  refine l_nil ?_
  refine k_bcut 16 [4] (fun sl W => sl = [(4, .int .i64 (Pk.wide b0 : Int))] ∧ St (· = r) w W [Fact.row 5 1 (.slice A1 1 c1) 1 ([b0].map u8v), RefR 101 r A c cur s1]) ?_ (fun sl ρv W hJ => ?_)
  · skip
    refine k_seq ?_
    refine k_region ?_
    refine s_run (w_none rfl) rfl (d_eq rfl rfl rfl) ?_
    refine s_run (w_none rfl) rfl (as_b rfl rfl) ?_
    refine l_nil ?_
    refine k_cond rfl (fun hc16 => ?_) (fun hc16 => ?_)
    · skip
      refine k_region ?_
      refine s_run (w_none rfl) rfl (as_i rfl rfl) ?_
      refine l_nil ?_
      refine k_nil ?_
      refine b_endc ?_
      refine ⟨_, _, rfl, ?_, ?_, ⟨rfl, H⟩⟩
      · repeat (first | (with_reducible exact Eqo.refl) | ((with_reducible refine Eqo.upd ?_ ?_); rotate_left; exact rfl))
      · refine ⟨?_, trivial⟩
        · exact vi (by rw [Pk.wide_253 hc16]; rfl)
    · skip
      refine k_seq ?_
      refine k_region ?_
      refine s_run (w_none rfl) rfl (d_eq rfl rfl rfl) ?_
      refine s_run (w_none rfl) rfl (as_b rfl rfl) ?_
      refine l_nil ?_
      refine k_cond rfl (fun hc18 => ?_) (fun hc18 => ?_)
      · skip
        refine k_region ?_
        refine s_run (w_none rfl) rfl (as_i rfl rfl) ?_
        refine l_nil ?_
        refine k_nil ?_
        refine b_endc ?_
        refine ⟨_, _, rfl, ?_, ?_, ⟨rfl, H⟩⟩
        · repeat (first | (with_reducible exact Eqo.refl) | ((with_reducible refine Eqo.upd ?_ ?_); rotate_left; exact rfl))
        · refine ⟨?_, trivial⟩
          · exact vi (by rw [Pk.wide_254 hc18]; rfl)
      · skip
        refine k_seq ?_
        refine k_region ?_
        refine s_run (w_none rfl) rfl (d_eq rfl rfl rfl) ?_
        refine s_run (w_none rfl) rfl (as_b rfl rfl) ?_
        refine l_nil ?_
        refine k_cond rfl (fun hc20 => ?_) (fun hc20 => ?_)
        · skip
          refine k_region ?_
          refine s_run (w_none rfl) rfl (as_i rfl rfl) ?_
          refine l_nil ?_
          refine k_nil ?_
          refine b_endc ?_
          refine ⟨_, _, rfl, ?_, ?_, ⟨rfl, H⟩⟩
          · repeat (first | (with_reducible exact Eqo.refl) | ((with_reducible refine Eqo.upd ?_ ?_); rotate_left; exact rfl))
          · refine ⟨?_, trivial⟩
            · exact vi (by rw [Pk.wide_255 hc20]; rfl)
        · skip
          refine k_skip ?_
          refine k_nil ?_
          refine b_endc ?_
          refine ⟨_, _, rfl, ?_, ?_, ⟨rfl, H⟩⟩
          · repeat (first | (with_reducible exact Eqo.refl) | ((with_reducible refine Eqo.upd ?_ ?_); rotate_left; exact rfl))
          · refine ⟨?_, trivial⟩
            · exact vi (by rw [Pk.wide_0 hc16 hc18 hc20]; rfl)
  clear H; obtain ⟨rfl, H⟩ := hJ
  refine k_seq ?_
  refine k_seq ?_
  refine k_region ?_
  refine s_run (w_none rfl) rfl (mv_i rfl rfl) ?_
  refine s_run (w_none rfl) rfl (d_eq rfl rfl rfl) ?_
  refine l_nil ?_
  refine k_condT rfl (by simp [hw]) ?_
  refine k_seq ?_
  refine k_region ?_
  refine s_run (w_none rfl) rfl (mv_s rfl rfl) ?_
  refine s_run (w_none rfl) rfl (d_iaB rfl (H.rowrd (A := A1)) rfl rfl (q := 0) rfl (by decide) tu23 ts5) ?_
  refine s_run (w_none rfl) rfl (d_ldB rfl (H.rowrd (A := A1)) ((rfl : [b0][0]? = some b0)) rfl ta5) ?_
  refine s_run (w_none rfl) rfl (d_conv rfl rfl (by rw [tu5]; rfl) tu3 (IntWalk.i64_in _ (by have := b0.toNat_lt; omega))) ?_
  refine s_run (w_none rfl) rfl (as_i rfl rfl) ?_
  refine l_nil ?_
  refine k_ret ?_
  repeat (first | refine r_then ?_ | refine r_blk ?_)
  have e : Pk.rInt s = (b0.toNat, s1) := by unfold Pk.rInt; rw [h1]; simp only [hw, if_true]
  rw [e]
  exact q_ret (v := .int _ _) rfl rfl ⟨_, rfl, H.valP'⟩

theorem refRdIntD {S : Nat → Prop} {r c : Nat} {A : Option Addr} {cur : List UInt8} {s : RS} (w : World) {s1 s2 : RS} {b0 : UInt8} {b : List UInt8} (hR : (RefR 101 r A c cur s).p w) (hok : Pk.Ok s) (hB : Bs w S (.slice A cur.length c) cur) (hS : ∀ g, S g → ¬ g = r) (hl : cur.length ≤ 1000000000000) (h1 : Pk.next 1 s = ([b0], s1)) (hw : Pk.wide b0 ≠ 0) (h2 : Pk.next (Pk.wide b0) s1 = (b, s2)) (he : s2.2 ≠ 0) (hbl : b.length = 0) : Calls Tryd.prog 75 [.pointer (some ⟨r, 0, none⟩)].toArray w (Ret (ValP 101 r A c cur w (.int .i64 ((Pk.rInt s).1 : Int)) (Pk.rInt s).2)) := by
  refine k_enter (l := [_]) Tryd.func75 rfl rfl ?_
  have H := St.begin (f := RefR 101 r A c cur s) hR (fun g hg => by cases hg; exact refR_lt hR)
  refine k_seq ?_
  refine k_region ?_
  refine s_run (w_none rfl) rfl (as_i rfl rfl) ?_
  refine l_nil ?_
  refine k_seq ?_
  refine k_region ?_
  refine s_run (w_none rfl) rfl (mv_p rfl rfl) ?_
  refine s_eff (e_call (w_none rfl) rfl rfl Tryd.func103 rfl rfl rfl (refNextE _ h1 (by rfl) (by omega) (H.get (f := RefR 101 r A c cur s)) hok (H.bsT hB hS) hS hl) ?_)
  rintro _ W ⟨⟨A1, c1, rfl, hc1, hd1, ho1, hf1, hfr1⟩, hr1⟩
  replace H := H.mutnew (f := RefR 101 r A c cur s) (f' := RefR 101 r A c cur s1) (fn := Fact.row 5 1 (.slice A1 1 c1) 1 _) hfr1 hr1 (fun _ h => h) ho1 hf1
  clear hfr1 hr1 ho1 hf1
  refine s_run (w_none rfl) rfl (as_s rfl rfl) ?_
  refine l_nil ?_
  refine k_seq ?_
  refine k_seq ?_
  refine k_region ?_
  refine s_run (w_none rfl) rfl (mv_s rfl rfl) ?_
  refine s_run (w_none rfl) rfl (d_len rfl rfl tu23) ?_
  refine s_run (w_none rfl) rfl (d_eq rfl rfl rfl) ?_
  refine l_nil ?_
  refine k_condF rfl (by first | (simp; done) | (simp; omega)) ?_
  refine k_skip ?_
  refine k_seq ?_
  refine k_region ?_
  refine s_run (w_none rfl) rfl (as_i rfl rfl) ?_
  refine l_nil ?_
  refine k_seq ?_
  refine k_seq ?_
  refine k_region ?_
  refine s_run (w_none rfl) rfl (mv_s rfl rfl) ?_
  refine s_run (w_none rfl) rfl (d_iaB rfl (H.rowrd (A := A1)) rfl rfl (q := 0) rfl (by decide) tu23 ts5) ?_
  refine s_run (w_none rfl) rfl (d_ldB rfl (H.rowrd (A := A1)) ((rfl : [b0][0]? = some b0)) rfl ta5) ?_
  refine l_nil ?_
  refine k_bcut 16 [4] (fun sl W => sl = [(4, .int .i64 (Pk.wide b0 : Int))] ∧ St (· = r) w W [Fact.row 5 1 (.slice A1 1 c1) 1 ([b0].map u8v), RefR 101 r A c cur s1]) ?_ (fun sl ρv W hJ => ?_)
  · skip
    refine k_seq ?_
    refine k_region ?_
    refine s_run (w_none rfl) rfl (d_eq rfl rfl rfl) ?_
    refine s_run (w_none rfl) rfl (as_b rfl rfl) ?_
    refine l_nil ?_
    refine k_cond rfl (fun hc16 => ?_) (fun hc16 => ?_)
    · skip
      refine k_region ?_
      refine s_run (w_none rfl) rfl (as_i rfl rfl) ?_
      refine l_nil ?_
      refine k_nil ?_
      refine b_endc ?_
      refine ⟨_, _, rfl, ?_, ?_, ⟨rfl, H⟩⟩
      · repeat (first | (with_reducible exact Eqo.refl) | ((with_reducible refine Eqo.upd ?_ ?_); rotate_left; exact rfl))
      · refine ⟨?_, trivial⟩
        · exact vi (by rw [Pk.wide_253 hc16]; rfl)
    · skip
      refine k_seq ?_
      refine k_region ?_
      refine s_run (w_none rfl) rfl (d_eq rfl rfl rfl) ?_
      refine s_run (w_none rfl) rfl (as_b rfl rfl) ?_
      refine l_nil ?_
      refine k_cond rfl (fun hc18 => ?_) (fun hc18 => ?_)
      · skip
        refine k_region ?_
        refine s_run (w_none rfl) rfl (as_i rfl rfl) ?_
        refine l_nil ?_
        refine k_nil ?_
        refine b_endc ?_
        refine ⟨_, _, rfl, ?_, ?_, ⟨rfl, H⟩⟩
        · repeat (first | (with_reducible exact Eqo.refl) | ((with_reducible refine Eqo.upd ?_ ?_); rotate_left; exact rfl))
        · refine ⟨?_, trivial⟩
          · exact vi (by rw [Pk.wide_254 hc18]; rfl)
      · skip
        refine k_seq ?_
        refine k_region ?_
        refine s_run (w_none rfl) rfl (d_eq rfl rfl rfl) ?_
        refine s_run (w_none rfl) rfl (as_b rfl rfl) ?_
        refine l_nil ?_
        refine k_cond rfl (fun hc20 => ?_) (fun hc20 => ?_)
        · skip
          refine k_region ?_
          refine s_run (w_none rfl) rfl (as_i rfl rfl) ?_
          refine l_nil ?_
          refine k_nil ?_
          refine b_endc ?_
          refine ⟨_, _, rfl, ?_, ?_, ⟨rfl, H⟩⟩
          · repeat (first | (with_reducible exact Eqo.refl) | ((with_reducible refine Eqo.upd ?_ ?_); rotate_left; exact rfl))
          · refine ⟨?_, trivial⟩
            · exact vi (by rw [Pk.wide_255 hc20]; rfl)
        · skip
          refine k_skip ?_
          refine k_nil ?_
          refine b_endc ?_
          refine ⟨_, _, rfl, ?_, ?_, ⟨rfl, H⟩⟩
          · repeat (first | (with_reducible exact Eqo.refl) | ((with_reducible refine Eqo.upd ?_ ?_); rotate_left; exact rfl))
          · refine ⟨?_, trivial⟩
            · exact vi (by rw [Pk.wide_0 hc16 hc18 hc20]; rfl)
  clear H; obtain ⟨rfl, H⟩ := hJ
  refine k_seq ?_
  refine k_seq ?_
  refine k_region ?_
  refine s_run (w_none rfl) rfl (mv_i rfl rfl) ?_
  refine s_run (w_none rfl) rfl (d_eq rfl rfl rfl) ?_
  refine l_nil ?_
  refine k_condF rfl (by simp [hw]) ?_
  refine k_skip ?_
  refine k_seq ?_
  have hok1 := Pk.ok_next (n := 1) hok
  rw [h1] at hok1
  have hw8 : Pk.wide b0 ≤ 8 := by rcases Pk.wide_of (c := b0) with h | h | h | h <;> omega
  refine k_region ?_
  refine s_run (w_none rfl) rfl (mv_p rfl rfl) ?_
  refine s_run (w_none rfl) rfl (mv_i rfl rfl) ?_
  refine s_eff (e_call (w_none rfl) rfl rfl Tryd.func103 rfl rfl rfl (refNextE _ h2 (by rfl) (by omega) (H.get (f := RefR 101 r A c cur s1)) hok1 (H.bsT hB hS) hS hl) ?_)
  rintro _ W ⟨⟨A2, c2, rfl, hc2, hd2, ho2, hf2, hfr2⟩, hr2⟩
  replace H := H.mutnew (f := RefR 101 r A c cur s1) (f' := RefR 101 r A c cur s2) (fn := Fact.row 5 1 (.slice A2 b.length c2) b.length _) hfr2 hr2 (fun _ h => h) ho2 hf2
  clear hfr2 hr2 ho2 hf2
  refine s_run (w_none rfl) rfl (as_s rfl rfl) ?_
  refine l_nil ?_
  refine k_seq ?_
  refine k_region ?_
  refine s_run (w_none rfl) rfl (as_i rfl rfl) ?_
  refine l_nil ?_
  refine k_seq ?_
  refine k_seq ?_
  refine k_region ?_
  refine s_run (w_none rfl) rfl (mv_s rfl rfl) ?_
  refine s_run (w_none rfl) rfl (d_len rfl rfl tu23) ?_
  refine s_run (w_none rfl) rfl (d_sub rfl rfl rfl (by omega)) ?_
  refine s_run (w_none rfl) rfl (as_i rfl rfl) ?_
  refine l_nil ?_
  refine k_block ?_
  refine k_loop 34 [6, 7] (fun mm sl W => ∃ k : Nat, k = mm ∧ sl = [(7, .int .i64 ((k : Int) - 1)), (6, .int .u64 (Pk.ofLe (b.drop k) : Int))] ∧ (k ≤ b.length) ∧ St (· = r) w W [Fact.row 5 1 (.slice A2 b.length c2) b.length (b.map u8v), Fact.row 5 1 (.slice A1 1 c1) 1 ([b0].map u8v), RefR 101 r A c cur s2]) _ _ ⟨b.length, rfl, rfl, Nat.le_refl _, H⟩ ⟨rfl, vi (by rw [Pk.ofLe_nil (Nat.le_refl _)]; rfl), trivial⟩ (fun mm sl ρv W hJ => ?_)
  clear H; obtain ⟨k, rfl, rfl, hk, H⟩ := hJ
  refine k_one ?_
  refine k_seq ?_
  refine k_seq ?_
  refine k_region ?_
  refine s_run (w_none rfl) rfl (mv_i rfl rfl) ?_
  refine s_run (w_none rfl) rfl (d_ge rfl rfl rfl) ?_
  refine l_nil ?_
  refine k_cond rfl (fun hc35 => ?_) (fun hc35 => ?_)
  · first | (replace hc35 := of_decide_eq_true hc35) | simp at hc35
    refine k_skip ?_
    refine k_seq ?_
    refine k_block ?_
    have hst := Pk.ofLe_step (b := b) (k := k) (by omega) hk (by omega)
    refine k_region ?_
    refine s_run (w_none rfl) rfl (mv_i rfl rfl) ?_
    refine s_run (w_none rfl) rfl (d_mulW rfl rfl rfl hst.1) ?_
    refine s_run (w_none rfl) rfl (mv_s rfl rfl) ?_
    refine s_run (w_none rfl) rfl (mv_i rfl rfl) ?_
    refine s_run (w_none rfl) rfl (d_iaB rfl (H.rowrd (A := A2)) rfl rfl (q := k - 1) (by omega) (by omega) tu23 ts5) ?_
    refine s_run (w_none rfl) rfl (d_ldB rfl (H.rowrd (A := A2)) ((l_get (by omega))) rfl ta5) ?_
    refine s_run (w_none rfl) rfl (d_conv rfl rfl (by rw [tu5]; rfl) tu22 (IntWalk.u64_in _ (by have := (b.getD (k - 1) 0).toNat_lt; omega))) ?_
    refine s_run (w_none rfl) rfl (d_addW rfl rfl rfl hst.2) ?_
    refine s_run (w_none rfl) rfl (as_i rfl rfl) ?_
    refine l_nil ?_
    refine k_nil ?_
    refine b_end ?_
    refine k_region ?_
    refine s_run (w_none rfl) rfl (mv_i rfl rfl) ?_
    refine s_run (w_none rfl) rfl (d_sub rfl rfl rfl (by omega)) ?_
    refine s_run (w_none rfl) rfl (as_i rfl rfl) ?_
    refine l_nil ?_
    refine k_nil ?_
    refine k_next ?_
    refine ⟨_, _, _, ?_, rfl, ?_, ?_, ⟨k - 1, rfl, rfl, by omega, H⟩⟩
    · omega
    · repeat (first | ((with_reducible refine Eqo.updl _ Eqo.ovr ?_); exact rfl) | ((with_reducible refine Eqo.upd ?_ ?_); rotate_left; exact rfl))
    · refine ⟨?_, ?_, trivial⟩
      · exact vi (by omega)
      · exact rfl
  · first | (replace hc35 := of_decide_eq_false hc35) | simp at hc35
    refine k_exit ?_
    refine x_then (x_then ?_)
    refine x_hit ?_
    refine k_seq ?_
    refine k_seq ?_
    obtain rfl : k = 0 := by omega
    rw [List.drop_zero]
    obtain ⟨a, hbk, ha, hsa⟩ := H.get (f := RefR 101 r A c cur s2)
    replace H := H.turn (f := RefR 101 r A c cur s2) (f' := Fact.blk r [.slice A cur.length c, .int .i64 (a : Int), .int .i64 s2.2] 101) Fr.refl hbk (fun g h => .inl h)
    clear hbk
    refine k_region ?_
    refine s_run (w_none rfl) rfl (mv_p rfl rfl) ?_
    refine s_run (w_none rfl) rfl (d_nil rfl rfl) ?_
    refine s_run (w_none rfl) rfl (d_fa rfl rfl tf101_2) ?_
    refine s_run (w_none rfl) rfl (d_ld rfl H rfl ta30 rfl) ?_
    refine s_run (w_none rfl) rfl (d_eq rfl rfl rfl) ?_
    refine s_run (w_none rfl) rfl (mv_bx (c := false) rfl rfl (by simpa using he)) ?_
    refine s_skip (w_gno rfl rfl rfl rfl rfl) rfl ?_
    refine s_skip (w_gno rfl rfl rfl rfl rfl) rfl ?_
    refine s_run (w_none rfl) rfl (d_pickF rfl rfl rfl) ?_
    refine l_nil ?_
    refine k_condF rfl (by first | (simp; done) | (simp; omega)) ?_
    refine k_skip ?_
    refine k_seq ?_
    refine k_seq ?_
    refine k_region ?_
    refine s_run (w_none rfl) rfl (mv_p rfl rfl) ?_
    refine s_run (w_none rfl) rfl (d_nil rfl rfl) ?_
    refine s_run (w_none rfl) rfl (d_fa rfl rfl tf101_2) ?_
    refine s_run (w_none rfl) rfl (d_ld rfl H rfl ta30 rfl) ?_
    refine s_run (w_none rfl) rfl (d_eq rfl rfl rfl) ?_
    refine s_run (w_none rfl) rfl (mv_bx (c := false) rfl rfl (by simpa using he)) ?_
    refine s_skip (w_gno rfl rfl rfl rfl rfl) rfl ?_
    refine s_skip (w_gno rfl rfl rfl rfl rfl) rfl ?_
    refine s_skip (w_gno rfl rfl rfl rfl rfl) rfl ?_
    refine s_skip (w_gno rfl rfl rfl rfl rfl) rfl ?_
    refine s_skip (w_gno rfl rfl rfl rfl rfl) rfl ?_
    refine s_skip (w_gno rfl rfl rfl rfl rfl) rfl ?_
    refine s_skip (w_gno rfl rfl rfl rfl rfl) rfl ?_
    refine s_run (w_none rfl) rfl (d_pickF rfl rfl rfl) ?_
    refine l_nil ?_
    refine k_condF rfl (by first | (simp; done) | (simp; omega)) ?_
    refine k_skip ?_
    refine k_seq ?_
    refine k_seq ?_
    refine k_region ?_
    refine s_run (w_none rfl) rfl (mv_p rfl rfl) ?_
    refine s_run (w_none rfl) rfl (d_nil rfl rfl) ?_
    refine s_run (w_none rfl) rfl (d_fa rfl rfl tf101_2) ?_
    refine s_run (w_none rfl) rfl (d_ld rfl H rfl ta30 rfl) ?_
    refine s_run (w_none rfl) rfl (d_ne rfl rfl rfl) ?_
    refine l_nil ?_
    refine k_condT rfl (by simpa using he) ?_
    refine k_seq ?_
    refine k_region ?_
    refine s_run (w_none rfl) rfl (as_i rfl rfl) ?_
    refine l_nil ?_
    refine k_ret ?_
    repeat (first | refine r_then ?_ | refine r_blk ?_)
    have e : Pk.rInt s = (0, s2) := by unfold Pk.rInt; rw [h1]; simp only [hw, if_false, h2, he, ne_eq, not_false_eq_true, if_true]
    rw [e]
    exact q_ret (v := .int _ _) rfl rfl ⟨_, rfl, H.valP rfl ha rfl hsa⟩

theorem refRdIntE {S : Nat → Prop} {r c : Nat} {A : Option Addr} {cur : List UInt8} {s : RS} (w : World) {s1 s2 : RS} {b0 : UInt8} {b : List UInt8} (hR : (RefR 101 r A c cur s).p w) (hok : Pk.Ok s) (hB : Bs w S (.slice A cur.length c) cur) (hS : ∀ g, S g → ¬ g = r) (hl : cur.length ≤ 1000000000000) (h1 : Pk.next 1 s = ([b0], s1)) (hw : Pk.wide b0 ≠ 0) (h2 : Pk.next (Pk.wide b0) s1 = (b, s2)) (he : s2.2 = 0) (hbl : b.length = Pk.wide b0) (hu : 9223372036854775808 ≤ Pk.ofLe b) : Calls Tryd.prog 75 [.pointer (some ⟨r, 0, none⟩)].toArray w (Ret (ValP 101 r A c cur w (.int .i64 ((Pk.rInt s).1 : Int)) (Pk.rInt s).2)) := by
  refine k_enter (l := [_]) Tryd.func75 rfl rfl ?_
  have H := St.begin (f := RefR 101 r A c cur s) hR (fun g hg => by cases hg; exact refR_lt hR)
  refine k_seq ?_
  refine k_region ?_
  refine s_run (w_none rfl) rfl (as_i rfl rfl) ?_
  refine l_nil ?_
  refine k_seq ?_
  refine k_region ?_
  refine s_run (w_none rfl) rfl (mv_p rfl rfl) ?_
  refine s_eff (e_call (w_none rfl) rfl rfl Tryd.func103 rfl rfl rfl (refNextE _ h1 (by rfl) (by omega) (H.get (f := RefR 101 r A c cur s)) hok (H.bsT hB hS) hS hl) ?_)
  rintro _ W ⟨⟨A1, c1, rfl, hc1, hd1, ho1, hf1, hfr1⟩, hr1⟩
  replace H := H.mutnew (f := RefR 101 r A c cur s) (f' := RefR 101 r A c cur s1) (fn := Fact.row 5 1 (.slice A1 1 c1) 1 _) hfr1 hr1 (fun _ h => h) ho1 hf1
  clear hfr1 hr1 ho1 hf1
  refine s_run (w_none rfl) rfl (as_s rfl rfl) ?_
  refine l_nil ?_
  refine k_seq ?_
  refine k_seq ?_
  refine k_region ?_
  refine s_run (w_none rfl) rfl (mv_s rfl rfl) ?_
  refine s_run (w_none rfl) rfl (d_len rfl rfl tu23) ?_
  refine s_run (w_none rfl) rfl (d_eq rfl rfl rfl) ?_
  refine l_nil ?_
  refine k_condF rfl (by first | (simp; done) | (simp; omega)) ?_
  refine k_skip ?_
  refine k_seq ?_
  refine k_region ?_
  refine s_run (w_none rfl) rfl (as_i rfl rfl) ?_
  refine l_nil ?_
  refine k_seq ?_
  refine k_seq ?_
  refine k_region ?_
  refine s_run (w_none rfl) rfl (mv_s rfl rfl) ?_
  refine s_run (w_none rfl) rfl (d_iaB rfl (H.rowrd (A := A1)) rfl rfl (q := 0) rfl (by decide) tu23 ts5) ?_
  refine s_run (w_none rfl) rfl (d_ldB rfl (H.rowrd (A := A1)) ((rfl : [b0][0]? = some b0)) rfl ta5) ?_
  refine l_nil ?_
  refine k_bcut 16 [4] (fun sl W => sl = [(4, .int .i64 (Pk.wide b0 : Int))] ∧ St (· = r) w W [Fact.row 5 1 (.slice A1 1 c1) 1 ([b0].map u8v), RefR 101 r A c cur s1]) ?_ (fun sl ρv W hJ => ?_)
  · skip
    refine k_seq ?_
    refine k_region ?_
    refine s_run (w_none rfl) rfl (d_eq rfl rfl rfl) ?_
    refine s_run (w_none rfl) rfl (as_b rfl rfl) ?_
    refine l_nil ?_
    refine k_cond rfl (fun hc16 => ?_) (fun hc16 => ?_)
    · skip
      refine k_region ?_
      refine s_run (w_none rfl) rfl (as_i rfl rfl) ?_
      refine l_nil ?_
      refine k_nil ?_
      refine b_endc ?_
      refine ⟨_, _, rfl, ?_, ?_, ⟨rfl, H⟩⟩
      · repeat (first | (with_reducible exact Eqo.refl) | ((with_reducible refine Eqo.upd ?_ ?_); rotate_left; exact rfl))
      · refine ⟨?_, trivial⟩
        · exact vi (by rw [Pk.wide_253 hc16]; rfl)
    · skip
      refine k_seq ?_
      refine k_region ?_
      refine s_run (w_none rfl) rfl (d_eq rfl rfl rfl) ?_
      refine s_run (w_none rfl) rfl (as_b rfl rfl) ?_
      refine l_nil ?_
      refine k_cond rfl (fun hc18 => ?_) (fun hc18 => ?_)
      · skip
        refine k_region ?_
        refine s_run (w_none rfl) rfl (as_i rfl rfl) ?_
        refine l_nil ?_
        refine k_nil ?_
        refine b_endc ?_
        refine ⟨_, _, rfl, ?_, ?_, ⟨rfl, H⟩⟩
        · repeat (first | (with_reducible exact Eqo.refl) | ((with_reducible refine Eqo.upd ?_ ?_); rotate_left; exact rfl))
        · refine ⟨?_, trivial⟩
          · exact vi (by rw [Pk.wide_254 hc18]; rfl)
      · skip
        refine k_seq ?_
        refine k_region ?_
        refine s_run (w_none rfl) rfl (d_eq rfl rfl rfl) ?_
        refine s_run (w_none rfl) rfl (as_b rfl rfl) ?_
        refine l_nil ?_
        refine k_cond rfl (fun hc20 => ?_) (fun hc20 => ?_)
        · skip
          refine k_region ?_
          refine s_run (w_none rfl) rfl (as_i rfl rfl) ?_
          refine l_nil ?_
          refine k_nil ?_
          refine b_endc ?_
          refine ⟨_, _, rfl, ?_, ?_, ⟨rfl, H⟩⟩
          · repeat (first | (with_reducible exact Eqo.refl) | ((with_reducible refine Eqo.upd ?_ ?_); rotate_left; exact rfl))
          · refine ⟨?_, trivial⟩
            · exact vi (by rw [Pk.wide_255 hc20]; rfl)
        · skip
          refine k_skip ?_
          refine k_nil ?_
          refine b_endc ?_
          refine ⟨_, _, rfl, ?_, ?_, ⟨rfl, H⟩⟩
          · repeat (first | (with_reducible exact Eqo.refl) | ((with_reducible refine Eqo.upd ?_ ?_); rotate_left; exact rfl))
          · refine ⟨?_, trivial⟩
            · exact vi (by rw [Pk.wide_0 hc16 hc18 hc20]; rfl)
  clear H; obtain ⟨rfl, H⟩ := hJ
  refine k_seq ?_
  refine k_seq ?_
  refine k_region ?_
  refine s_run (w_none rfl) rfl (mv_i rfl rfl) ?_
  refine s_run (w_none rfl) rfl (d_eq rfl rfl rfl) ?_
  refine l_nil ?_
  refine k_condF rfl (by simp [hw]) ?_
  refine k_skip ?_
  refine k_seq ?_
  have hok1 := Pk.ok_next (n := 1) hok
  rw [h1] at hok1
  have hw8 : Pk.wide b0 ≤ 8 := by rcases Pk.wide_of (c := b0) with h | h | h | h <;> omega
  refine k_region ?_
  refine s_run (w_none rfl) rfl (mv_p rfl rfl) ?_
  refine s_run (w_none rfl) rfl (mv_i rfl rfl) ?_
  refine s_eff (e_call (w_none rfl) rfl rfl Tryd.func103 rfl rfl rfl (refNextE _ h2 (by rfl) (by omega) (H.get (f := RefR 101 r A c cur s1)) hok1 (H.bsT hB hS) hS hl) ?_)
  rintro _ W ⟨⟨A2, c2, rfl, hc2, hd2, ho2, hf2, hfr2⟩, hr2⟩
  replace H := H.mutnew (f := RefR 101 r A c cur s1) (f' := RefR 101 r A c cur s2) (fn := Fact.row 5 1 (.slice A2 b.length c2) b.length _) hfr2 hr2 (fun _ h => h) ho2 hf2
  clear hfr2 hr2 ho2 hf2
  refine s_run (w_none rfl) rfl (as_s rfl rfl) ?_
  refine l_nil ?_
  refine k_seq ?_
  refine k_region ?_
  refine s_run (w_none rfl) rfl (as_i rfl rfl) ?_
  refine l_nil ?_
  refine k_seq ?_
  refine k_seq ?_
  refine k_region ?_
  refine s_run (w_none rfl) rfl (mv_s rfl rfl) ?_
  refine s_run (w_none rfl) rfl (d_len rfl rfl tu23) ?_
  refine s_run (w_none rfl) rfl (d_sub rfl rfl rfl (by omega)) ?_
  refine s_run (w_none rfl) rfl (as_i rfl rfl) ?_
  refine l_nil ?_
  refine k_block ?_
  refine k_loop 34 [6, 7] (fun mm sl W => ∃ k : Nat, k = mm ∧ sl = [(7, .int .i64 ((k : Int) - 1)), (6, .int .u64 (Pk.ofLe (b.drop k) : Int))] ∧ (k ≤ b.length) ∧ St (· = r) w W [Fact.row 5 1 (.slice A2 b.length c2) b.length (b.map u8v), Fact.row 5 1 (.slice A1 1 c1) 1 ([b0].map u8v), RefR 101 r A c cur s2]) _ _ ⟨b.length, rfl, rfl, Nat.le_refl _, H⟩ ⟨rfl, vi (by rw [Pk.ofLe_nil (Nat.le_refl _)]; rfl), trivial⟩ (fun mm sl ρv W hJ => ?_)
  clear H; obtain ⟨k, rfl, rfl, hk, H⟩ := hJ
  refine k_one ?_
  refine k_seq ?_
  refine k_seq ?_
  refine k_region ?_
  refine s_run (w_none rfl) rfl (mv_i rfl rfl) ?_
  refine s_run (w_none rfl) rfl (d_ge rfl rfl rfl) ?_
  refine l_nil ?_
  refine k_cond rfl (fun hc35 => ?_) (fun hc35 => ?_)
  · first | (replace hc35 := of_decide_eq_true hc35) | simp at hc35
    refine k_skip ?_
    refine k_seq ?_
    refine k_block ?_
    have hst := Pk.ofLe_step (b := b) (k := k) (by omega) hk (by omega)
    refine k_region ?_
    refine s_run (w_none rfl) rfl (mv_i rfl rfl) ?_
    refine s_run (w_none rfl) rfl (d_mulW rfl rfl rfl hst.1) ?_
    refine s_run (w_none rfl) rfl (mv_s rfl rfl) ?_
    refine s_run (w_none rfl) rfl (mv_i rfl rfl) ?_
    refine s_run (w_none rfl) rfl (d_iaB rfl (H.rowrd (A := A2)) rfl rfl (q := k - 1) (by omega) (by omega) tu23 ts5) ?_
    refine s_run (w_none rfl) rfl (d_ldB rfl (H.rowrd (A := A2)) ((l_get (by omega))) rfl ta5) ?_
    refine s_run (w_none rfl) rfl (d_conv rfl rfl (by rw [tu5]; rfl) tu22 (IntWalk.u64_in _ (by have := (b.getD (k - 1) 0).toNat_lt; omega))) ?_
    refine s_run (w_none rfl) rfl (d_addW rfl rfl rfl hst.2) ?_
    refine s_run (w_none rfl) rfl (as_i rfl rfl) ?_
    refine l_nil ?_
    refine k_nil ?_
    refine b_end ?_
    refine k_region ?_
    refine s_run (w_none rfl) rfl (mv_i rfl rfl) ?_
    refine s_run (w_none rfl) rfl (d_sub rfl rfl rfl (by omega)) ?_
    refine s_run (w_none rfl) rfl (as_i rfl rfl) ?_
    refine l_nil ?_
    refine k_nil ?_
    refine k_next ?_
    refine ⟨_, _, _, ?_, rfl, ?_, ?_, ⟨k - 1, rfl, rfl, by omega, H⟩⟩
    · omega
    · repeat (first | ((with_reducible refine Eqo.updl _ Eqo.ovr ?_); exact rfl) | ((with_reducible refine Eqo.upd ?_ ?_); rotate_left; exact rfl))
    · refine ⟨?_, ?_, trivial⟩
      · exact vi (by omega)
      · exact rfl
  · first | (replace hc35 := of_decide_eq_false hc35) | simp at hc35
    refine k_exit ?_
    refine x_then (x_then ?_)
    refine x_hit ?_
    refine k_seq ?_
    refine k_seq ?_
    obtain rfl : k = 0 := by omega
    rw [List.drop_zero]
    obtain ⟨a, hbk, ha, hsa⟩ := H.get (f := RefR 101 r A c cur s2)
    replace H := H.turn (f := RefR 101 r A c cur s2) (f' := Fact.blk r [.slice A cur.length c, .int .i64 (a : Int), .int .i64 s2.2] 101) Fr.refl hbk (fun g h => .inl h)
    clear hbk
    refine k_region ?_
    refine s_run (w_none rfl) rfl (mv_p rfl rfl) ?_
    refine s_run (w_none rfl) rfl (d_nil rfl rfl) ?_
    refine s_run (w_none rfl) rfl (d_fa rfl rfl tf101_2) ?_
    refine s_run (w_none rfl) rfl (d_ld rfl H rfl ta30 rfl) ?_
    refine s_run (w_none rfl) rfl (d_eq rfl rfl rfl) ?_
    refine s_run (w_none rfl) rfl (mv_bx (c := true) rfl rfl (by simpa using he)) ?_
    refine s_run (w_g rfl rfl rfl rfl) rfl (mv_i rfl rfl) ?_
    refine s_run (w_g rfl rfl rfl rfl) rfl (d_ge rfl rfl rfl) ?_
    refine s_run (w_none rfl) rfl (d_pickT rfl rfl rfl) ?_
    refine l_nil ?_
    refine k_condT rfl (by first | (simp; done) | (simp; omega)) ?_
    refine k_region ?_
    refine s_run (w_none rfl) rfl (mv_p rfl rfl) ?_
    refine s_run (w_none rfl) rfl (d_nil rfl rfl) ?_
    refine s_run (w_none rfl) rfl (d_fa rfl rfl tf101_2) ?_
    refine s_eff (e_sto (w_none rfl) rfl rfl rfl rfl rfl ts30 rfl H rfl ?_)
    clear H; intro W H
    refine l_nil ?_
    refine k_seq ?_
    refine k_seq ?_
    refine k_region ?_
    refine s_run (w_none rfl) rfl (mv_p rfl rfl) ?_
    refine s_run (w_none rfl) rfl (d_nil rfl rfl) ?_
    refine s_run (w_none rfl) rfl (d_fa rfl rfl tf101_2) ?_
    refine s_run (w_none rfl) rfl (d_ld rfl H rfl ta30 rfl) ?_
    refine s_run (w_none rfl) rfl (d_eq rfl rfl rfl) ?_
    refine s_run (w_none rfl) rfl (mv_bx (c := false) rfl rfl (by decide)) ?_
    refine s_skip (w_gno rfl rfl rfl rfl rfl) rfl ?_
    refine s_skip (w_gno rfl rfl rfl rfl rfl) rfl ?_
    refine s_skip (w_gno rfl rfl rfl rfl rfl) rfl ?_
    refine s_skip (w_gno rfl rfl rfl rfl rfl) rfl ?_
    refine s_skip (w_gno rfl rfl rfl rfl rfl) rfl ?_
    refine s_skip (w_gno rfl rfl rfl rfl rfl) rfl ?_
    refine s_skip (w_gno rfl rfl rfl rfl rfl) rfl ?_
    refine s_run (w_none rfl) rfl (d_pickF rfl rfl rfl) ?_
    refine l_nil ?_
    refine k_condF rfl (by first | (simp; done) | (simp; omega)) ?_
    refine k_skip ?_
    refine k_seq ?_
    refine k_seq ?_
    refine k_region ?_
    refine s_run (w_none rfl) rfl (mv_p rfl rfl) ?_
    refine s_run (w_none rfl) rfl (d_nil rfl rfl) ?_
    refine s_run (w_none rfl) rfl (d_fa rfl rfl tf101_2) ?_
    refine s_run (w_none rfl) rfl (d_ld rfl H rfl ta30 rfl) ?_
    refine s_run (w_none rfl) rfl (d_ne rfl rfl rfl) ?_
    refine l_nil ?_
    refine k_condT rfl (by decide) ?_
    refine k_seq ?_
    refine k_region ?_
    refine s_run (w_none rfl) rfl (as_i rfl rfl) ?_
    refine l_nil ?_
    refine k_ret ?_
    repeat (first | refine r_then ?_ | refine r_blk ?_)
    have e : Pk.rInt s = (0, ([], 15)) := by unfold Pk.rInt; rw [h1]; simp only [hw, if_false, h2, he, ne_eq, not_true_eq_false]; unfold Pk.num; rw [if_pos hu]
    rw [e]
    exact q_ret (v := .int _ _) rfl rfl ⟨_, rfl, H.valP (s' := ([], 15)) rfl ha rfl rfl⟩

theorem refRdIntF {S : Nat → Prop} {r c : Nat} {A : Option Addr} {cur : List UInt8} {s : RS} (w : World) {s1 s2 : RS} {b0 : UInt8} {b : List UInt8} (hR : (RefR 101 r A c cur s).p w) (hok : Pk.Ok s) (hB : Bs w S (.slice A cur.length c) cur) (hS : ∀ g, S g → ¬ g = r) (hl : cur.length ≤ 1000000000000) (h1 : Pk.next 1 s = ([b0], s1)) (hw : Pk.wide b0 ≠ 0) (h2 : Pk.next (Pk.wide b0) s1 = (b, s2)) (he : s2.2 = 0) (hbl : b.length = Pk.wide b0) (hu : Pk.ofLe b < 9223372036854775808) (hf : Pk.ofLe b < Pk.least b0) : Calls Tryd.prog 75 [.pointer (some ⟨r, 0, none⟩)].toArray w (Ret (ValP 101 r A c cur w (.int .i64 ((Pk.rInt s).1 : Int)) (Pk.rInt s).2)) := by
  refine k_enter (l := [_]) Tryd.func75 rfl rfl ?_
  have H := St.begin (f := RefR 101 r A c cur s) hR (fun g hg => by cases hg; exact refR_lt hR)
  refine k_seq ?_
  refine k_region ?_
  refine s_run (w_none rfl) rfl (as_i rfl rfl) ?_
  refine l_nil ?_
  refine k_seq ?_
  refine k_region ?_
  refine s_run (w_none rfl) rfl (mv_p rfl rfl) ?_
  refine s_eff (e_call (w_none rfl) rfl rfl Tryd.func103 rfl rfl rfl (refNextE _ h1 (by rfl) (by omega) (H.get (f := RefR 101 r A c cur s)) hok (H.bsT hB hS) hS hl) ?_)
  rintro _ W ⟨⟨A1, c1, rfl, hc1, hd1, ho1, hf1, hfr1⟩, hr1⟩
  replace H := H.mutnew (f := RefR 101 r A c cur s) (f' := RefR 101 r A c cur s1) (fn := Fact.row 5 1 (.slice A1 1 c1) 1 _) hfr1 hr1 (fun _ h => h) ho1 hf1
  clear hfr1 hr1 ho1 hf1
  refine s_run (w_none rfl) rfl (as_s rfl rfl) ?_
  refine l_nil ?_
  refine k_seq ?_
  refine k_seq ?_
  refine k_region ?_
  refine s_run (w_none rfl) rfl (mv_s rfl rfl) ?_
  refine s_run (w_none rfl) rfl (d_len rfl rfl tu23) ?_
  refine s_run (w_none rfl) rfl (d_eq rfl rfl rfl) ?_
  refine l_nil ?_
  refine k_condF rfl (by first | (simp; done) | (simp; omega)) ?_
  refine k_skip ?_
  refine k_seq ?_
  refine k_region ?_
  refine s_run (w_none rfl) rfl (as_i rfl rfl) ?_
  refine l_nil ?_
  refine k_seq ?_
  refine k_seq ?_
  refine k_region ?_
  refine s_run (w_none rfl) rfl (mv_s rfl rfl) ?_
  refine s_run (w_none rfl) rfl (d_iaB rfl (H.rowrd (A := A1)) rfl rfl (q := 0) rfl (by decide) tu23 ts5) ?_
  refine s_run (w_none rfl) rfl (d_ldB rfl (H.rowrd (A := A1)) ((rfl : [b0][0]? = some b0)) rfl ta5) ?_
  refine l_nil ?_
  refine k_bcut 16 [4] (fun sl W => sl = [(4, .int .i64 (Pk.wide b0 : Int))] ∧ St (· = r) w W [Fact.row 5 1 (.slice A1 1 c1) 1 ([b0].map u8v), RefR 101 r A c cur s1]) ?_ (fun sl ρv W hJ => ?_)
  · skip
    refine k_seq ?_
    refine k_region ?_
    refine s_run (w_none rfl) rfl (d_eq rfl rfl rfl) ?_
    refine s_run (w_none rfl) rfl (as_b rfl rfl) ?_
    refine l_nil ?_
    refine k_cond rfl (fun hc16 => ?_) (fun hc16 => ?_)
    · skip
      refine k_region ?_
      refine s_run (w_none rfl) rfl (as_i rfl rfl) ?_
      refine l_nil ?_
      refine k_nil ?_
      refine b_endc ?_
      refine ⟨_, _, rfl, ?_, ?_, ⟨rfl, H⟩⟩
      · repeat (first | (with_reducible exact Eqo.refl) | ((with_reducible refine Eqo.upd ?_ ?_); rotate_left; exact rfl))
      · refine ⟨?_, trivial⟩
        · exact vi (by rw [Pk.wide_253 hc16]; rfl)
    · skip
      refine k_seq ?_
      refine k_region ?_
      refine s_run (w_none rfl) rfl (d_eq rfl rfl rfl) ?_
      refine s_run (w_none rfl) rfl (as_b rfl rfl) ?_
      refine l_nil ?_
      refine k_cond rfl (fun hc18 => ?_) (fun hc18 => ?_)
      · skip
        refine k_region ?_
        refine s_run (w_none rfl) rfl (as_i rfl rfl) ?_
        refine l_nil ?_
        refine k_nil ?_
        refine b_endc ?_
        refine ⟨_, _, rfl, ?_, ?_, ⟨rfl, H⟩⟩
        · repeat (first | (with_reducible exact Eqo.refl) | ((with_reducible refine Eqo.upd ?_ ?_); rotate_left; exact rfl))
        · refine ⟨?_, trivial⟩
          · exact vi (by rw [Pk.wide_254 hc18]; rfl)
      · skip
        refine k_seq ?_
        refine k_region ?_
        refine s_run (w_none rfl) rfl (d_eq rfl rfl rfl) ?_
        refine s_run (w_none rfl) rfl (as_b rfl rfl) ?_
        refine l_nil ?_
        refine k_cond rfl (fun hc20 => ?_) (fun hc20 => ?_)
        · skip
          refine k_region ?_
          refine s_run (w_none rfl) rfl (as_i rfl rfl) ?_
          refine l_nil ?_
          refine k_nil ?_
          refine b_endc ?_
          refine ⟨_, _, rfl, ?_, ?_, ⟨rfl, H⟩⟩
          · repeat (first | (with_reducible exact Eqo.refl) | ((with_reducible refine Eqo.upd ?_ ?_); rotate_left; exact rfl))
          · refine ⟨?_, trivial⟩
            · exact vi (by rw [Pk.wide_255 hc20]; rfl)
        · skip
          refine k_skip ?_
          refine k_nil ?_
          refine b_endc ?_
          refine ⟨_, _, rfl, ?_, ?_, ⟨rfl, H⟩⟩
          · repeat (first | (with_reducible exact Eqo.refl) | ((with_reducible refine Eqo.upd ?_ ?_); rotate_left; exact rfl))
          · refine ⟨?_, trivial⟩
            · exact vi (by rw [Pk.wide_0 hc16 hc18 hc20]; rfl)
  clear H; obtain ⟨rfl, H⟩ := hJ
  refine k_seq ?_
  refine k_seq ?_
  refine k_region ?_
  refine s_run (w_none rfl) rfl (mv_i rfl rfl) ?_
  refine s_run (w_none rfl) rfl (d_eq rfl rfl rfl) ?_
  refine l_nil ?_
  refine k_condF rfl (by simp [hw]) ?_
  refine k_skip ?_
  refine k_seq ?_
  have hok1 := Pk.ok_next (n := 1) hok
  rw [h1] at hok1
  have hw8 : Pk.wide b0 ≤ 8 := by rcases Pk.wide_of (c := b0) with h | h | h | h <;> omega
  refine k_region ?_
  refine s_run (w_none rfl) rfl (mv_p rfl rfl) ?_
  refine s_run (w_none rfl) rfl (mv_i rfl rfl) ?_
  refine s_eff (e_call (w_none rfl) rfl rfl Tryd.func103 rfl rfl rfl (refNextE _ h2 (by rfl) (by omega) (H.get (f := RefR 101 r A c cur s1)) hok1 (H.bsT hB hS) hS hl) ?_)
  rintro _ W ⟨⟨A2, c2, rfl, hc2, hd2, ho2, hf2, hfr2⟩, hr2⟩
  replace H := H.mutnew (f := RefR 101 r A c cur s1) (f' := RefR 101 r A c cur s2) (fn := Fact.row 5 1 (.slice A2 b.length c2) b.length _) hfr2 hr2 (fun _ h => h) ho2 hf2
  clear hfr2 hr2 ho2 hf2
  refine s_run (w_none rfl) rfl (as_s rfl rfl) ?_
  refine l_nil ?_
  refine k_seq ?_
  refine k_region ?_
  refine s_run (w_none rfl) rfl (as_i rfl rfl) ?_
  refine l_nil ?_
  refine k_seq ?_
  refine k_seq ?_
  refine k_region ?_
  refine s_run (w_none rfl) rfl (mv_s rfl rfl) ?_
  refine s_run (w_none rfl) rfl (d_len rfl rfl tu23) ?_
  refine s_run (w_none rfl) rfl (d_sub rfl rfl rfl (by omega)) ?_
  refine s_run (w_none rfl) rfl (as_i rfl rfl) ?_
  refine l_nil ?_
  refine k_block ?_
  refine k_loop 34 [6, 7] (fun mm sl W => ∃ k : Nat, k = mm ∧ sl = [(7, .int .i64 ((k : Int) - 1)), (6, .int .u64 (Pk.ofLe (b.drop k) : Int))] ∧ (k ≤ b.length) ∧ St (· = r) w W [Fact.row 5 1 (.slice A2 b.length c2) b.length (b.map u8v), Fact.row 5 1 (.slice A1 1 c1) 1 ([b0].map u8v), RefR 101 r A c cur s2]) _ _ ⟨b.length, rfl, rfl, Nat.le_refl _, H⟩ ⟨rfl, vi (by rw [Pk.ofLe_nil (Nat.le_refl _)]; rfl), trivial⟩ (fun mm sl ρv W hJ => ?_)
  clear H; obtain ⟨k, rfl, rfl, hk, H⟩ := hJ
  refine k_one ?_
  refine k_seq ?_
  refine k_seq ?_
  refine k_region ?_
  refine s_run (w_none rfl) rfl (mv_i rfl rfl) ?_
  refine s_run (w_none rfl) rfl (d_ge rfl rfl rfl) ?_
  refine l_nil ?_
  refine k_cond rfl (fun hc35 => ?_) (fun hc35 => ?_)
  · first | (replace hc35 := of_decide_eq_true hc35) | simp at hc35
    refine k_skip ?_
    refine k_seq ?_
    refine k_block ?_
    have hst := Pk.ofLe_step (b := b) (k := k) (by omega) hk (by omega)
    refine k_region ?_
    refine s_run (w_none rfl) rfl (mv_i rfl rfl) ?_
    refine s_run (w_none rfl) rfl (d_mulW rfl rfl rfl hst.1) ?_
    refine s_run (w_none rfl) rfl (mv_s rfl rfl) ?_
    refine s_run (w_none rfl) rfl (mv_i rfl rfl) ?_
    refine s_run (w_none rfl) rfl (d_iaB rfl (H.rowrd (A := A2)) rfl rfl (q := k - 1) (by omega) (by omega) tu23 ts5) ?_
    refine s_run (w_none rfl) rfl (d_ldB rfl (H.rowrd (A := A2)) ((l_get (by omega))) rfl ta5) ?_
    refine s_run (w_none rfl) rfl (d_conv rfl rfl (by rw [tu5]; rfl) tu22 (IntWalk.u64_in _ (by have := (b.getD (k - 1) 0).toNat_lt; omega))) ?_
    refine s_run (w_none rfl) rfl (d_addW rfl rfl rfl hst.2) ?_
    refine s_run (w_none rfl) rfl (as_i rfl rfl) ?_
    refine l_nil ?_
    refine k_nil ?_
    refine b_end ?_
    refine k_region ?_
    refine s_run (w_none rfl) rfl (mv_i rfl rfl) ?_
    refine s_run (w_none rfl) rfl (d_sub rfl rfl rfl (by omega)) ?_
    refine s_run (w_none rfl) rfl (as_i rfl rfl) ?_
    refine l_nil ?_
    refine k_nil ?_
    refine k_next ?_
    refine ⟨_, _, _, ?_, rfl, ?_, ?_, ⟨k - 1, rfl, rfl, by omega, H⟩⟩
    · omega
    · repeat (first | ((with_reducible refine Eqo.updl _ Eqo.ovr ?_); exact rfl) | ((with_reducible refine Eqo.upd ?_ ?_); rotate_left; exact rfl))
    · refine ⟨?_, ?_, trivial⟩
      · exact vi (by omega)
      · exact rfl
  · first | (replace hc35 := of_decide_eq_false hc35) | simp at hc35
    refine k_exit ?_
    refine x_then (x_then ?_)
    refine x_hit ?_
    refine k_seq ?_
    refine k_seq ?_
    obtain rfl : k = 0 := by omega
    rw [List.drop_zero]
    obtain ⟨a, hbk, ha, hsa⟩ := H.get (f := RefR 101 r A c cur s2)
    replace H := H.turn (f := RefR 101 r A c cur s2) (f' := Fact.blk r [.slice A cur.length c, .int .i64 (a : Int), .int .i64 s2.2] 101) Fr.refl hbk (fun g h => .inl h)
    clear hbk
    refine k_region ?_
    refine s_run (w_none rfl) rfl (mv_p rfl rfl) ?_
    refine s_run (w_none rfl) rfl (d_nil rfl rfl) ?_
    refine s_run (w_none rfl) rfl (d_fa rfl rfl tf101_2) ?_
    refine s_run (w_none rfl) rfl (d_ld rfl H rfl ta30 rfl) ?_
    refine s_run (w_none rfl) rfl (d_eq rfl rfl rfl) ?_
    refine s_run (w_none rfl) rfl (mv_bx (c := true) rfl rfl (by simpa using he)) ?_
    refine s_run (w_g rfl rfl rfl rfl) rfl (mv_i rfl rfl) ?_
    refine s_run (w_g rfl rfl rfl rfl) rfl (d_ge rfl rfl rfl) ?_
    refine s_run (w_none rfl) rfl (d_pickT rfl rfl rfl) ?_
    refine l_nil ?_
    refine k_condF rfl (by simp; omega) ?_
    refine k_skip ?_
    refine k_seq ?_
    refine k_seq ?_
    refine k_region ?_
    refine s_run (w_none rfl) rfl (mv_p rfl rfl) ?_
    refine s_run (w_none rfl) rfl (d_nil rfl rfl) ?_
    refine s_run (w_none rfl) rfl (d_fa rfl rfl tf101_2) ?_
    refine s_run (w_none rfl) rfl (d_ld rfl H rfl ta30 rfl) ?_
    refine s_run (w_none rfl) rfl (d_eq rfl rfl rfl) ?_
    refine s_run (w_none rfl) rfl (mv_bx (c := true) rfl rfl (by simpa using he)) ?_
    refine s_run (w_g rfl rfl rfl rfl) rfl (mv_i rfl rfl) ?_
    refine s_run (w_g rfl rfl rfl rfl) rfl (d_conv rfl rfl (by rw [tu22]; rfl) tu3 (IntWalk.i64_in _ (by omega))) ?_
    refine s_eff (e_call (w_g rfl rfl rfl rfl) rfl rfl Tryd.func28 rfl rfl rfl (refInt _ _ (Bs.nil (S := fun _ => True)) (by omega) (by simp)) ?_)
    rintro _ W ⟨A4, c4, rfl, hc4, hd4, hn⟩
    replace H := H.new hn
    clear hn
    have hlen : ([] ++ Pk.int (Pk.toU (Pk.ofLe b : Int))) = Pk.int (Pk.ofLe b) := by rw [Pk.toU_pos _ (by omega) (by omega), Int.toNat_natCast]; rfl
    have hform : (([] ++ Pk.int (Pk.toU (Pk.ofLe b : Int))).length : Int) ≠ 1 + (Pk.wide b0 : Int) ↔ Pk.ofLe b < Pk.least b0 := by
      rw [hlen, ← Pk.int_len hw (by rw [← hbl]; exact Pk.ofLe_lt b)]; omega
    refine s_run (w_g rfl rfl rfl rfl) rfl (d_len rfl rfl tu23) ?_
    refine s_run (w_g rfl rfl rfl rfl) rfl (mv_i rfl rfl) ?_
    refine s_run (w_g rfl rfl rfl rfl) rfl (d_add rfl rfl rfl (by omega)) ?_
    refine s_run (w_g rfl rfl rfl rfl) rfl (d_ne rfl rfl rfl) ?_
    refine s_run (w_none rfl) rfl (d_pickT rfl rfl rfl) ?_
    refine l_nil ?_
    refine k_condT rfl (by simp only [bne_iff_ne]; exact hform.2 hf) ?_
    refine k_region ?_
    refine s_run (w_none rfl) rfl (mv_p rfl rfl) ?_
    refine s_run (w_none rfl) rfl (d_nil rfl rfl) ?_
    refine s_run (w_none rfl) rfl (d_fa rfl rfl tf101_2) ?_
    refine s_eff (e_sto (w_none rfl) rfl rfl rfl rfl rfl ts30 rfl H rfl ?_)
    clear H; intro W H
    refine l_nil ?_
    refine k_seq ?_
    refine k_seq ?_
    refine k_region ?_
    refine s_run (w_none rfl) rfl (mv_p rfl rfl) ?_
    refine s_run (w_none rfl) rfl (d_nil rfl rfl) ?_
    refine s_run (w_none rfl) rfl (d_fa rfl rfl tf101_2) ?_
    refine s_run (w_none rfl) rfl (d_ld rfl H rfl ta30 rfl) ?_
    refine s_run (w_none rfl) rfl (d_ne rfl rfl rfl) ?_
    refine l_nil ?_
    refine k_condT rfl (by decide) ?_
    refine k_seq ?_
    refine k_region ?_
    refine s_run (w_none rfl) rfl (as_i rfl rfl) ?_
    refine l_nil ?_
    refine k_ret ?_
    repeat (first | refine r_then ?_ | refine r_blk ?_)
    have e : Pk.rInt s = (0, ([], 10)) := by unfold Pk.rInt; rw [h1]; simp only [hw, if_false, h2, he, ne_eq, not_true_eq_false]; unfold Pk.num; rw [if_neg (by omega), if_pos hf]
    rw [e]
    exact q_ret (v := .int _ _) rfl rfl ⟨_, rfl, H.valP (s' := ([], 10)) rfl ha rfl rfl⟩

theorem refRdIntG {S : Nat → Prop} {r c : Nat} {A : Option Addr} {cur : List UInt8} {s : RS} (w : World) {s1 s2 : RS} {b0 : UInt8} {b : List UInt8} (hR : (RefR 101 r A c cur s).p w) (hok : Pk.Ok s) (hB : Bs w S (.slice A cur.length c) cur) (hS : ∀ g, S g → ¬ g = r) (hl : cur.length ≤ 1000000000000) (h1 : Pk.next 1 s = ([b0], s1)) (hw : Pk.wide b0 ≠ 0) (h2 : Pk.next (Pk.wide b0) s1 = (b, s2)) (he : s2.2 = 0) (hbl : b.length = Pk.wide b0) (hu : Pk.ofLe b < 9223372036854775808) (hf : ¬ Pk.ofLe b < Pk.least b0) : Calls Tryd.prog 75 [.pointer (some ⟨r, 0, none⟩)].toArray w (Ret (ValP 101 r A c cur w (.int .i64 ((Pk.rInt s).1 : Int)) (Pk.rInt s).2)) := by
  refine k_enter (l := [_]) Tryd.func75 rfl rfl ?_
  have H := St.begin (f := RefR 101 r A c cur s) hR (fun g hg => by cases hg; exact refR_lt hR)
  refine k_seq ?_
  refine k_region ?_
  refine s_run (w_none rfl) rfl (as_i rfl rfl) ?_
  refine l_nil ?_
  refine k_seq ?_
  refine k_region ?_
  refine s_run (w_none rfl) rfl (mv_p rfl rfl) ?_
  refine s_eff (e_call (w_none rfl) rfl rfl Tryd.func103 rfl rfl rfl (refNextE _ h1 (by rfl) (by omega) (H.get (f := RefR 101 r A c cur s)) hok (H.bsT hB hS) hS hl) ?_)
  rintro _ W ⟨⟨A1, c1, rfl, hc1, hd1, ho1, hf1, hfr1⟩, hr1⟩
  replace H := H.mutnew (f := RefR 101 r A c cur s) (f' := RefR 101 r A c cur s1) (fn := Fact.row 5 1 (.slice A1 1 c1) 1 _) hfr1 hr1 (fun _ h => h) ho1 hf1
  clear hfr1 hr1 ho1 hf1
  refine s_run (w_none rfl) rfl (as_s rfl rfl) ?_
  refine l_nil ?_
  refine k_seq ?_
  refine k_seq ?_
  refine k_region ?_
  refine s_run (w_none rfl) rfl (mv_s rfl rfl) ?_
  refine s_run (w_none rfl) rfl (d_len rfl rfl tu23) ?_
  refine s_run (w_none rfl) rfl (d_eq rfl rfl rfl) ?_
  refine l_nil ?_
  refine k_condF rfl (by first | (simp; done) | (simp; omega)) ?_
  refine k_skip ?_
  refine k_seq ?_
  refine k_region ?_
  refine s_run (w_none rfl) rfl (as_i rfl rfl) ?_
  refine l_nil ?_
  refine k_seq ?_
  refine k_seq ?_
  refine k_region ?_
  refine s_run (w_none rfl) rfl (mv_s rfl rfl) ?_
  refine s_run (w_none rfl) rfl (d_iaB rfl (H.rowrd (A := A1)) rfl rfl (q := 0) rfl (by decide) tu23 ts5) ?_
  refine s_run (w_none rfl) rfl (d_ldB rfl (H.rowrd (A := A1)) ((rfl : [b0][0]? = some b0)) rfl ta5) ?_
  refine l_nil ?_
  refine k_bcut 16 [4] (fun sl W => sl = [(4, .int .i64 (Pk.wide b0 : Int))] ∧ St (· = r) w W [Fact.row 5 1 (.slice A1 1 c1) 1 ([b0].map u8v), RefR 101 r A c cur s1]) ?_ (fun sl ρv W hJ => ?_)
  · skip
    refine k_seq ?_
    refine k_region ?_
    refine s_run (w_none rfl) rfl (d_eq rfl rfl rfl) ?_
    refine s_run (w_none rfl) rfl (as_b rfl rfl) ?_
    refine l_nil ?_
    refine k_cond rfl (fun hc16 => ?_) (fun hc16 => ?_)
    · skip
      refine k_region ?_
      refine s_run (w_none rfl) rfl (as_i rfl rfl) ?_
      refine l_nil ?_
      refine k_nil ?_
      refine b_endc ?_
      refine ⟨_, _, rfl, ?_, ?_, ⟨rfl, H⟩⟩
      · repeat (first | (with_reducible exact Eqo.refl) | ((with_reducible refine Eqo.upd ?_ ?_); rotate_left; exact rfl))
      · refine ⟨?_, trivial⟩
        · exact vi (by rw [Pk.wide_253 hc16]; rfl)
    · skip
      refine k_seq ?_
      refine k_region ?_
      refine s_run (w_none rfl) rfl (d_eq rfl rfl rfl) ?_
      refine s_run (w_none rfl) rfl (as_b rfl rfl) ?_
      refine l_nil ?_
      refine k_cond rfl (fun hc18 => ?_) (fun hc18 => ?_)
      · skip
        refine k_region ?_
        refine s_run (w_none rfl) rfl (as_i rfl rfl) ?_
        refine l_nil ?_
        refine k_nil ?_
        refine b_endc ?_
        refine ⟨_, _, rfl, ?_, ?_, ⟨rfl, H⟩⟩
        · repeat (first | (with_reducible exact Eqo.refl) | ((with_reducible refine Eqo.upd ?_ ?_); rotate_left; exact rfl))
        · refine ⟨?_, trivial⟩
          · exact vi (by rw [Pk.wide_254 hc18]; rfl)
      · skip
        refine k_seq ?_
        refine k_region ?_
        refine s_run (w_none rfl) rfl (d_eq rfl rfl rfl) ?_
        refine s_run (w_none rfl) rfl (as_b rfl rfl) ?_
        refine l_nil ?_
        refine k_cond rfl (fun hc20 => ?_) (fun hc20 => ?_)
        · skip
          refine k_region ?_
          refine s_run (w_none rfl) rfl (as_i rfl rfl) ?_
          refine l_nil ?_
          refine k_nil ?_
          refine b_endc ?_
          refine ⟨_, _, rfl, ?_, ?_, ⟨rfl, H⟩⟩
          · repeat (first | (with_reducible exact Eqo.refl) | ((with_reducible refine Eqo.upd ?_ ?_); rotate_left; exact rfl))
          · refine ⟨?_, trivial⟩
            · exact vi (by rw [Pk.wide_255 hc20]; rfl)
        · skip
          refine k_skip ?_
          refine k_nil ?_
          refine b_endc ?_
          refine ⟨_, _, rfl, ?_, ?_, ⟨rfl, H⟩⟩
          · repeat (first | (with_reducible exact Eqo.refl) | ((with_reducible refine Eqo.upd ?_ ?_); rotate_left; exact rfl))
          · refine ⟨?_, trivial⟩
            · exact vi (by rw [Pk.wide_0 hc16 hc18 hc20]; rfl)
  clear H; obtain ⟨rfl, H⟩ := hJ
  refine k_seq ?_
  refine k_seq ?_
  refine k_region ?_
  refine s_run (w_none rfl) rfl (mv_i rfl rfl) ?_
  refine s_run (w_none rfl) rfl (d_eq rfl rfl rfl) ?_
  refine l_nil ?_
  refine k_condF rfl (by simp [hw]) ?_
  refine k_skip ?_
  refine k_seq ?_
  have hok1 := Pk.ok_next (n := 1) hok
  rw [h1] at hok1
  have hw8 : Pk.wide b0 ≤ 8 := by rcases Pk.wide_of (c := b0) with h | h | h | h <;> omega
  refine k_region ?_
  refine s_run (w_none rfl) rfl (mv_p rfl rfl) ?_
  refine s_run (w_none rfl) rfl (mv_i rfl rfl) ?_
  refine s_eff (e_call (w_none rfl) rfl rfl Tryd.func103 rfl rfl rfl (refNextE _ h2 (by rfl) (by omega) (H.get (f := RefR 101 r A c cur s1)) hok1 (H.bsT hB hS) hS hl) ?_)
  rintro _ W ⟨⟨A2, c2, rfl, hc2, hd2, ho2, hf2, hfr2⟩, hr2⟩
  replace H := H.mutnew (f := RefR 101 r A c cur s1) (f' := RefR 101 r A c cur s2) (fn := Fact.row 5 1 (.slice A2 b.length c2) b.length _) hfr2 hr2 (fun _ h => h) ho2 hf2
  clear hfr2 hr2 ho2 hf2
  refine s_run (w_none rfl) rfl (as_s rfl rfl) ?_
  refine l_nil ?_
  refine k_seq ?_
  refine k_region ?_
  refine s_run (w_none rfl) rfl (as_i rfl rfl) ?_
  refine l_nil ?_
  refine k_seq ?_
  refine k_seq ?_
  refine k_region ?_
  refine s_run (w_none rfl) rfl (mv_s rfl rfl) ?_
  refine s_run (w_none rfl) rfl (d_len rfl rfl tu23) ?_
  refine s_run (w_none rfl) rfl (d_sub rfl rfl rfl (by omega)) ?_
  refine s_run (w_none rfl) rfl (as_i rfl rfl) ?_
  refine l_nil ?_
  refine k_block ?_
  refine k_loop 34 [6, 7] (fun mm sl W => ∃ k : Nat, k = mm ∧ sl = [(7, .int .i64 ((k : Int) - 1)), (6, .int .u64 (Pk.ofLe (b.drop k) : Int))] ∧ (k ≤ b.length) ∧ St (· = r) w W [Fact.row 5 1 (.slice A2 b.length c2) b.length (b.map u8v), Fact.row 5 1 (.slice A1 1 c1) 1 ([b0].map u8v), RefR 101 r A c cur s2]) _ _ ⟨b.length, rfl, rfl, Nat.le_refl _, H⟩ ⟨rfl, vi (by rw [Pk.ofLe_nil (Nat.le_refl _)]; rfl), trivial⟩ (fun mm sl ρv W hJ => ?_)
  clear H; obtain ⟨k, rfl, rfl, hk, H⟩ := hJ
  refine k_one ?_
  refine k_seq ?_
  refine k_seq ?_
  refine k_region ?_
  refine s_run (w_none rfl) rfl (mv_i rfl rfl) ?_
  refine s_run (w_none rfl) rfl (d_ge rfl rfl rfl) ?_
  refine l_nil ?_
  refine k_cond rfl (fun hc35 => ?_) (fun hc35 => ?_)
  · first | (replace hc35 := of_decide_eq_true hc35) | simp at hc35
    refine k_skip ?_
    refine k_seq ?_
    refine k_block ?_
    have hst := Pk.ofLe_step (b := b) (k := k) (by omega) hk (by omega)
    refine k_region ?_
    refine s_run (w_none rfl) rfl (mv_i rfl rfl) ?_
    refine s_run (w_none rfl) rfl (d_mulW rfl rfl rfl hst.1) ?_
    refine s_run (w_none rfl) rfl (mv_s rfl rfl) ?_
    refine s_run (w_none rfl) rfl (mv_i rfl rfl) ?_
    refine s_run (w_none rfl) rfl (d_iaB rfl (H.rowrd (A := A2)) rfl rfl (q := k - 1) (by omega) (by omega) tu23 ts5) ?_
    refine s_run (w_none rfl) rfl (d_ldB rfl (H.rowrd (A := A2)) ((l_get (by omega))) rfl ta5) ?_
    refine s_run (w_none rfl) rfl (d_conv rfl rfl (by rw [tu5]; rfl) tu22 (IntWalk.u64_in _ (by have := (b.getD (k - 1) 0).toNat_lt; omega))) ?_
    refine s_run (w_none rfl) rfl (d_addW rfl rfl rfl hst.2) ?_
    refine s_run (w_none rfl) rfl (as_i rfl rfl) ?_
    refine l_nil ?_
    refine k_nil ?_
    refine b_end ?_
    refine k_region ?_
    refine s_run (w_none rfl) rfl (mv_i rfl rfl) ?_
    refine s_run (w_none rfl) rfl (d_sub rfl rfl rfl (by omega)) ?_
    refine s_run (w_none rfl) rfl (as_i rfl rfl) ?_
    refine l_nil ?_
    refine k_nil ?_
    refine k_next ?_
    refine ⟨_, _, _, ?_, rfl, ?_, ?_, ⟨k - 1, rfl, rfl, by omega, H⟩⟩
    · omega
    · repeat (first | ((with_reducible refine Eqo.updl _ Eqo.ovr ?_); exact rfl) | ((with_reducible refine Eqo.upd ?_ ?_); rotate_left; exact rfl))
    · refine ⟨?_, ?_, trivial⟩
      · exact vi (by omega)
      · exact rfl
  · first | (replace hc35 := of_decide_eq_false hc35) | simp at hc35
    refine k_exit ?_
    refine x_then (x_then ?_)
    refine x_hit ?_
    refine k_seq ?_
    refine k_seq ?_
    obtain rfl : k = 0 := by omega
    rw [List.drop_zero]
    obtain ⟨a, hbk, ha, hsa⟩ := H.get (f := RefR 101 r A c cur s2)
    replace H := H.turn (f := RefR 101 r A c cur s2) (f' := Fact.blk r [.slice A cur.length c, .int .i64 (a : Int), .int .i64 s2.2] 101) Fr.refl hbk (fun g h => .inl h)
    clear hbk
    refine k_region ?_
    refine s_run (w_none rfl) rfl (mv_p rfl rfl) ?_
    refine s_run (w_none rfl) rfl (d_nil rfl rfl) ?_
    refine s_run (w_none rfl) rfl (d_fa rfl rfl tf101_2) ?_
    refine s_run (w_none rfl) rfl (d_ld rfl H rfl ta30 rfl) ?_
    refine s_run (w_none rfl) rfl (d_eq rfl rfl rfl) ?_
    refine s_run (w_none rfl) rfl (mv_bx (c := true) rfl rfl (by simpa using he)) ?_
    refine s_run (w_g rfl rfl rfl rfl) rfl (mv_i rfl rfl) ?_
    refine s_run (w_g rfl rfl rfl rfl) rfl (d_ge rfl rfl rfl) ?_
    refine s_run (w_none rfl) rfl (d_pickT rfl rfl rfl) ?_
    refine l_nil ?_
    refine k_condF rfl (by simp; omega) ?_
    refine k_skip ?_
    refine k_seq ?_
    refine k_seq ?_
    refine k_region ?_
    refine s_run (w_none rfl) rfl (mv_p rfl rfl) ?_
    refine s_run (w_none rfl) rfl (d_nil rfl rfl) ?_
    refine s_run (w_none rfl) rfl (d_fa rfl rfl tf101_2) ?_
    refine s_run (w_none rfl) rfl (d_ld rfl H rfl ta30 rfl) ?_
    refine s_run (w_none rfl) rfl (d_eq rfl rfl rfl) ?_
    refine s_run (w_none rfl) rfl (mv_bx (c := true) rfl rfl (by simpa using he)) ?_
    refine s_run (w_g rfl rfl rfl rfl) rfl (mv_i rfl rfl) ?_
    refine s_run (w_g rfl rfl rfl rfl) rfl (d_conv rfl rfl (by rw [tu22]; rfl) tu3 (IntWalk.i64_in _ (by omega))) ?_
    refine s_eff (e_call (w_g rfl rfl rfl rfl) rfl rfl Tryd.func28 rfl rfl rfl (refInt _ _ (Bs.nil (S := fun _ => True)) (by omega) (by simp)) ?_)
    rintro _ W ⟨A4, c4, rfl, hc4, hd4, hn⟩
    replace H := H.new hn
    clear hn
    have hlen : ([] ++ Pk.int (Pk.toU (Pk.ofLe b : Int))) = Pk.int (Pk.ofLe b) := by rw [Pk.toU_pos _ (by omega) (by omega), Int.toNat_natCast]; rfl
    have hform : (([] ++ Pk.int (Pk.toU (Pk.ofLe b : Int))).length : Int) ≠ 1 + (Pk.wide b0 : Int) ↔ Pk.ofLe b < Pk.least b0 := by
      rw [hlen, ← Pk.int_len hw (by rw [← hbl]; exact Pk.ofLe_lt b)]; omega
    refine s_run (w_g rfl rfl rfl rfl) rfl (d_len rfl rfl tu23) ?_
    refine s_run (w_g rfl rfl rfl rfl) rfl (mv_i rfl rfl) ?_
    refine s_run (w_g rfl rfl rfl rfl) rfl (d_add rfl rfl rfl (by omega)) ?_
    refine s_run (w_g rfl rfl rfl rfl) rfl (d_ne rfl rfl rfl) ?_
    refine s_run (w_none rfl) rfl (d_pickT rfl rfl rfl) ?_
    refine l_nil ?_
    refine k_condF rfl (by simp only [bne_eq_false_iff_eq]; exact Classical.not_not.1 (fun h => hf (hform.1 h))) ?_
    refine k_skip ?_
    refine k_seq ?_
    refine k_seq ?_
    refine k_region ?_
    refine s_run (w_none rfl) rfl (mv_p rfl rfl) ?_
    refine s_run (w_none rfl) rfl (d_nil rfl rfl) ?_
    refine s_run (w_none rfl) rfl (d_fa rfl rfl tf101_2) ?_
    refine s_run (w_none rfl) rfl (d_ld rfl H rfl ta30 rfl) ?_
    refine s_run (w_none rfl) rfl (d_ne rfl rfl rfl) ?_
    refine l_nil ?_
    refine k_condF rfl (by simpa using he) ?_
    refine k_skip ?_
    refine k_seq ?_
    refine k_region ?_
    refine s_run (w_none rfl) rfl (mv_i rfl rfl) ?_
    refine s_run (w_none rfl) rfl (d_conv rfl rfl (by rw [tu22]; rfl) tu3 (IntWalk.i64_in _ (by omega))) ?_
    refine s_run (w_none rfl) rfl (as_i rfl rfl) ?_
    refine l_nil ?_
    refine k_ret ?_
    repeat (first | refine r_then ?_ | refine r_blk ?_)
    have e : Pk.rInt s = (Pk.ofLe b, s2) := by unfold Pk.rInt; rw [h1]; simp only [hw, if_false, h2, he, ne_eq, not_true_eq_false]; unfold Pk.num; rw [if_neg (by omega), if_neg hf]
    rw [e]
    exact q_ret (v := .int _ _) rfl rfl ⟨_, rfl, H.valP (s' := s2) rfl ha rfl hsa⟩

theorem Pk.next_eq {n : Nat} {s s' : RS} {b : List UInt8} (h : Pk.next n s = (b, s')) : (s'.2 = 0 → b.length = n) ∧ (s'.2 ≠ 0 → b.length = 0) := by
  unfold Pk.next at h
  split at h
  · rename_i he; cases h; exact ⟨fun h => absurd h he, fun _ => rfl⟩
  · split at h
    · cases h; exact ⟨fun h => absurd h (by decide), fun _ => rfl⟩
    · cases h; exact ⟨fun _ => by rw [List.length_take]; omega, fun h => absurd rfl h⟩
theorem refRdInt {S : Nat → Prop} {r c : Nat} {A : Option Addr} {cur : List UInt8} {s : RS} (w : World) (hR : (RefR 101 r A c cur s).p w) (hok : Pk.Ok s) (hB : Bs w S (.slice A cur.length c) cur) (hS : ∀ g, S g → ¬ g = r) (hl : cur.length ≤ 1000000000000) : Calls Tryd.prog 75 [.pointer (some ⟨r, 0, none⟩)].toArray w (Ret (ValP 101 r A c cur w (.int .i64 ((Pk.rInt s).1 : Int)) (Pk.rInt s).2)) := by
  rcases h1 : Pk.next 1 s with ⟨l, s1⟩
  have hl1 := Pk.next_len (n := 1) (s := s)
  rw [h1] at hl1
  match l, h1, hl1 with
  | [], h1, _ => exact refRdIntA w hR hok hB hS hl h1
  | b0 :: b1 :: _, _, hl1 => simp at hl1
  | [b0], h1, _ =>
    by_cases hw : Pk.wide b0 = 0
    · exact refRdIntC w hR hok hB hS hl h1 hw
    · rcases h2 : Pk.next (Pk.wide b0) s1 with ⟨b, s2⟩
      have hn := Pk.next_eq h2
      by_cases he : s2.2 = 0
      · rcases Nat.lt_or_ge (Pk.ofLe b) 9223372036854775808 with hu | hu
        · by_cases hf : Pk.ofLe b < Pk.least b0
          · exact refRdIntF w hR hok hB hS hl h1 hw h2 he (hn.1 he) hu hf
          · exact refRdIntG w hR hok hB hS hl h1 hw h2 he (hn.1 he) hu hf
        · exact refRdIntE w hR hok hB hS hl h1 hw h2 he (hn.1 he) hu
      · exact refRdIntD w hR hok hB hS hl h1 hw h2 he (hn.2 he)

theorem refRdCountA {S : Nat → Prop} {r c : Nat} {A : Option Addr} {cur : List UInt8} {s : RS} (w : World) {m : Int} {u : Nat} {s1 : RS} (hR : (RefR 101 r A c cur s).p w) (hok : Pk.Ok s) (hB : Bs w S (.slice A cur.length c) cur) (hS : ∀ g, S g → ¬ g = r) (hl : cur.length ≤ 1000000000000) (hx : Pk.rInt s = (u, s1)) (he : s1.2 ≠ 0) : Calls Tryd.prog 76 [.pointer (some ⟨r, 0, none⟩), .int .i64 m].toArray w (Ret (ValP 101 r A c cur w (.int .i64 ((Pk.rCount m s).1 : Int)) (Pk.rCount m s).2)) := by
  refine k_enter (l := [_, _]) Tryd.func76 rfl rfl ?_
  have H := St.begin (f := RefR 101 r A c cur s) hR (fun g hg => by cases hg; exact refR_lt hR)
  refine k_seq ?_
  refine k_region ?_
  refine s_run (w_none rfl) rfl (as_i rfl rfl) ?_
  refine l_nil ?_
  refine k_seq ?_
  refine k_region ?_
  refine s_run (w_none rfl) rfl (mv_p rfl rfl) ?_
  refine s_eff (e_call (w_none rfl) rfl rfl Tryd.func75 rfl rfl rfl (refRdInt _ (H.get (f := RefR 101 r A c cur s)) hok (H.bsT hB hS) hS hl) ?_)
  rw [hx]
  rintro _ W ⟨rfl, hp1, hf1⟩
  replace H := H.mut (f := RefR 101 r A c cur s) (f' := RefR 101 r A c cur s1) hf1 hp1 (fun _ h => h)
  clear hp1 hf1
  obtain ⟨a, hbk, ha, hsa⟩ := H.get (f := RefR 101 r A c cur s1)
  replace H := H.turn (f := RefR 101 r A c cur s1) (f' := Fact.blk r [.slice A cur.length c, .int .i64 (a : Int), .int .i64 s1.2] 101) Fr.refl hbk (fun g h => .inl h)
  clear hbk
  refine s_run (w_none rfl) rfl (as_i rfl rfl) ?_
  refine l_nil ?_
  refine k_seq ?_
  refine k_seq ?_
  refine k_region ?_
  refine s_run (w_none rfl) rfl (mv_p rfl rfl) ?_
  refine s_run (w_none rfl) rfl (d_nil rfl rfl) ?_
  refine s_run (w_none rfl) rfl (d_fa rfl rfl tf101_2) ?_
  refine s_run (w_none rfl) rfl (d_ld rfl H rfl ta30 rfl) ?_
  refine s_run (w_none rfl) rfl (d_eq rfl rfl rfl) ?_
  refine s_run (w_none rfl) rfl (mv_bx (c := false) rfl rfl (by simpa using he)) ?_
  refine s_skip (w_gno rfl rfl rfl rfl rfl) rfl ?_
  refine s_skip (w_gno rfl rfl rfl rfl rfl) rfl ?_
  refine s_skip (w_gno rfl rfl rfl rfl rfl) rfl ?_
  refine s_run (w_none rfl) rfl (d_pickF rfl rfl rfl) ?_
  refine l_nil ?_
  refine k_condF rfl (by first | (simp; done) | (simp; omega)) ?_
  refine k_skip ?_
  refine k_seq ?_
  refine k_seq ?_
  refine k_region ?_
  refine s_run (w_none rfl) rfl (mv_p rfl rfl) ?_
  refine s_run (w_none rfl) rfl (d_nil rfl rfl) ?_
  refine s_run (w_none rfl) rfl (d_fa rfl rfl tf101_2) ?_
  refine s_run (w_none rfl) rfl (d_ld rfl H rfl ta30 rfl) ?_
  refine s_run (w_none rfl) rfl (d_ne rfl rfl rfl) ?_
  refine l_nil ?_
  refine k_condT rfl (by simpa using he) ?_
  refine k_seq ?_
  refine k_region ?_
  refine s_run (w_none rfl) rfl (as_i rfl rfl) ?_
  refine l_nil ?_
  refine k_ret ?_
  repeat (first | refine r_then ?_ | refine r_blk ?_)
  have hu := Pk.rInt_bad (s := s) (by rw [hx]; exact he)
  rw [hx] at hu
  obtain rfl : u = 0 := hu
  have e : Pk.rCount m s = (0, s1) := by unfold Pk.rCount; rw [hx, if_neg (fun h => he h.1)]
  rw [e]
  exact q_ret (v := .int _ _) rfl rfl ⟨_, rfl, H.valP (s' := s1) rfl ha rfl hsa⟩

theorem refRdCountB {S : Nat → Prop} {r c : Nat} {A : Option Addr} {cur : List UInt8} {s : RS} (w : World) {m : Int} {u : Nat} {s1 : RS} (hR : (RefR 101 r A c cur s).p w) (hok : Pk.Ok s) (hB : Bs w S (.slice A cur.length c) cur) (hS : ∀ g, S g → ¬ g = r) (hl : cur.length ≤ 1000000000000) (hx : Pk.rInt s = (u, s1)) (he : s1.2 = 0) (hm : m < (u : Int)) : Calls Tryd.prog 76 [.pointer (some ⟨r, 0, none⟩), .int .i64 m].toArray w (Ret (ValP 101 r A c cur w (.int .i64 ((Pk.rCount m s).1 : Int)) (Pk.rCount m s).2)) := by
  refine k_enter (l := [_, _]) Tryd.func76 rfl rfl ?_
  have H := St.begin (f := RefR 101 r A c cur s) hR (fun g hg => by cases hg; exact refR_lt hR)
  refine k_seq ?_
  refine k_region ?_
  refine s_run (w_none rfl) rfl (as_i rfl rfl) ?_
  refine l_nil ?_
  refine k_seq ?_
  refine k_region ?_
  refine s_run (w_none rfl) rfl (mv_p rfl rfl) ?_
  refine s_eff (e_call (w_none rfl) rfl rfl Tryd.func75 rfl rfl rfl (refRdInt _ (H.get (f := RefR 101 r A c cur s)) hok (H.bsT hB hS) hS hl) ?_)
  rw [hx]
  rintro _ W ⟨rfl, hp1, hf1⟩
  replace H := H.mut (f := RefR 101 r A c cur s) (f' := RefR 101 r A c cur s1) hf1 hp1 (fun _ h => h)
  clear hp1 hf1
  obtain ⟨a, hbk, ha, hsa⟩ := H.get (f := RefR 101 r A c cur s1)
  replace H := H.turn (f := RefR 101 r A c cur s1) (f' := Fact.blk r [.slice A cur.length c, .int .i64 (a : Int), .int .i64 s1.2] 101) Fr.refl hbk (fun g h => .inl h)
  clear hbk
  refine s_run (w_none rfl) rfl (as_i rfl rfl) ?_
  refine l_nil ?_
  refine k_seq ?_
  refine k_seq ?_
  refine k_region ?_
  refine s_run (w_none rfl) rfl (mv_p rfl rfl) ?_
  refine s_run (w_none rfl) rfl (d_nil rfl rfl) ?_
  refine s_run (w_none rfl) rfl (d_fa rfl rfl tf101_2) ?_
  refine s_run (w_none rfl) rfl (d_ld rfl H rfl ta30 rfl) ?_
  refine s_run (w_none rfl) rfl (d_eq rfl rfl rfl) ?_
  refine s_run (w_none rfl) rfl (mv_bx (c := true) rfl rfl (by simpa using he)) ?_
  refine s_run (w_g rfl rfl rfl rfl) rfl (mv_i rfl rfl) ?_
  refine s_run (w_g rfl rfl rfl rfl) rfl (mv_i rfl rfl) ?_
  refine s_run (w_g rfl rfl rfl rfl) rfl (d_gt rfl rfl rfl) ?_
  refine s_run (w_none rfl) rfl (d_pickT rfl rfl rfl) ?_
  refine l_nil ?_
  refine k_condT rfl (by simp; omega) ?_
  refine k_region ?_
  refine s_run (w_none rfl) rfl (mv_p rfl rfl) ?_
  refine s_run (w_none rfl) rfl (d_nil rfl rfl) ?_
  refine s_run (w_none rfl) rfl (d_fa rfl rfl tf101_2) ?_
  refine s_eff (e_sto (w_none rfl) rfl rfl rfl rfl rfl ts30 rfl H rfl ?_)
  clear H; intro W H
  refine l_nil ?_
  refine k_seq ?_
  refine k_seq ?_
  refine k_region ?_
  refine s_run (w_none rfl) rfl (mv_p rfl rfl) ?_
  refine s_run (w_none rfl) rfl (d_nil rfl rfl) ?_
  refine s_run (w_none rfl) rfl (d_fa rfl rfl tf101_2) ?_
  refine s_run (w_none rfl) rfl (d_ld rfl H rfl ta30 rfl) ?_
  refine s_run (w_none rfl) rfl (d_ne rfl rfl rfl) ?_
  refine l_nil ?_
  refine k_condT rfl (by decide) ?_
  refine k_seq ?_
  refine k_region ?_
  refine s_run (w_none rfl) rfl (as_i rfl rfl) ?_
  refine l_nil ?_
  refine k_ret ?_
  repeat (first | refine r_then ?_ | refine r_blk ?_)
  have e : Pk.rCount m s = (0, ([], 3)) := by unfold Pk.rCount; rw [hx, if_pos ⟨he, hm⟩]
  rw [e]
  exact q_ret (v := .int _ _) rfl rfl ⟨_, rfl, H.valP (s' := ([], 3)) rfl ha rfl rfl⟩

theorem refRdCountC {S : Nat → Prop} {r c : Nat} {A : Option Addr} {cur : List UInt8} {s : RS} (w : World) {m : Int} {u : Nat} {s1 : RS} (hR : (RefR 101 r A c cur s).p w) (hok : Pk.Ok s) (hB : Bs w S (.slice A cur.length c) cur) (hS : ∀ g, S g → ¬ g = r) (hl : cur.length ≤ 1000000000000) (hx : Pk.rInt s = (u, s1)) (he : s1.2 = 0) (hm : ¬ m < (u : Int)) : Calls Tryd.prog 76 [.pointer (some ⟨r, 0, none⟩), .int .i64 m].toArray w (Ret (ValP 101 r A c cur w (.int .i64 ((Pk.rCount m s).1 : Int)) (Pk.rCount m s).2)) := by
  refine k_enter (l := [_, _]) Tryd.func76 rfl rfl ?_
  have H := St.begin (f := RefR 101 r A c cur s) hR (fun g hg => by cases hg; exact refR_lt hR)
  refine k_seq ?_
  refine k_region ?_
  refine s_run (w_none rfl) rfl (as_i rfl rfl) ?_
  refine l_nil ?_
  refine k_seq ?_
  refine k_region ?_
  refine s_run (w_none rfl) rfl (mv_p rfl rfl) ?_
  refine s_eff (e_call (w_none rfl) rfl rfl Tryd.func75 rfl rfl rfl (refRdInt _ (H.get (f := RefR 101 r A c cur s)) hok (H.bsT hB hS) hS hl) ?_)
  rw [hx]
  rintro _ W ⟨rfl, hp1, hf1⟩
  replace H := H.mut (f := RefR 101 r A c cur s) (f' := RefR 101 r A c cur s1) hf1 hp1 (fun _ h => h)
  clear hp1 hf1
  obtain ⟨a, hbk, ha, hsa⟩ := H.get (f := RefR 101 r A c cur s1)
  replace H := H.turn (f := RefR 101 r A c cur s1) (f' := Fact.blk r [.slice A cur.length c, .int .i64 (a : Int), .int .i64 s1.2] 101) Fr.refl hbk (fun g h => .inl h)
  clear hbk
  refine s_run (w_none rfl) rfl (as_i rfl rfl) ?_
  refine l_nil ?_
  refine k_seq ?_
  refine k_seq ?_
  refine k_region ?_
  refine s_run (w_none rfl) rfl (mv_p rfl rfl) ?_
  refine s_run (w_none rfl) rfl (d_nil rfl rfl) ?_
  refine s_run (w_none rfl) rfl (d_fa rfl rfl tf101_2) ?_
  refine s_run (w_none rfl) rfl (d_ld rfl H rfl ta30 rfl) ?_
  refine s_run (w_none rfl) rfl (d_eq rfl rfl rfl) ?_
  refine s_run (w_none rfl) rfl (mv_bx (c := true) rfl rfl (by simpa using he)) ?_
  refine s_run (w_g rfl rfl rfl rfl) rfl (mv_i rfl rfl) ?_
  refine s_run (w_g rfl rfl rfl rfl) rfl (mv_i rfl rfl) ?_
  refine s_run (w_g rfl rfl rfl rfl) rfl (d_gt rfl rfl rfl) ?_
  refine s_run (w_none rfl) rfl (d_pickT rfl rfl rfl) ?_
  refine l_nil ?_
  refine k_condF rfl (by simp; omega) ?_
  refine k_skip ?_
  refine k_seq ?_
  refine k_seq ?_
  refine k_region ?_
  refine s_run (w_none rfl) rfl (mv_p rfl rfl) ?_
  refine s_run (w_none rfl) rfl (d_nil rfl rfl) ?_
  refine s_run (w_none rfl) rfl (d_fa rfl rfl tf101_2) ?_
  refine s_run (w_none rfl) rfl (d_ld rfl H rfl ta30 rfl) ?_
  refine s_run (w_none rfl) rfl (d_ne rfl rfl rfl) ?_
  refine l_nil ?_
  refine k_condF rfl (by simpa using he) ?_
  refine k_skip ?_
  refine k_seq ?_
  refine k_region ?_
  refine s_run (w_none rfl) rfl (mv_i rfl rfl) ?_
  refine s_run (w_none rfl) rfl (as_i rfl rfl) ?_
  refine l_nil ?_
  refine k_ret ?_
  repeat (first | refine r_then ?_ | refine r_blk ?_)
  have e : Pk.rCount m s = (u, s1) := by unfold Pk.rCount; rw [hx, if_neg (fun h => hm h.2)]
  rw [e]
  exact q_ret (v := .int _ _) rfl rfl ⟨_, rfl, H.valP (s' := s1) rfl ha rfl hsa⟩

theorem refRdCount {S : Nat → Prop} {r c : Nat} {A : Option Addr} {cur : List UInt8} {s : RS} (w : World) {m : Int} (hR : (RefR 101 r A c cur s).p w) (hok : Pk.Ok s) (hB : Bs w S (.slice A cur.length c) cur) (hS : ∀ g, S g → ¬ g = r) (hl : cur.length ≤ 1000000000000) : Calls Tryd.prog 76 [.pointer (some ⟨r, 0, none⟩), .int .i64 m].toArray w (Ret (ValP 101 r A c cur w (.int .i64 ((Pk.rCount m s).1 : Int)) (Pk.rCount m s).2)) := by
  rcases hx : Pk.rInt s with ⟨u, s1⟩
  by_cases he : s1.2 = 0
  · by_cases hm : m < (u : Int)
    · exact refRdCountB w hR hok hB hS hl hx he hm
    · exact refRdCountC w hR hok hB hS hl hx he hm
  · exact refRdCountA w hR hok hB hS hl hx he

theorem refRdBlob {S : Nat → Prop} {r c : Nat} {A : Option Addr} {cur : List UInt8} {s : RS} (w : World) {m : Int} (hR : (RefR 101 r A c cur s).p w) (hok : Pk.Ok s) (hB : Bs w S (.slice A cur.length c) cur) (hS : ∀ g, S g → ¬ g = r) (hl : cur.length ≤ 1000000000000) : Calls Tryd.prog 77 [.pointer (some ⟨r, 0, none⟩), .int .i64 m].toArray w (Ret (NextP 5 101 r A c cur w (Pk.rBlob m s).1 (Pk.rBlob m s).2)) := by
  refine k_enter (l := [_, _]) Tryd.func77 rfl rfl ?_
  have H := St.begin (f := RefR 101 r A c cur s) hR (fun g hg => by cases hg; exact refR_lt hR)
  refine k_seq ?_
  refine k_region ?_
  refine s_run (w_none rfl) rfl (as_s rfl rfl) ?_
  refine l_nil ?_
  refine k_seq ?_
  refine k_region ?_
  refine s_run (w_none rfl) rfl (mv_p rfl rfl) ?_
  refine s_run (w_none rfl) rfl (mv_p rfl rfl) ?_
  refine s_run (w_none rfl) rfl (mv_i rfl rfl) ?_
  refine s_eff (e_call (w_none rfl) rfl rfl Tryd.func76 rfl rfl rfl (refRdCount _ (H.get (f := RefR 101 r A c cur s)) hok (H.bsT hB hS) hS hl) ?_)
  rintro _ W ⟨rfl, hp1, hf1⟩
  replace H := H.mut (f := RefR 101 r A c cur s) (f' := RefR 101 r A c cur (Pk.rCount m s).2) hf1 hp1 (fun _ h => h)
  clear hp1 hf1
  have hlt := Pk.rCount_lt (m := m) (s := s)
  refine s_eff (e_call (w_none rfl) rfl rfl Tryd.func103 rfl rfl rfl (refNext (n := (Pk.rCount m s).1) _ (by rfl) (by omega) (H.get (f := RefR 101 r A c cur (Pk.rCount m s).2)) (Pk.ok_rCount hok) (H.bsT hB hS) hS hl) ?_)
  rintro _ W ⟨⟨A2, c2, rfl, hc2, hd2, ho2, hf2, hfr2⟩, hr2⟩
  replace H := H.mutnew (f := RefR 101 r A c cur (Pk.rCount m s).2) (f' := RefR 101 r A c cur (Pk.rBlob m s).2) (fn := Fact.row 5 1 (.slice A2 (Pk.rBlob m s).1.length c2) (Pk.rBlob m s).1.length _) hfr2 hr2 (fun _ h => h) ho2 hf2
  clear hfr2 hr2 ho2 hf2
  refine s_run (w_none rfl) rfl (as_s rfl rfl) ?_
  refine l_nil ?_
  refine k_ret ?_
  repeat (first | refine r_then ?_ | refine r_blk ?_)
  exact q_ret (v := .slice _ _ _) rfl rfl ⟨_, rfl, H.nextP' (l := (Pk.rBlob m s).1) (s' := (Pk.rBlob m s).2) hc2 hd2⟩

theorem refRdHash0 {S : Nat → Prop} {r c : Nat} {A : Option Addr} {cur : List UInt8} {s : RS} (w : World) {b : List UInt8} {s1 : RS} (hR : (RefR 101 r A c cur s).p w) (hok : Pk.Ok s) (hB : Bs w S (.slice A cur.length c) cur) (hS : ∀ g, S g → ¬ g = r) (hl : cur.length ≤ 1000000000000) (hx : Pk.next 32 s = (b, s1)) (hbl : b.length ≤ 32) : Calls Tryd.prog 78 [.pointer (some ⟨r, 0, none⟩)].toArray w (Ret (ValP 101 r A c cur w (.agg ((Pk.full 32 b).map u8v).toArray) s1)) := by
  refine k_enter (l := [_]) Tryd.func78 rfl rfl ?_
  have H := St.begin (f := RefR 101 r A c cur s) hR (fun g hg => by cases hg; exact refR_lt hR)
  refine k_seq ?_
  refine k_region ?_
  refine s_eff (e_alloc (w_none rfl) rfl rfl (hz 32 0 b) (by rw [hz_zero]; exact tz36) H ?_)
  clear H; intro g0_0 W H
  refine l_nil ?_
  refine k_seq ?_
  refine k_region ?_
  refine s_run (w_none rfl) rfl (mv_p rfl rfl) ?_
  refine s_eff (e_call (w_none rfl) rfl rfl Tryd.func103 rfl rfl rfl (refNextE _ hx (by rfl) (by omega) (H.get (f := RefR 101 r A c cur s)) hok (H.bsT hB hS) hS hl) ?_)
  rintro _ W ⟨⟨A1, c1, rfl, hc1, hd1, ho1, hf1, hfr1⟩, hr1⟩
  replace H := H.mutnew (f := RefR 101 r A c cur s) (f' := RefR 101 r A c cur s1) (fn := Fact.row 5 1 (.slice A1 b.length c1) b.length _) hfr1 hr1 (fun _ h => h) ho1 hf1
  clear hfr1 hr1 ho1 hf1
  refine s_run (w_none rfl) rfl (as_s rfl rfl) ?_
  refine l_nil ?_
  refine k_seq ?_
  refine k_region ?_
  refine s_eff (e_alloc (w_none rfl) rfl rfl (hz 32 0 b) (by rw [hz_zero]; exact tz36) H ?_)
  clear H; intro g2_0 W H
  refine l_nil ?_
  refine k_seq ?_
  refine k_seq ?_
  refine k_region ?_
  refine s_run (w_none rfl) rfl (as_i rfl rfl) ?_
  refine l_nil ?_
  refine k_block ?_
  refine k_loop 8 [5] (fun mm sl W => ∃ k : Nat, b.length - k = mm ∧ sl = [(5, .int .i64 (k : Int))] ∧ (k ≤ b.length) ∧ St (· = r) w W [Fact.blk g2_0 (hz 32 k b) 36, Fact.row 5 1 (.slice A1 b.length c1) b.length (b.map u8v), Fact.blk g0_0 (hz 32 0 b) 36, RefR 101 r A c cur s1]) _ _ ⟨0, rfl, rfl, Nat.zero_le _, H⟩ ⟨rfl, trivial⟩ (fun mm sl ρv W hJ => ?_)
  clear H; obtain ⟨k, rfl, rfl, hk, H⟩ := hJ
  refine k_one ?_
  refine k_seq ?_
  refine k_seq ?_
  refine k_region ?_
  refine s_run (w_none rfl) rfl (mv_i rfl rfl) ?_
  refine s_run (w_none rfl) rfl (mv_s rfl rfl) ?_
  refine s_run (w_none rfl) rfl (d_len rfl rfl tu23) ?_
  refine s_run (w_none rfl) rfl (d_lt rfl rfl rfl) ?_
  refine l_nil ?_
  refine k_cond rfl (fun hc11 => ?_) (fun hc11 => ?_)
  · first | (replace hc11 := of_decide_eq_true hc11) | simp at hc11
    refine k_skip ?_
    refine k_seq ?_
    refine k_block ?_
    refine k_region ?_
    refine s_run (w_none rfl) rfl (mv_i rfl rfl) ?_
    refine s_run (w_none rfl) rfl (mv_s rfl rfl) ?_
    refine s_run (w_none rfl) rfl (mv_i rfl rfl) ?_
    refine s_run (w_none rfl) rfl (d_iaB rfl (H.rowrd (A := A1)) rfl rfl (q := k) (by omega) (by omega) tu23 ts5) ?_
    refine s_run (w_none rfl) rfl (d_ldB rfl (H.rowrd (A := A1)) ((l_get (by omega))) rfl ta5) ?_
    refine s_run (w_none rfl) rfl (d_iaA rfl rfl rfl (q := k) (by omega) tu36 (by omega) ts5) ?_
    refine s_eff (e_stoK (hz 32 (k + 1) b) (w_none rfl) rfl rfl rfl rfl rfl ts5 rfl rfl H (by rw [len_hz hbl]; omega) ((congrArg (fun j => spl _ j _) (by omega)).trans (hz_step (k := k) (by omega) hbl)) ?_)
    clear H; intro W H
    refine l_nil ?_
    refine k_nil ?_
    refine b_end ?_
    refine k_region ?_
    refine s_run (w_none rfl) rfl (mv_i rfl rfl) ?_
    refine s_run (w_none rfl) rfl (d_add rfl rfl rfl (by omega)) ?_
    refine s_run (w_none rfl) rfl (as_i rfl rfl) ?_
    refine l_nil ?_
    refine k_nil ?_
    refine k_next ?_
    refine ⟨_, _, _, ?_, rfl, ?_, ?_, ⟨k + 1, rfl, rfl, by omega, H⟩⟩
    · omega
    · repeat (first | ((with_reducible refine Eqo.updl _ Eqo.ovr ?_); exact rfl) | ((with_reducible refine Eqo.upd ?_ ?_); rotate_left; exact rfl))
    · refine ⟨?_, trivial⟩
      · exact vi (by omega)
  · first | (replace hc11 := of_decide_eq_false hc11) | simp at hc11
    refine k_exit ?_
    refine x_then (x_then ?_)
    refine x_hit ?_
    refine k_seq ?_
    obtain rfl : k = b.length := by omega
    refine k_region ?_
    refine s_run (w_none rfl) rfl (d_ldm0 rfl H rfl ta36 ts36 (len_hz hbl)) ?_
    refine s_eff (e_stoK (hz 32 b.length b) (w_none rfl) rfl rfl rfl rfl rfl ts36 (len_hz hbl) (by unfold hz; exact all_u8L _) H (by have := len_hz (k := 0) hbl; omega) (spl_all (by rw [len_hz hbl, len_hz hbl])) ?_)
    clear H; intro W H
    refine l_nil ?_
    refine k_ret ?_
    repeat (first | refine r_then ?_ | refine r_blk ?_)
    rw [← hz_end]
    exact q_retc (g := g0_0) (t' := 36) rfl H rfl ta36 (by rw [len_hz hbl]; exact ts36) ⟨_, rfl, H.valP'⟩

theorem refRdHash {S : Nat → Prop} {r c : Nat} {A : Option Addr} {cur : List UInt8} {s : RS} (w : World) (hR : (RefR 101 r A c cur s).p w) (hok : Pk.Ok s) (hB : Bs w S (.slice A cur.length c) cur) (hS : ∀ g, S g → ¬ g = r) (hl : cur.length ≤ 1000000000000) : Calls Tryd.prog 78 [.pointer (some ⟨r, 0, none⟩)].toArray w (Ret (ValP 101 r A c cur w (.agg ((Pk.rBytes 32 s).1.map u8v).toArray) (Pk.rBytes 32 s).2)) :=
  refRdHash0 w hR hok hB hS hl rfl Pk.next_len

theorem refRdTag0 {S : Nat → Prop} {r c : Nat} {A : Option Addr} {cur : List UInt8} {s : RS} (w : World) {b : List UInt8} {s1 : RS} (hR : (RefR 101 r A c cur s).p w) (hok : Pk.Ok s) (hB : Bs w S (.slice A cur.length c) cur) (hS : ∀ g, S g → ¬ g = r) (hl : cur.length ≤ 1000000000000) (hx : Pk.next 16 s = (b, s1)) (hbl : b.length ≤ 16) : Calls Tryd.prog 79 [.pointer (some ⟨r, 0, none⟩)].toArray w (Ret (ValP 101 r A c cur w (.agg ((Pk.full 16 b).map u8v).toArray) s1)) := by
  refine k_enter (l := [_]) Tryd.func79 rfl rfl ?_
  have H := St.begin (f := RefR 101 r A c cur s) hR (fun g hg => by cases hg; exact refR_lt hR)
  refine k_seq ?_
  refine k_region ?_
  refine s_eff (e_alloc (w_none rfl) rfl rfl (hz 16 0 b) (by rw [hz_zero]; exact tz38) H ?_)
  clear H; intro g0_0 W H
  refine l_nil ?_
  refine k_seq ?_
  refine k_region ?_
  refine s_run (w_none rfl) rfl (mv_p rfl rfl) ?_
  refine s_eff (e_call (w_none rfl) rfl rfl Tryd.func103 rfl rfl rfl (refNextE _ hx (by rfl) (by omega) (H.get (f := RefR 101 r A c cur s)) hok (H.bsT hB hS) hS hl) ?_)
  rintro _ W ⟨⟨A1, c1, rfl, hc1, hd1, ho1, hf1, hfr1⟩, hr1⟩
  replace H := H.mutnew (f := RefR 101 r A c cur s) (f' := RefR 101 r A c cur s1) (fn := Fact.row 5 1 (.slice A1 b.length c1) b.length _) hfr1 hr1 (fun _ h => h) ho1 hf1
  clear hfr1 hr1 ho1 hf1
  refine s_run (w_none rfl) rfl (as_s rfl rfl) ?_
  refine l_nil ?_
  refine k_seq ?_
  refine k_region ?_
  refine s_eff (e_alloc (w_none rfl) rfl rfl (hz 16 0 b) (by rw [hz_zero]; exact tz38) H ?_)
  clear H; intro g2_0 W H
  refine l_nil ?_
  refine k_seq ?_
  refine k_seq ?_
  refine k_region ?_
  refine s_run (w_none rfl) rfl (as_i rfl rfl) ?_
  refine l_nil ?_
  refine k_block ?_
  refine k_loop 8 [5] (fun mm sl W => ∃ k : Nat, b.length - k = mm ∧ sl = [(5, .int .i64 (k : Int))] ∧ (k ≤ b.length) ∧ St (· = r) w W [Fact.blk g2_0 (hz 16 k b) 38, Fact.row 5 1 (.slice A1 b.length c1) b.length (b.map u8v), Fact.blk g0_0 (hz 16 0 b) 38, RefR 101 r A c cur s1]) _ _ ⟨0, rfl, rfl, Nat.zero_le _, H⟩ ⟨rfl, trivial⟩ (fun mm sl ρv W hJ => ?_)
  clear H; obtain ⟨k, rfl, rfl, hk, H⟩ := hJ
  refine k_one ?_
  refine k_seq ?_
  refine k_seq ?_
  refine k_region ?_
  refine s_run (w_none rfl) rfl (mv_i rfl rfl) ?_
  refine s_run (w_none rfl) rfl (mv_s rfl rfl) ?_
  refine s_run (w_none rfl) rfl (d_len rfl rfl tu23) ?_
  refine s_run (w_none rfl) rfl (d_lt rfl rfl rfl) ?_
  refine l_nil ?_
  refine k_cond rfl (fun hc11 => ?_) (fun hc11 => ?_)
  · first | (replace hc11 := of_decide_eq_true hc11) | simp at hc11
    refine k_skip ?_
    refine k_seq ?_
    refine k_block ?_
    refine k_region ?_
    refine s_run (w_none rfl) rfl (mv_i rfl rfl) ?_
    refine s_run (w_none rfl) rfl (mv_s rfl rfl) ?_
    refine s_run (w_none rfl) rfl (mv_i rfl rfl) ?_
    refine s_run (w_none rfl) rfl (d_iaB rfl (H.rowrd (A := A1)) rfl rfl (q := k) (by omega) (by omega) tu23 ts5) ?_
    refine s_run (w_none rfl) rfl (d_ldB rfl (H.rowrd (A := A1)) ((l_get (by omega))) rfl ta5) ?_
    refine s_run (w_none rfl) rfl (d_iaA rfl rfl rfl (q := k) (by omega) tu38 (by omega) ts5) ?_
    refine s_eff (e_stoK (hz 16 (k + 1) b) (w_none rfl) rfl rfl rfl rfl rfl ts5 rfl rfl H (by rw [len_hz hbl]; omega) ((congrArg (fun j => spl _ j _) (by omega)).trans (hz_step (k := k) (by omega) hbl)) ?_)
    clear H; intro W H
    refine l_nil ?_
    refine k_nil ?_
    refine b_end ?_
    refine k_region ?_
    refine s_run (w_none rfl) rfl (mv_i rfl rfl) ?_
    refine s_run (w_none rfl) rfl (d_add rfl rfl rfl (by omega)) ?_
    refine s_run (w_none rfl) rfl (as_i rfl rfl) ?_
    refine l_nil ?_
    refine k_nil ?_
    refine k_next ?_
    refine ⟨_, _, _, ?_, rfl, ?_, ?_, ⟨k + 1, rfl, rfl, by omega, H⟩⟩
    · omega
    · repeat (first | ((with_reducible refine Eqo.updl _ Eqo.ovr ?_); exact rfl) | ((with_reducible refine Eqo.upd ?_ ?_); rotate_left; exact rfl))
    · refine ⟨?_, trivial⟩
      · exact vi (by omega)
  · first | (replace hc11 := of_decide_eq_false hc11) | simp at hc11
    refine k_exit ?_
    refine x_then (x_then ?_)
    refine x_hit ?_
    refine k_seq ?_
    obtain rfl : k = b.length := by omega
    refine k_region ?_
    refine s_run (w_none rfl) rfl (d_ldm0 rfl H rfl ta38 ts38 (len_hz hbl)) ?_
    refine s_eff (e_stoK (hz 16 b.length b) (w_none rfl) rfl rfl rfl rfl rfl ts38 (len_hz hbl) (by unfold hz; exact all_u8L _) H (by have := len_hz (k := 0) hbl; omega) (spl_all (by rw [len_hz hbl, len_hz hbl])) ?_)
    clear H; intro W H
    refine l_nil ?_
    refine k_ret ?_
    repeat (first | refine r_then ?_ | refine r_blk ?_)
    rw [← hz_end]
    exact q_retc (g := g0_0) (t' := 38) rfl H rfl ta38 (by rw [len_hz hbl]; exact ts38) ⟨_, rfl, H.valP'⟩

theorem refRdTag {S : Nat → Prop} {r c : Nat} {A : Option Addr} {cur : List UInt8} {s : RS} (w : World) (hR : (RefR 101 r A c cur s).p w) (hok : Pk.Ok s) (hB : Bs w S (.slice A cur.length c) cur) (hS : ∀ g, S g → ¬ g = r) (hl : cur.length ≤ 1000000000000) : Calls Tryd.prog 79 [.pointer (some ⟨r, 0, none⟩)].toArray w (Ret (ValP 101 r A c cur w (.agg ((Pk.rBytes 16 s).1.map u8v).toArray) (Pk.rBytes 16 s).2)) :=
  refRdTag0 w hR hok hB hS hl rfl Pk.next_len

theorem refRead {S : Nat → Prop} {v : Value} {l : List UInt8} (w : World) (hB : Bs w S v l) (hl : l.length ≤ 1000000000000) : Calls Tryd.prog 34 [v].toArray w (Ret (fun v w' => ∃ r A c, v = .pointer (some ⟨r, 0, none⟩) ∧ l.length ≤ c ∧ c ≤ 9223372036854775807 ∧ St nT w w' [RefR 101 r A c l (l, 0), Fact.row 5 1 (.slice A l.length c) l.length (l.map u8v)])) := by
  obtain ⟨_, _, rfl, hcc, _, _⟩ := hB.op
  refine k_enter (l := [_]) Tryd.func34 rfl rfl ?_
  have H := St.start nT w
  refine k_seq ?_
  refine k_region ?_
  refine s_run (w_none rfl) rfl (as_p rfl rfl) ?_
  refine l_nil ?_
  refine k_seq ?_
  refine k_region ?_
  refine s_run (w_none rfl) rfl (mv_s rfl rfl) ?_
  refine s_eff (e_call (w_none rfl) rfl rfl Tryd.func67 rfl rfl rfl (copyBytes _ _ _ (H.bs hB) (by omega)) ?_)
  rintro _ W ⟨A1, c1, rfl, hc1, hd1, hn⟩
  replace H := H.new hn
  clear hn
  refine s_run (w_none rfl) rfl (d_build (vs := [.slice A1 l.length c1, .int .i64 0, .int .i64 0]) rfl (by kernel_rfl)) ?_
  refine s_eff (e_box (w_none rfl) rfl rfl rfl rfl H ?_)
  clear H; intro g1_3 W H
  refine s_run (w_none rfl) rfl (as_p rfl rfl) ?_
  refine l_nil ?_
  refine k_ret ?_
  repeat (first | refine r_then ?_ | refine r_blk ?_)
  exact q_ret (v := .pointer _) rfl rfl ⟨_, rfl, g1_3, A1, c1, rfl, hc1, hd1, H.turn (f := Fact.blk g1_3 [.slice A1 l.length c1, .int .i64 0, .int .i64 0] 101) (f' := RefR 101 g1_3 A1 c1 l (l, 0)) Fr.refl ⟨0, H.blk, Nat.zero_le _, rfl⟩ (fun g h => .inl h)⟩
end Go.Proofs.YtejaohlijaodjaaDoor
