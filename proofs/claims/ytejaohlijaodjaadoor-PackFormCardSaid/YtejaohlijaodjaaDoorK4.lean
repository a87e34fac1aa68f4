/- The reader of the program: chapter 3. -/
import Derived.Test.YtejaohlijaodjaaDoorVH
import Derived.Test.YtejaohlijaodjaaDoorK3
namespace Go.Proofs.YtejaohlijaodjaaDoor
open Go Go.RowKit
attribute [local irreducible] wpList

def why (k : Int) : Value := .iface 125 (.agg [.int .i64 k].toArray)
theorem mustOk {b : Bool} (z : Int) (w : World) (hb : b = true) : Calls Tryd.prog 99 [.bool b, .int .i64 z].toArray w (Ret (Is w (.tuple #[]))) := by
  subst hb
  refine k_enter (l := [_, _]) Tryd.func99 rfl rfl ?_
  have H := St.start nT w
  refine k_seq ?_
  refine k_region ?_
  refine s_run (w_none rfl) rfl (mv_b rfl rfl) ?_
  refine s_run (w_none rfl) rfl (d_not rfl rfl) ?_
  refine l_nil ?_
  refine k_condF rfl (by first | (simp; done) | (simp; omega)) ?_
  refine k_skip ?_
  refine k_nil ?_
  exact q_end0 rfl ⟨_, rfl, rfl, H.under⟩

theorem mustBad {b : Bool} (z : Int) (w : World) (hb : b = false) : Calls Tryd.prog 99 [.bool b, .int .i64 z].toArray w (Pan (why z) (fun w' => Below w.heap.size w w')) := by
  subst hb
  refine k_enter (l := [_, _]) Tryd.func99 rfl rfl ?_
  have H := St.start nT w
  refine k_seq ?_
  refine k_region ?_
  refine s_run (w_none rfl) rfl (mv_b rfl rfl) ?_
  refine s_run (w_none rfl) rfl (d_not rfl rfl) ?_
  refine l_nil ?_
  refine k_condT rfl (by first | (simp; done) | (simp; omega)) ?_
  refine k_region ?_
  refine s_run (w_none rfl) rfl (mv_i rfl rfl) ?_
  refine s_run (w_none rfl) rfl (d_build (vs := [.int .i64 z]) rfl (by kernel_rfl)) ?_
  refine s_run (w_none rfl) rfl (d_mkiface (v := .agg [.int .i64 z].toArray) rfl rfl (by kernel_rfl)) ?_
  refine s_eff (e_panic (w_none rfl) rfl rfl ?_)
  exact ⟨rfl, rfl, H.under⟩

theorem clone {S : Nat → Prop} {v : Value} {l : List UInt8} (w : World) (hB : Bs w S v l) (hl : l.length ≤ 1000000000000) : Calls Tryd.prog 70 [v].toArray w (Ret (NewB 5 w l)) := by
  obtain ⟨A, c, rfl, hcc, hcm, hrd⟩ := hB.op
  refine k_enter (l := [_]) Tryd.func70 rfl rfl ?_
  have H := St.start nT w
  refine k_seq ?_
  refine k_region ?_
  refine s_run (w_none rfl) rfl (as_s rfl rfl) ?_
  refine l_nil ?_
  refine k_seq ?_
  refine k_seq ?_
  refine k_region ?_
  refine s_run (w_none rfl) rfl (mv_s rfl rfl) ?_
  refine s_run (w_none rfl) rfl (d_eqnil rfl rfl rfl tu23) ?_
  refine l_nil ?_
  refine k_cond rfl (fun hc4 => ?_) (fun hc4 => ?_)
  · skip
    refine k_seq ?_
    refine k_region ?_
    refine s_run (w_none rfl) rfl (as_s rfl rfl) ?_
    refine l_nil ?_
    refine k_ret ?_
    repeat (first | refine r_then ?_ | refine r_blk ?_)
    obtain rfl : l = [] := by
      rcases Nat.eq_zero_or_pos l.length with h | h
      · exact List.eq_nil_of_length_eq_zero h
      · obtain ⟨g, o, rfl, _⟩ := hrd.2 h
        simp at hc4
    replace H := H.nilrow 5 1
    exact q_ret (v := .slice _ _ _) rfl rfl ⟨_, rfl, H.newB (l := []) (by rfl) (by rfl) (Nat.le_refl _) (by omega)⟩
  · skip
    refine k_skip ?_
    refine k_seq ?_
    refine k_region ?_
    refine s_eff (e_bsl0 (w_none rfl) rfl rfl tu23 ts5 H ?_)
    clear H; intro g3_0 W H
    refine s_run (w_none rfl) rfl (mv_s rfl rfl) ?_
    refine s_eff (e_app (w_none rfl) rfl rfl tu23 tx5 rfl rfl rfl H (H.rd hrd) (all_u8L _) (by omega) rfl ?_)
    clear H; intro A1 c1 W hc1 hd1 H
    refine s_run (w_none rfl) rfl (as_s rfl rfl) ?_
    refine l_nil ?_
    refine k_ret ?_
    repeat (first | refine r_then ?_ | refine r_blk ?_)
    rw [Nat.zero_add] at hc1 H ⊢
    exact q_ret (v := .slice _ _ _) rfl rfl ⟨_, rfl, H.newB (l := l) rfl rfl hc1 hd1⟩

theorem prgLeft {A0 : Option Addr} {n0 c0 r : Nat} {Y : List UInt8 → Prop} {v : Value} {b : List UInt8} {s : RS} (w : World) (hR : (RdYB 5 96 r A0 n0 c0 Y v b s).p w) : Calls Tryd.prog 35 [.pointer (some ⟨r, 0, none⟩)].toArray w (Ret (Is w (.int .i64 (s.1.length : Int)))) := by
  obtain ⟨A, c, o, ys, h1, h2, h3, hL, hH, hY⟩ := hR
  have hG := gat_of h1
  refine k_enter (l := [_]) Tryd.func35 rfl rfl ?_
  have H := St.start nT w
  refine k_seq ?_
  refine k_region ?_
  refine s_run (w_none rfl) rfl (as_i rfl rfl) ?_
  refine l_nil ?_
  refine k_seq ?_
  refine k_region ?_
  refine s_run (w_none rfl) rfl (mv_p rfl rfl) ?_
  refine s_run (w_none rfl) rfl (d_nil rfl rfl) ?_
  refine s_run (w_none rfl) rfl (d_fa rfl rfl tf96_0) ?_
  refine s_run (w_none rfl) rfl (d_ldG rfl (H.gat hG) rfl ta23 rfl) ?_
  refine s_run (w_none rfl) rfl (d_len rfl rfl tu23) ?_
  refine s_run (w_none rfl) rfl (as_i rfl rfl) ?_
  refine l_nil ?_
  refine k_ret ?_
  repeat (first | refine r_then ?_ | refine r_blk ?_)
  exact q_ret (v := .int _ _) rfl rfl ⟨_, rfl, rfl, H.under⟩

theorem prgBad {A0 : Option Addr} {n0 c0 r : Nat} {Y : List UInt8 → Prop} {v : Value} {b : List UInt8} {s : RS} (w : World) (hR : (RdYB 5 96 r A0 n0 c0 Y v b s).p w) : Calls Tryd.prog 39 [.pointer (some ⟨r, 0, none⟩)].toArray w (Ret (Is w (.bool (s.2 != 0)))) := by
  obtain ⟨A, c, o, ys, h1, h2, h3, hL, hH, hY⟩ := hR
  have hG := gat_of h1
  refine k_enter (l := [_]) Tryd.func39 rfl rfl ?_
  have H := St.start nT w
  refine k_seq ?_
  refine k_region ?_
  refine s_run (w_none rfl) rfl (as_b rfl rfl) ?_
  refine l_nil ?_
  refine k_seq ?_
  refine k_region ?_
  refine s_run (w_none rfl) rfl (mv_p rfl rfl) ?_
  refine s_run (w_none rfl) rfl (d_nil rfl rfl) ?_
  refine s_run (w_none rfl) rfl (d_fa rfl rfl tf96_1) ?_
  refine s_run (w_none rfl) rfl (d_ldG rfl (H.gat hG) rfl ta30 rfl) ?_
  refine s_run (w_none rfl) rfl (d_ne rfl rfl rfl) ?_
  refine s_run (w_none rfl) rfl (as_b rfl rfl) ?_
  refine l_nil ?_
  refine k_ret ?_
  repeat (first | refine r_then ?_ | refine r_blk ?_)
  exact q_ret (v := .bool _) rfl rfl ⟨_, rfl, rfl, H.under⟩

theorem prgEnd {A0 : Option Addr} {n0 c0 r : Nat} {Y : List UInt8 → Prop} {v : Value} {b : List UInt8} {s : RS} (w : World) (hR : (RdYB 5 96 r A0 n0 c0 Y v b s).p w) : Calls Tryd.prog 21 [.pointer (some ⟨r, 0, none⟩)].toArray w (Ret (Is w (.int .i64 (Pk.rEnd s)))) := by
  obtain ⟨A, c, o, ys, h1, h2, h3, hL, hH, hY⟩ := hR
  have hG := gat_of h1
  refine k_enter (l := [_]) Tryd.func21 rfl rfl ?_
  have H := St.start nT w
  refine k_seq ?_
  refine k_region ?_
  refine s_run (w_none rfl) rfl (as_i rfl rfl) ?_
  refine l_nil ?_
  refine k_seq ?_
  refine k_seq ?_
  refine k_region ?_
  refine s_run (w_none rfl) rfl (mv_p rfl rfl) ?_
  refine s_run (w_none rfl) rfl (d_nil rfl rfl) ?_
  refine s_run (w_none rfl) rfl (d_fa rfl rfl tf96_0) ?_
  refine s_run (w_none rfl) rfl (d_ldG rfl (H.gat hG) rfl ta23 rfl) ?_
  refine s_run (w_none rfl) rfl (d_len rfl rfl tu23) ?_
  refine s_run (w_none rfl) rfl (d_gt rfl rfl rfl) ?_
  refine l_nil ?_
  refine k_cond rfl (fun hc8 => ?_) (fun hc8 => ?_)
  · first | (replace hc8 := of_decide_eq_true hc8) | simp at hc8
    refine k_seq ?_
    refine k_region ?_
    refine s_run (w_none rfl) rfl (as_i rfl rfl) ?_
    refine l_nil ?_
    refine k_ret ?_
    repeat (first | refine r_then ?_ | refine r_blk ?_)
    exact q_ret (v := .int _ _) rfl rfl ⟨_, rfl, vi (by rw [Pk.rEnd, if_pos (by omega)]), H.under⟩
  · first | (replace hc8 := of_decide_eq_false hc8) | simp at hc8
    refine k_skip ?_
    refine k_seq ?_
    refine k_region ?_
    refine s_run (w_none rfl) rfl (mv_p rfl rfl) ?_
    refine s_run (w_none rfl) rfl (d_nil rfl rfl) ?_
    refine s_run (w_none rfl) rfl (d_fa rfl rfl tf96_1) ?_
    refine s_run (w_none rfl) rfl (d_ldG rfl (H.gat hG) rfl ta30 rfl) ?_
    refine s_run (w_none rfl) rfl (as_i rfl rfl) ?_
    refine l_nil ?_
    refine k_ret ?_
    repeat (first | refine r_then ?_ | refine r_blk ?_)
    exact q_ret (v := .int _ _) rfl rfl ⟨_, rfl, vi (by rw [Pk.rEnd, if_neg (by omega)]), H.under⟩

theorem takeOk {A0 : Option Addr} {n0 c0 r : Nat} {Y : List UInt8 → Prop} {v : Value} {b : List UInt8} {s : RS} (w : World) {n : Nat} {z : Int} (hz : z = (n : Int)) (hR : (RdYB 5 96 r A0 n0 c0 Y v b s).p w) (he : s.2 = 0) (hn : n ≤ s.1.length) : Calls Tryd.prog 82 [.pointer (some ⟨r, 0, none⟩), .int .i64 z].toArray w (Ret (fun v' w' => (RdYB 5 96 r A0 n0 c0 Y v' (s.1.take n) (s.1.drop n, 0)).p w' ∧ Fr (RdT r A0 n0 c0) w w')) := by
  subst hz
  have hR0 := hR
  have hne := RdB.ne hR
  have hrow : A0 = none ∨ ∃ g, A0 = some ⟨g, 0, none⟩ := by
    obtain ⟨_, _, _, _, _, h, _⟩ := hR
    exact row_addr h
  obtain ⟨A, c, o, ys, hY, hL, hH, hn0, hc0, H0⟩ := RdB.two hR
  refine k_enter (l := [_, _]) Tryd.func82 rfl rfl ?_
  have H := H0
  refine k_seq ?_
  refine k_region ?_
  refine s_run (w_none rfl) rfl (as_s rfl rfl) ?_
  refine l_nil ?_
  refine k_seq ?_
  have hlc : s.1.length ≤ c := hL.2.2.1
  refine k_region ?_
  refine s_run (w_none rfl) rfl (mv_i rfl rfl) ?_
  refine s_run (w_none rfl) rfl (mv_p rfl rfl) ?_
  refine s_run (w_none rfl) rfl (d_nil rfl rfl) ?_
  refine s_run (w_none rfl) rfl (d_fa rfl rfl tf96_0) ?_
  refine s_run (w_none rfl) rfl (d_ld rfl H rfl ta23 rfl) ?_
  refine s_run (w_none rfl) rfl (d_len rfl rfl tu23) ?_
  refine s_run (w_none rfl) rfl (d_le rfl rfl rfl) ?_
  refine s_eff (e_call (w_none rfl) rfl rfl Tryd.func99 rfl rfl rfl (mustOk _ _ (by simp; omega)) ?_)
  rintro _ W ⟨rfl, hb⟩
  replace H := H.below hb
  clear hb
  refine l_nil ?_
  refine k_seq ?_
  refine k_region ?_
  refine s_run (w_none rfl) rfl (mv_p rfl rfl) ?_
  refine s_run (w_none rfl) rfl (d_nil rfl rfl) ?_
  refine s_run (w_none rfl) rfl (d_fa rfl rfl tf96_0) ?_
  refine s_run (w_none rfl) rfl (d_ld rfl H rfl ta23 rfl) ?_
  refine s_run (w_none rfl) rfl (mv_i rfl rfl) ?_
  refine s_run (w_none rfl) rfl (mv_i rfl rfl) ?_
  refine s_run (w_none rfl) rfl (d_cutM rfl rfl rfl (h := n) rfl rfl (by omega) rfl tu23 ts5) ?_
  refine s_run (w_none rfl) rfl (as_s rfl rfl) ?_
  refine l_nil ?_
  refine k_seq ?_
  refine k_region ?_
  refine s_run (w_none rfl) rfl (mv_p rfl rfl) ?_
  refine s_run (w_none rfl) rfl (mv_p rfl rfl) ?_
  refine s_run (w_none rfl) rfl (d_nil rfl rfl) ?_
  refine s_run (w_none rfl) rfl (d_fa rfl rfl tf96_0) ?_
  refine s_run (w_none rfl) rfl (d_ld rfl H rfl ta23 rfl) ?_
  refine s_run (w_none rfl) rfl (mv_i rfl rfl) ?_
  refine s_run (w_none rfl) rfl (d_cutS rfl rfl (l := n) rfl hn rfl tu23 ts5) ?_
  refine s_run (w_none rfl) rfl (d_nil rfl rfl) ?_
  refine s_run (w_none rfl) rfl (d_fa rfl rfl tf96_0) ?_
  refine s_eff (e_sto (w_none rfl) rfl rfl rfl rfl rfl ts23 rfl H rfl ?_)
  clear H; intro W H
  refine l_nil ?_
  refine k_seq ?_
  refine k_region ?_
  refine s_run (w_none rfl) rfl (mv_s rfl rfl) ?_
  refine s_run (w_none rfl) rfl (as_s rfl rfl) ?_
  refine l_nil ?_
  refine k_ret ?_
  repeat (first | refine r_then ?_ | refine r_blk ?_)
  exact q_ret (v := .slice _ _ _) rfl rfl ⟨_, rfl, RdB.of (o := o + n) (ys := ys) hY H hne (by rw [List.length_drop]) he (hL.step hrow he hn) (HeldP.step hL he hn), H.fr⟩

theorem takeShort {A0 : Option Addr} {n0 c0 r : Nat} {Y : List UInt8 → Prop} {v : Value} {b : List UInt8} {s : RS} (w : World) {n : Nat} {z : Int} (hz : z = (n : Int)) (hR : (RdYB 5 96 r A0 n0 c0 Y v b s).p w) (hn : s.1.length < n) : Calls Tryd.prog 82 [.pointer (some ⟨r, 0, none⟩), .int .i64 z].toArray w (Pan (why 4) (fun w' => (RdYB 5 96 r A0 n0 c0 Y v b s).p w' ∧ Fr (RdT r A0 n0 c0) w w')) := by
  subst hz
  have hR0 := hR
  have hne := RdB.ne hR
  have hrow : A0 = none ∨ ∃ g, A0 = some ⟨g, 0, none⟩ := by
    obtain ⟨_, _, _, _, _, h, _⟩ := hR
    exact row_addr h
  obtain ⟨A, c, o, ys, hY, hL, hH, hn0, hc0, H0⟩ := RdB.two hR
  refine k_enter (l := [_, _]) Tryd.func82 rfl rfl ?_
  have H := H0
  refine k_seq ?_
  refine k_region ?_
  refine s_run (w_none rfl) rfl (as_s rfl rfl) ?_
  refine l_nil ?_
  refine k_seq ?_
  refine k_region ?_
  refine s_run (w_none rfl) rfl (mv_i rfl rfl) ?_
  refine s_run (w_none rfl) rfl (mv_p rfl rfl) ?_
  refine s_run (w_none rfl) rfl (d_nil rfl rfl) ?_
  refine s_run (w_none rfl) rfl (d_fa rfl rfl tf96_0) ?_
  refine s_run (w_none rfl) rfl (d_ld rfl H rfl ta23 rfl) ?_
  refine s_run (w_none rfl) rfl (d_len rfl rfl tu23) ?_
  refine s_run (w_none rfl) rfl (d_le rfl rfl rfl) ?_
  refine s_eff (e_callP (w_none rfl) rfl Tryd.func99 rfl rfl rfl (mustBad _ _ (by simp; omega)) ?_)
  intro W hb
  replace H := H.below hb
  exact ⟨rfl, rfl, RdB.of (o := o) (ys := ys) hY H hne rfl rfl hL hH, H.fr⟩

theorem prgReadY {S : Nat → Prop} {v : Value} {l : List UInt8} (w : World) (hB : Bs w S v l) (hl : l.length ≤ 1000000000000) : Calls Tryd.prog 19 [v].toArray w (Ret (fun v w' => ∃ r A c, v = .pointer (some ⟨r, 0, none⟩) ∧ St nT w w' [RdYP 5 96 r A l.length c (· = l) (l, 0)])) := by
  obtain ⟨_, _, rfl, hcc, _, _⟩ := hB.op
  refine k_enter (l := [_]) Tryd.func19 rfl rfl ?_
  have H := St.start nT w
  refine k_seq ?_
  refine k_region ?_
  refine s_run (w_none rfl) rfl (as_p rfl rfl) ?_
  refine l_nil ?_
  refine k_seq ?_
  refine k_region ?_
  refine s_run (w_none rfl) rfl (mv_s rfl rfl) ?_
  refine s_eff (e_call (w_none rfl) rfl rfl Tryd.func70 rfl rfl rfl (clone _ (H.bs hB) (by omega)) ?_)
  rintro _ W ⟨A1, c1, rfl, hc1, hd1, hn⟩
  replace H := H.new hn
  clear hn
  refine s_run (w_none rfl) rfl (d_build (vs := [.slice A1 l.length c1, .int .i64 0]) rfl (by kernel_rfl)) ?_
  refine s_eff (e_box (w_none rfl) rfl rfl rfl rfl H ?_)
  clear H; intro g1_3 W H
  refine s_run (w_none rfl) rfl (as_p rfl rfl) ?_
  refine l_nil ?_
  refine k_ret ?_
  repeat (first | refine r_then ?_ | refine r_blk ?_)
  exact q_ret (v := .pointer _) rfl rfl ⟨_, rfl, g1_3, A1, c1, rfl, RdB.make (Y := (· = l)) rfl H rfl⟩

theorem St.weak0 {T : Nat → Prop} {w0 W : World} {f f' : Fact} {L : List Fact} (H : St T w0 W (f :: L)) (hfp : f'.fp = f.fp) (hp : f.p W → f'.p W) : St T w0 W (f' :: L) := H.turn0 Fr.refl (hp (H.holds _ (.head _))) (fun g hg => .inl (hfp ▸ hg))
theorem RdB.forget {u t r n0 c0 : Nat} {A0 : Option Addr} {v : Value} {b : List UInt8} {s : RS} {Y : List UInt8 → Prop} {W : World} (h : (RdYB u t r A0 n0 c0 Y v b s).p W) : (RdB u t r A0 n0 c0 v b s).p W := by
  obtain ⟨A, c, o, ys, h1, h2, h3, h4, h5, _⟩ := h
  exact ⟨A, c, o, ys, h1, h2, h3, h4, h5, trivial⟩
theorem prgRead {S : Nat → Prop} {v : Value} {l : List UInt8} (w : World) (hB : Bs w S v l) (hl : l.length ≤ 1000000000000) : Calls Tryd.prog 19 [v].toArray w (Ret (fun v w' => ∃ r A c, v = .pointer (some ⟨r, 0, none⟩) ∧ St nT w w' [RdP 5 96 r A l.length c (l, 0)])) :=
  Calls.mono (prgReadY w hB hl) (fun e w' h => by
    obtain ⟨x, h1, r, A, c, h2, h3⟩ := h
    exact ⟨x, h1, r, A, c, h2, h3.weak0 rfl RdB.forget⟩)

theorem formIs {z : Int} {x y : Value} {q : Nat} {b : UInt8} (w : World) (hx : x.oneCell' = true) (hy : y.oneCell' = true) (hq : Gat w q [u8v b]) : Calls Tryd.prog 101 [.agg [.int .u8 z, x, y].toArray, .pointer (some ⟨q, 0, none⟩)].toArray w (Ret (Is w (.bool (z == (b.toNat : Int))))) := by
  refine k_enter (l := [_, _]) Tryd.func101 rfl rfl ?_
  have H := St.start nT w
  refine k_seq ?_
  refine k_region ?_
  refine s_eff (e_box (w_none rfl) rfl rfl rfl rfl H ?_)
  clear H; intro g0_0 W H
  refine s_run (w_none rfl) rfl (as_b rfl rfl) ?_
  refine l_nil ?_
  refine k_seq ?_
  refine k_region ?_
  refine s_run (w_none rfl) rfl (d_fa rfl rfl tf91_0) ?_
  refine s_run (w_none rfl) rfl (d_ld rfl H rfl ta5 rfl) ?_
  refine s_run (w_none rfl) rfl (d_ldG rfl (H.gat hq) rfl ta5 rfl) ?_
  refine s_run (w_none rfl) rfl (d_eq rfl rfl rfl) ?_
  refine s_run (w_none rfl) rfl (as_b rfl rfl) ?_
  refine l_nil ?_
  refine k_ret ?_
  repeat (first | refine r_then ?_ | refine r_blk ?_)
  exact q_ret (v := .bool _) rfl rfl ⟨_, rfl, rfl, H.under⟩

def idxF (b : UInt8) : Int := if b = 253 then 0 else if b = 254 then 1 else if b = 255 then 2 else -1
theorem idx_0 {b : UInt8} (h : ((253 : Int) == (b.toNat : Int)) = true) : b = 253 := UInt8.toNat_inj.1 (by have := eq_of_beq h; simp; omega)
theorem idx_1 {b : UInt8} (h : ((254 : Int) == (b.toNat : Int)) = true) : b = 254 := UInt8.toNat_inj.1 (by have := eq_of_beq h; simp; omega)
theorem idx_2 {b : UInt8} (h : ((255 : Int) == (b.toNat : Int)) = true) : b = 255 := UInt8.toNat_inj.1 (by have := eq_of_beq h; simp; omega)
theorem idx_n0 {b : UInt8} (h : ((253 : Int) == (b.toNat : Int)) = false) : ¬ b = 253 := fun e => by subst e; simp at h
theorem idx_n1 {b : UInt8} (h : ((254 : Int) == (b.toNat : Int)) = false) : ¬ b = 254 := fun e => by subst e; simp at h
theorem idx_n2 {b : UInt8} (h : ((255 : Int) == (b.toNat : Int)) = false) : ¬ b = 255 := fun e => by subst e; simp at h
theorem indexF {q : Nat} {b : UInt8} (w : World) (hG : Gat w 0 formsC) (hq : Gat w q [u8v b]) : Calls Tryd.prog 100 [.slice (some ⟨0, 0, none⟩) 3 3, .func (.func 101) #[] [.pointer (some ⟨q, 0, none⟩)].toArray].toArray w (Ret (Is w (.int .i64 (idxF b)))) := by
  refine k_enter (l := [_, _]) Tryd.func100 rfl rfl ?_
  have H := St.start nT w
  refine k_seq ?_
  refine k_region ?_
  refine s_run (w_none rfl) rfl (as_i rfl rfl) ?_
  refine l_nil ?_
  refine k_seq ?_
  refine k_seq ?_
  refine k_region ?_
  refine s_run (w_none rfl) rfl (mv_s rfl rfl) ?_
  refine s_run (w_none rfl) rfl (d_len rfl rfl tu94) ?_
  refine s_run (w_none rfl) rfl (mv_i rfl rfl) ?_
  refine l_nil ?_
  refine k_block ?_
  refine k_unr (k_one ?_)
  refine k_seq ?_
  refine k_region ?_
  refine s_run (w_none rfl) rfl (d_lt rfl rfl rfl) ?_
  refine l_nil ?_
  refine k_seq ?_
  refine k_condT rfl (by first | (simp; done) | (simp; omega)) ?_
  refine k_skip ?_
  refine k_seq ?_
  refine k_block ?_
  refine k_seq ?_
  refine k_region ?_
  refine s_run (w_none rfl) rfl (mv_i rfl rfl) ?_
  refine s_run (w_none rfl) rfl (as_i rfl rfl) ?_
  refine l_nil ?_
  refine k_seq ?_
  refine k_region ?_
  refine s_run (w_none rfl) rfl (mv_f rfl rfl) ?_
  refine s_run (w_none rfl) rfl (mv_s rfl rfl) ?_
  refine s_run (w_none rfl) rfl (mv_i rfl rfl) ?_
  refine s_run (w_none rfl) rfl (d_iaS rfl ((H.gat hG).rd rfl) rfl rfl (q := 0) rfl (by decide) tu94 ts91) ?_
  refine s_run (w_none rfl) rfl (d_ldmG (m := 3) (i := 0) rfl (H.gat hG) rfl ta91 ts91 rfl) ?_
  refine s_eff (e_callv (w_none rfl) rfl rfl rfl Tryd.func101 rfl rfl rfl (formIs _ rfl rfl (H.gat hq)) ?_)
  rintro _ W ⟨rfl, hb⟩
  replace H := H.below hb
  clear hb
  refine l_nil ?_
  refine k_cond rfl (fun hc16 => ?_) (fun hc16 => ?_)
  · have e1 := idx_0 hc16
    refine k_seq ?_
    refine k_region ?_
    refine s_run (w_none rfl) rfl (mv_i rfl rfl) ?_
    refine s_run (w_none rfl) rfl (as_i rfl rfl) ?_
    refine l_nil ?_
    refine k_ret ?_
    repeat (first | refine r_then ?_ | refine r_blk ?_)
    exact q_ret (v := .int _ _) rfl rfl ⟨_, rfl, vi (by unfold idxF; rw [if_pos e1]), H.under⟩
  · have e1 := idx_n0 hc16
    refine k_skip ?_
    refine k_nil ?_
    refine b_end ?_
    refine k_region ?_
    refine s_run (w_none rfl) rfl (d_add rfl rfl rfl (by omega)) ?_
    refine s_run (w_none rfl) rfl (mv_i rfl rfl) ?_
    refine l_nil ?_
    refine k_nil ?_
    refine k_next (hd_of (k_one ?_))
    refine k_seq ?_
    refine k_region ?_
    refine s_run (w_none rfl) rfl (d_lt rfl rfl rfl) ?_
    refine l_nil ?_
    refine k_seq ?_
    refine k_condT rfl (by first | (simp; done) | (simp; omega)) ?_
    refine k_skip ?_
    refine k_seq ?_
    refine k_block ?_
    refine k_seq ?_
    refine k_region ?_
    refine s_run (w_none rfl) rfl (mv_i rfl rfl) ?_
    refine s_run (w_none rfl) rfl (as_i rfl rfl) ?_
    refine l_nil ?_
    refine k_seq ?_
    refine k_region ?_
    refine s_run (w_none rfl) rfl (mv_f rfl rfl) ?_
    refine s_run (w_none rfl) rfl (mv_s rfl rfl) ?_
    refine s_run (w_none rfl) rfl (mv_i rfl rfl) ?_
    refine s_run (w_none rfl) rfl (d_iaS rfl ((H.gat hG).rd rfl) rfl rfl (q := 1) rfl (by decide) tu94 ts91) ?_
    refine s_run (w_none rfl) rfl (d_ldmG (m := 3) (i := 3) rfl (H.gat hG) rfl ta91 ts91 rfl) ?_
    refine s_eff (e_callv (w_none rfl) rfl rfl rfl Tryd.func101 rfl rfl rfl (formIs _ rfl rfl (H.gat hq)) ?_)
    rintro _ W ⟨rfl, hb⟩
    replace H := H.below hb
    clear hb
    refine l_nil ?_
    refine k_cond rfl (fun hc16 => ?_) (fun hc16 => ?_)
    · have e2 := idx_1 hc16
      refine k_seq ?_
      refine k_region ?_
      refine s_run (w_none rfl) rfl (mv_i rfl rfl) ?_
      refine s_run (w_none rfl) rfl (as_i rfl rfl) ?_
      refine l_nil ?_
      refine k_ret ?_
      repeat (first | refine r_then ?_ | refine r_blk ?_)
      exact q_ret (v := .int _ _) rfl rfl ⟨_, rfl, vi (by unfold idxF; rw [if_neg e1, if_pos e2]; rfl), H.under⟩
    · have e2 := idx_n1 hc16
      refine k_skip ?_
      refine k_nil ?_
      refine b_end ?_
      refine k_region ?_
      refine s_run (w_none rfl) rfl (d_add rfl rfl rfl (by omega)) ?_
      refine s_run (w_none rfl) rfl (mv_i rfl rfl) ?_
      refine l_nil ?_
      refine k_nil ?_
      refine k_next (hd_of (k_one ?_))
      refine k_seq ?_
      refine k_region ?_
      refine s_run (w_none rfl) rfl (d_lt rfl rfl rfl) ?_
      refine l_nil ?_
      refine k_seq ?_
      refine k_condT rfl (by first | (simp; done) | (simp; omega)) ?_
      refine k_skip ?_
      refine k_seq ?_
      refine k_block ?_
      refine k_seq ?_
      refine k_region ?_
      refine s_run (w_none rfl) rfl (mv_i rfl rfl) ?_
      refine s_run (w_none rfl) rfl (as_i rfl rfl) ?_
      refine l_nil ?_
      refine k_seq ?_
      refine k_region ?_
      refine s_run (w_none rfl) rfl (mv_f rfl rfl) ?_
      refine s_run (w_none rfl) rfl (mv_s rfl rfl) ?_
      refine s_run (w_none rfl) rfl (mv_i rfl rfl) ?_
      refine s_run (w_none rfl) rfl (d_iaS rfl ((H.gat hG).rd rfl) rfl rfl (q := 2) rfl (by decide) tu94 ts91) ?_
      refine s_run (w_none rfl) rfl (d_ldmG (m := 3) (i := 6) rfl (H.gat hG) rfl ta91 ts91 rfl) ?_
      refine s_eff (e_callv (w_none rfl) rfl rfl rfl Tryd.func101 rfl rfl rfl (formIs _ rfl rfl (H.gat hq)) ?_)
      rintro _ W ⟨rfl, hb⟩
      replace H := H.below hb
      clear hb
      refine l_nil ?_
      refine k_cond rfl (fun hc16 => ?_) (fun hc16 => ?_)
      · have e3 := idx_2 hc16
        refine k_seq ?_
        refine k_region ?_
        refine s_run (w_none rfl) rfl (mv_i rfl rfl) ?_
        refine s_run (w_none rfl) rfl (as_i rfl rfl) ?_
        refine l_nil ?_
        refine k_ret ?_
        repeat (first | refine r_then ?_ | refine r_blk ?_)
        exact q_ret (v := .int _ _) rfl rfl ⟨_, rfl, vi (by unfold idxF; rw [if_neg e1, if_neg e2, if_pos e3]; rfl), H.under⟩
      · have e3 := idx_n2 hc16
        refine k_skip ?_
        refine k_nil ?_
        refine b_end ?_
        refine k_region ?_
        refine s_run (w_none rfl) rfl (d_add rfl rfl rfl (by omega)) ?_
        refine s_run (w_none rfl) rfl (mv_i rfl rfl) ?_
        refine l_nil ?_
        refine k_nil ?_
        refine k_next (hd_of (k_one ?_))
        refine k_seq ?_
        refine k_region ?_
        refine s_run (w_none rfl) rfl (d_lt rfl rfl rfl) ?_
        refine l_nil ?_
        refine k_seq ?_
        refine k_condF rfl (by first | (simp; done) | (simp; omega)) ?_
        refine k_exit ?_
        refine x_then (x_then ?_)
        refine x_hit ?_
        refine k_seq ?_
        refine k_region ?_
        refine s_run (w_none rfl) rfl (as_i rfl rfl) ?_
        refine l_nil ?_
        refine k_ret ?_
        repeat (first | refine r_then ?_ | refine r_blk ?_)
        exact q_ret (v := .int _ _) rfl rfl ⟨_, rfl, vi (by unfold idxF; rw [if_neg e1, if_neg e2, if_neg e3]), H.under⟩

theorem Pk.next_s {n : Nat} {s s' : RS} {l : List UInt8} (h : Pk.next n s = (l, s')) (he : s.2 = 0) : (s'.2 = 0 → n ≤ s.1.length ∧ l = s.1.take n ∧ s' = (s.1.drop n, 0)) ∧ (s'.2 ≠ 0 → s.1.length < n ∧ s' = ([], 4)) := by
  rcases Nat.lt_or_ge s.1.length n with hn | hn
  · rw [Pk.next_short he hn] at h
    cases h
    exact ⟨fun h => absurd h (by decide), fun _ => ⟨hn, rfl⟩⟩
  · rw [Pk.next_ok he hn] at h
    cases h
    exact ⟨fun _ => ⟨hn, rfl, rfl⟩, fun h => absurd rfl h⟩
theorem takeE {A0 : Option Addr} {n0 c0 r : Nat} {Y : List UInt8 → Prop} {v : Value} {b : List UInt8} {s : RS} (w : World) {n : Nat} {z : Int} {l : List UInt8} {s' : RS} (hx : Pk.next n s = (l, s')) (hz : z = (n : Int)) (hR : (RdYB 5 96 r A0 n0 c0 Y v b s).p w) (he : s.2 = 0) (hs : s'.2 = 0) : Calls Tryd.prog 82 [.pointer (some ⟨r, 0, none⟩), .int .i64 z].toArray w (Ret (fun v' w' => (RdYB 5 96 r A0 n0 c0 Y v' l s').p w' ∧ Fr (RdT r A0 n0 c0) w w')) := by
  obtain ⟨h1, rfl, rfl⟩ := (Pk.next_s hx he).1 hs
  exact takeOk w hz hR he h1
theorem takeSE {A0 : Option Addr} {n0 c0 r : Nat} {Y : List UInt8 → Prop} {v : Value} {b : List UInt8} {s : RS} (w : World) {n : Nat} {z : Int} {l : List UInt8} {s' : RS} (hx : Pk.next n s = (l, s')) (hz : z = (n : Int)) (hR : (RdYB 5 96 r A0 n0 c0 Y v b s).p w) (he : s.2 = 0) (hs : s'.2 ≠ 0) : Calls Tryd.prog 82 [.pointer (some ⟨r, 0, none⟩), .int .i64 z].toArray w (Pan (why 4) (fun w' => (RdYB 5 96 r A0 n0 c0 Y v b s).p w' ∧ Fr (RdT r A0 n0 c0) w w')) :=
  takeShort w hz hR ((Pk.next_s hx he).2 hs).1
theorem idx_neg {b : UInt8} (h : Pk.wide b = 0) : idxF b = -1 := by
  unfold Pk.wide at h
  unfold idxF
  split at h
  · omega
  · rename_i h1
    rw [if_neg h1]
    split at h
    · omega
    · rename_i h2
      rw [if_neg h2]
      split at h
      · omega
      · rename_i h3; rw [if_neg h3]
theorem idx_pos {b : UInt8} (h : Pk.wide b ≠ 0) : ∃ j : Nat, idxF b = (j : Int) ∧ j < 3 ∧ formsC[0 + j * 3 + 1]? = some (.int .i64 (Pk.wide b : Int)) ∧ formsC[0 + j * 3 + 2]? = some (.int .u64 (Pk.least b : Int)) := by
  unfold Pk.wide Pk.least idxF at *
  by_cases h1 : b = 253
  · exact ⟨0, by rw [if_pos h1]; rfl, by omega, by rw [if_pos h1]; rfl, by rw [if_pos h1]; rfl⟩
  · by_cases h2 : b = 254
    · exact ⟨1, by rw [if_neg h1, if_pos h2]; rfl, by omega, by rw [if_neg h1, if_pos h2]; rfl, by rw [if_neg h1, if_pos h2]; rfl⟩
    · by_cases h3 : b = 255
      · exact ⟨2, by rw [if_neg h1, if_neg h2, if_pos h3]; rfl, by omega, by rw [if_neg h1, if_neg h2, if_pos h3]; rfl, by rw [if_neg h1, if_neg h2]; rfl⟩
      · rw [if_neg h1, if_neg h2, if_neg h3] at h; exact absurd rfl h

theorem numA {A0 : Option Addr} {n0 c0 r : Nat} {Y : List UInt8 → Prop} {v : Value} {b : List UInt8} {s : RS} (w : World) {s1 : RS} {l : List UInt8} (hR : (RdYB 5 96 r A0 n0 c0 Y v b s).p w) (hG : Gat w 0 formsC) (hT : ¬ RdT r A0 n0 c0 0) (he : s.2 = 0) (h1 : Pk.next 1 s = (l, s1)) (h1e : s1.2 ≠ 0) : Calls Tryd.prog 72 [.pointer (some ⟨r, 0, none⟩)].toArray w (Pan (why 4) (fun w' => (∃ s', (RdYP 5 96 r A0 n0 c0 Y s').p w') ∧ Fr (RdT r A0 n0 c0) w w')) := by
  refine k_enter (l := [_]) Tryd.func72 rfl rfl ?_
  have H := St.begin (f := RdYB 5 96 r A0 n0 c0 Y v b s) hR (RdB.lt hR)
  refine k_seq ?_
  refine k_region ?_
  refine s_run (w_none rfl) rfl (as_i rfl rfl) ?_
  refine l_nil ?_
  refine k_seq ?_
  refine k_region ?_
  refine s_run (w_none rfl) rfl (mv_p rfl rfl) ?_
  refine s_eff (e_callP (w_none rfl) rfl Tryd.func82 rfl rfl rfl (takeSE _ h1 (by rfl) (H.get (f := RdYB 5 96 r A0 n0 c0 Y v b s)) he h1e) ?_)
  rintro W ⟨hp, hf⟩
  replace H := H.mut (f := RdYB 5 96 r A0 n0 c0 Y v b s) (f' := RdYB 5 96 r A0 n0 c0 Y v b s) hf hp (fun _ h => h)
  exact ⟨rfl, rfl, ⟨_, RdB.toP (H.get (f := RdYB 5 96 r A0 n0 c0 Y v b s))⟩, H.fr⟩

theorem numC {A0 : Option Addr} {n0 c0 r : Nat} {Y : List UInt8 → Prop} {v : Value} {b : List UInt8} {s : RS} (w : World) {s1 : RS} {b0 : UInt8} (hR : (RdYB 5 96 r A0 n0 c0 Y v b s).p w) (hG : Gat w 0 formsC) (hT : ¬ RdT r A0 n0 c0 0) (he : s.2 = 0) (h1 : Pk.next 1 s = ([b0], s1)) (h1e : s1.2 = 0) (hw : Pk.wide b0 = 0) : Calls Tryd.prog 72 [.pointer (some ⟨r, 0, none⟩)].toArray w (Ret (fun v' w' => v' = .int .i64 (b0.toNat : Int) ∧ (RdYP 5 96 r A0 n0 c0 Y s1).p w' ∧ Fr (RdT r A0 n0 c0) w w')) := by
  refine k_enter (l := [_]) Tryd.func72 rfl rfl ?_
  have H := St.begin (f := RdYB 5 96 r A0 n0 c0 Y v b s) hR (RdB.lt hR)
  refine k_seq ?_
  refine k_region ?_
  refine s_run (w_none rfl) rfl (as_i rfl rfl) ?_
  refine l_nil ?_
  refine k_seq ?_
  refine k_region ?_
  refine s_run (w_none rfl) rfl (mv_p rfl rfl) ?_
  refine s_eff (e_call (w_none rfl) rfl rfl Tryd.func82 rfl rfl rfl (takeE _ h1 (by rfl) (H.get (f := RdYB 5 96 r A0 n0 c0 Y v b s)) he h1e) ?_)
  rintro _ W ⟨hp1, hf1⟩
  obtain ⟨B1, d1, rfl⟩ := RdB.form hp1
  replace H := H.mut (f := RdYB 5 96 r A0 n0 c0 Y v b s) (f' := RdYB 5 96 r A0 n0 c0 Y (.slice B1 (List.length [b0]) d1) [b0] s1) hf1 hp1 (fun _ h => h)
  clear hp1 hf1
  refine s_run (w_none rfl) rfl (d_iaB rfl (RdB.rd (H.get (f := RdYB 5 96 r A0 n0 c0 Y (.slice B1 (List.length [b0]) d1) [b0] s1))) rfl rfl (q := 0) rfl (by exact Nat.zero_lt_one) tu23 ts5) ?_
  refine s_run (w_none rfl) rfl (d_ldB rfl (RdB.rd (H.get (f := RdYB 5 96 r A0 n0 c0 Y (.slice B1 (List.length [b0]) d1) [b0] s1))) ((rfl : [b0][0]? = some b0)) rfl ta5) ?_
  refine s_eff (e_alloc (w_none rfl) rfl rfl [.int .u8 0] tz5 H ?_)
  clear H; intro g3 W H
  refine s_eff (e_sto (w_none rfl) rfl rfl rfl rfl rfl ts5 rfl H rfl ?_)
  clear H; intro W H
  refine l_nil ?_
  refine k_seq ?_
  refine k_region ?_
  refine s_run (w_none rfl) rfl (d_arrA rfl rfl tu92 ts91) ?_
  refine s_run (w_none rfl) rfl (d_mkf rfl rfl rfl) ?_
  refine s_eff (e_call (w_none rfl) rfl rfl Tryd.func100 rfl rfl rfl (indexF _ (H.gatT hG hT) (gat_of H.blk)) ?_)
  rintro _ W ⟨rfl, hb⟩
  replace H := H.below hb
  clear hb
  refine s_run (w_none rfl) rfl (as_i rfl rfl) ?_
  refine l_nil ?_
  refine k_seq ?_
  refine k_seq ?_
  refine k_region ?_
  refine s_run (w_none rfl) rfl (mv_i rfl rfl) ?_
  refine s_run (w_none rfl) rfl (d_lt rfl rfl rfl) ?_
  refine l_nil ?_
  refine k_condT rfl (by rw [idx_neg hw]; rfl) ?_
  refine k_seq ?_
  refine k_region ?_
  refine s_run (w_none rfl) rfl (d_ld rfl H rfl ta5 rfl) ?_
  refine s_run (w_none rfl) rfl (d_conv rfl rfl (by rw [tu5]; rfl) tu3 (IntWalk.i64_in _ (by have := b0.toNat_lt; omega))) ?_
  refine s_run (w_none rfl) rfl (as_i rfl rfl) ?_
  refine l_nil ?_
  refine k_ret ?_
  repeat (first | refine r_then ?_ | refine r_blk ?_)
  exact q_ret (v := .int _ _) rfl rfl ⟨_, rfl, rfl, RdB.toP (H.get (f := RdYB 5 96 r A0 n0 c0 Y (.slice B1 (List.length [b0]) d1) [b0] s1)), H.fr⟩

theorem numD {A0 : Option Addr} {n0 c0 r : Nat} {Y : List UInt8 → Prop} {v : Value} {b : List UInt8} {s : RS} (w : World) {s1 s2 : RS} {b0 : UInt8} {l : List UInt8} (hR : (RdYB 5 96 r A0 n0 c0 Y v b s).p w) (hG : Gat w 0 formsC) (hT : ¬ RdT r A0 n0 c0 0) (he : s.2 = 0) (h1 : Pk.next 1 s = ([b0], s1)) (h1e : s1.2 = 0) (hw : Pk.wide b0 ≠ 0) (h2 : Pk.next (Pk.wide b0) s1 = (l, s2)) (h2e : s2.2 ≠ 0) : Calls Tryd.prog 72 [.pointer (some ⟨r, 0, none⟩)].toArray w (Pan (why 4) (fun w' => (∃ s', (RdYP 5 96 r A0 n0 c0 Y s').p w') ∧ Fr (RdT r A0 n0 c0) w w')) := by
  refine k_enter (l := [_]) Tryd.func72 rfl rfl ?_
  have H := St.begin (f := RdYB 5 96 r A0 n0 c0 Y v b s) hR (RdB.lt hR)
  refine k_seq ?_
  refine k_region ?_
  refine s_run (w_none rfl) rfl (as_i rfl rfl) ?_
  refine l_nil ?_
  refine k_seq ?_
  refine k_region ?_
  refine s_run (w_none rfl) rfl (mv_p rfl rfl) ?_
  refine s_eff (e_call (w_none rfl) rfl rfl Tryd.func82 rfl rfl rfl (takeE _ h1 (by rfl) (H.get (f := RdYB 5 96 r A0 n0 c0 Y v b s)) he h1e) ?_)
  rintro _ W ⟨hp1, hf1⟩
  obtain ⟨B1, d1, rfl⟩ := RdB.form hp1
  replace H := H.mut (f := RdYB 5 96 r A0 n0 c0 Y v b s) (f' := RdYB 5 96 r A0 n0 c0 Y (.slice B1 (List.length [b0]) d1) [b0] s1) hf1 hp1 (fun _ h => h)
  clear hp1 hf1
  refine s_run (w_none rfl) rfl (d_iaB rfl (RdB.rd (H.get (f := RdYB 5 96 r A0 n0 c0 Y (.slice B1 (List.length [b0]) d1) [b0] s1))) rfl rfl (q := 0) rfl (by exact Nat.zero_lt_one) tu23 ts5) ?_
  refine s_run (w_none rfl) rfl (d_ldB rfl (RdB.rd (H.get (f := RdYB 5 96 r A0 n0 c0 Y (.slice B1 (List.length [b0]) d1) [b0] s1))) ((rfl : [b0][0]? = some b0)) rfl ta5) ?_
  refine s_eff (e_alloc (w_none rfl) rfl rfl [.int .u8 0] tz5 H ?_)
  clear H; intro g3 W H
  refine s_eff (e_sto (w_none rfl) rfl rfl rfl rfl rfl ts5 rfl H rfl ?_)
  clear H; intro W H
  refine l_nil ?_
  refine k_seq ?_
  refine k_region ?_
  refine s_run (w_none rfl) rfl (d_arrA rfl rfl tu92 ts91) ?_
  refine s_run (w_none rfl) rfl (d_mkf rfl rfl rfl) ?_
  refine s_eff (e_call (w_none rfl) rfl rfl Tryd.func100 rfl rfl rfl (indexF _ (H.gatT hG hT) (gat_of H.blk)) ?_)
  rintro _ W ⟨rfl, hb⟩
  replace H := H.below hb
  clear hb
  refine s_run (w_none rfl) rfl (as_i rfl rfl) ?_
  refine l_nil ?_
  refine k_seq ?_
  refine k_seq ?_
  obtain ⟨j, hj1, hj2, hj3, hj4⟩ := idx_pos hw
  refine k_region ?_
  refine s_run (w_none rfl) rfl (mv_i rfl rfl) ?_
  refine s_run (w_none rfl) rfl (d_lt rfl rfl rfl) ?_
  refine l_nil ?_
  refine k_condF rfl (by rw [hj1]; simp) ?_
  refine k_skip ?_
  refine k_seq ?_
  refine k_region ?_
  refine s_eff (e_alloc (w_none rfl) rfl rfl [.int .u64 0] tz22 H ?_)
  clear H; intro g5 W H
  refine s_eff (e_sto (w_none rfl) rfl rfl rfl rfl rfl ts22 rfl H rfl ?_)
  clear H; intro W H
  refine l_nil ?_
  refine k_seq ?_
  refine k_seq ?_
  refine k_region ?_
  refine s_run (w_none rfl) rfl (mv_p rfl rfl) ?_
  refine s_run (w_none rfl) rfl (mv_i rfl rfl) ?_
  refine s_run (w_none rfl) rfl (d_iaA rfl rfl rfl (q := j) hj1 tu92 hj2 ts91) ?_
  refine s_run (w_none rfl) rfl (d_fa rfl rfl tf91_1) ?_
  refine s_run (w_none rfl) rfl (d_ldG rfl (H.gatT hG hT) rfl ta3 hj3) ?_
  refine s_eff (e_callP (w_none rfl) rfl Tryd.func82 rfl rfl rfl (takeSE _ h2 (by rfl) (H.get (f := RdYB 5 96 r A0 n0 c0 Y (.slice B1 (List.length [b0]) d1) [b0] s1)) h1e h2e) ?_)
  rintro W ⟨hp, hf⟩
  replace H := H.mut (f := RdYB 5 96 r A0 n0 c0 Y (.slice B1 (List.length [b0]) d1) [b0] s1) (f' := RdYB 5 96 r A0 n0 c0 Y (.slice B1 (List.length [b0]) d1) [b0] s1) hf hp (fun _ h => h)
  exact ⟨rfl, rfl, ⟨_, RdB.toP (H.get (f := RdYB 5 96 r A0 n0 c0 Y (.slice B1 (List.length [b0]) d1) [b0] s1))⟩, H.fr⟩
end Go.Proofs.YtejaohlijaodjaaDoor
