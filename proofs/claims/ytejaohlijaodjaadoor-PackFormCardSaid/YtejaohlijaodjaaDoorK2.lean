/- What is laid: chapter 3. -/
import Derived.Test.YtejaohlijaodjaaDoorK1
import Derived.Test.YtejaohlijaodjaaDoorPkSpec
namespace Go.Proofs.YtejaohlijaodjaaDoor
open Go Go.RowKit
attribute [local irreducible] wpList

theorem sl_eq {A : Option Addr} {m n c : Nat} (h : m = n) : Value.slice A m c = .slice A n c := by rw [h]
/-- pack's forms, as they lie. -/
def formsC : List Value := [.int .u8 253, .int .i64 2, .int .u64 253, .int .u8 254, .int .i64 4, .int .u64 65536, .int .u8 255, .int .i64 8, .int .u64 4294967296]

theorem grow_nil (q : Nat) (z : Int) (w : World) (hz : z = (q : Int)) (hq : q ≤ 1099511627776) :
    Calls Tryd.prog 117 [.slice none 0 0, .int .i64 z].toArray w (Ret fun v w' => ∃ A c, v = .slice A 0 c ∧ c ≤ 9223372036854775807 ∧ New w w' (Fact.row 5 1 (.slice A 0 c) 0 [])) := by
  subst hz
  refine k_enter (l := [_, _]) Tryd.func117 rfl rfl ?_
  have H := St.start nT w
  refine k_seq ?_
  refine k_region ?_
  refine s_run (w_none rfl) rfl (as_s rfl rfl) ?_
  refine l_nil ?_
  refine k_seq ?_
  refine k_seq ?_
  refine k_region ?_
  refine s_run (w_none rfl) rfl (mv_i rfl rfl) ?_
  refine s_run (w_none rfl) rfl (d_lt rfl rfl rfl) ?_
  refine l_nil ?_
  refine k_condF rfl (by first | (simp; done) | (simp; omega)) ?_
  refine k_skip ?_
  refine k_seq ?_
  refine k_seq ?_
  refine k_region ?_
  refine s_run (w_none rfl) rfl (mv_i rfl rfl) ?_
  refine s_run (w_none rfl) rfl (mv_s rfl rfl) ?_
  refine s_run (w_none rfl) rfl (d_cap rfl rfl tu23) ?_
  refine s_run (w_none rfl) rfl (mv_s rfl rfl) ?_
  refine s_run (w_none rfl) rfl (d_len rfl rfl tu23) ?_
  refine s_run (w_none rfl) rfl (d_sub rfl rfl rfl (by omega)) ?_
  refine s_run (w_none rfl) rfl (d_sub rfl rfl rfl (by omega)) ?_
  refine s_run (w_none rfl) rfl (as_i rfl rfl) ?_
  refine l_nil ?_
  refine k_seq ?_
  refine k_region ?_
  refine s_run (w_none rfl) rfl (mv_i rfl rfl) ?_
  refine s_run (w_none rfl) rfl (d_gt rfl rfl rfl) ?_
  refine l_nil ?_
  refine k_cond rfl (fun hc16 => ?_) (fun hc16 => ?_)
  · first | (replace hc16 := of_decide_eq_true hc16) | simp at hc16
    refine k_region ?_
    refine s_run (w_none rfl) rfl (mv_s rfl rfl) ?_
    refine s_run (w_none rfl) rfl (mv_s rfl rfl) ?_
    refine s_run (w_none rfl) rfl (d_cap rfl rfl tu23) ?_
    refine s_run (w_none rfl) rfl (d_cutP rfl rfl (h := 0) rfl (by omega) rfl tu23 ts5) ?_
    refine s_run (w_none rfl) rfl (mv_i rfl rfl) ?_
    refine s_eff (e_appz (w_none rfl) rfl rfl tu23 tu3 (by kernel_rfl) rfl rfl (q := q) (by omega) (by omega) (by omega) H ?_)
    clear H; intro A1 c1 W hc1 hd1 H
    refine s_run (w_none rfl) rfl (mv_s rfl rfl) ?_
    refine s_run (w_none rfl) rfl (d_len rfl rfl tu23) ?_
    have hs : A1.isSome = true := row_some (H.rowrd (A := A1)) (by omega)
    replace H := H.rowcut (q := 0) (Nat.zero_le _) hs
    rw [Nat.zero_mul, List.take_zero] at H
    refine s_run (w_none rfl) rfl (d_cutP rfl rfl (h := 0) rfl (by omega) rfl tu23 ts5) ?_
    refine s_run (w_none rfl) rfl (as_s rfl rfl) ?_
    refine l_nil ?_
    refine k_seq ?_
    refine k_region ?_
    refine s_run (w_none rfl) rfl (mv_s rfl rfl) ?_
    refine s_run (w_none rfl) rfl (as_s rfl rfl) ?_
    refine l_nil ?_
    refine k_ret ?_
    repeat (first | refine r_then ?_ | refine r_blk ?_)
    exact q_ret (v := .slice _ _ _) rfl rfl ⟨_, rfl, _, _, rfl, hd1, H.give⟩
  · first | (replace hc16 := of_decide_eq_false hc16) | simp at hc16
    refine k_skip ?_
    refine k_seq ?_
    refine k_region ?_
    refine s_run (w_none rfl) rfl (mv_s rfl rfl) ?_
    refine s_run (w_none rfl) rfl (as_s rfl rfl) ?_
    refine l_nil ?_
    refine k_ret ?_
    repeat (first | refine r_then ?_ | refine r_blk ?_)
    replace H := H.nilrow 5 1
    exact q_ret (v := .slice _ _ _) rfl rfl ⟨_, rfl, _, _, rfl, by omega, H.give⟩

theorem concat2 {S S1 S2 : Nat → Prop} {A B C : Option Addr} {n m c d e : Nat} {l r : List UInt8} (w : World) (hs : Rd w S 1 C 2 [.slice A n c, .slice B m d]) (ha : Rd w S1 1 A n (l.map u8v)) (hb : Rd w S2 1 B m (r.map u8v)) (hl : n + m ≤ 1000000000000) :
    Calls Tryd.prog 97 [.slice C 2 e].toArray w (Ret (NewB 5 w (l ++ r))) := by
  have hn : l.length = n := by simpa using ha.1
  have hm : r.length = m := by simpa using hb.1
  refine k_enter (l := [_]) Tryd.func97 rfl rfl ?_
  have H := St.start nT w
  refine k_seq ?_
  refine k_region ?_
  refine s_run (w_none rfl) rfl (as_s rfl rfl) ?_
  refine l_nil ?_
  refine k_seq ?_
  refine k_region ?_
  refine s_run (w_none rfl) rfl (as_i rfl rfl) ?_
  refine l_nil ?_
  refine k_seq ?_
  refine k_seq ?_
  refine k_region ?_
  refine s_run (w_none rfl) rfl (mv_s rfl rfl) ?_
  refine s_run (w_none rfl) rfl (d_len rfl rfl tu45) ?_
  refine s_run (w_none rfl) rfl (mv_i rfl rfl) ?_
  refine l_nil ?_
  refine k_block ?_
  refine k_unr (k_one ?_)
  refine k_seq ?_
  refine k_region ?_
  refine s_run (w_none rfl) rfl (d_lt rfl rfl rfl) ?_
  refine l_nil ?_
  refine k_seq ?_
  refine k_condT rfl (by first | (simp; done) | (simp; omega)) ?_
  refine k_skip ?_
  refine k_seq ?_
  refine k_block ?_
  refine k_seq ?_
  refine k_region ?_
  refine s_run (w_none rfl) rfl (d_iaS rfl (H.rd hs) rfl rfl (q := 0) rfl (by omega) tu45 ts23) ?_
  refine s_run (w_none rfl) rfl (d_ldR0 rfl (H.rd hs) rfl ta23 rfl) ?_
  refine s_run (w_none rfl) rfl (as_s rfl rfl) ?_
  refine l_nil ?_
  refine k_seq ?_
  refine k_region ?_
  refine s_run (w_none rfl) rfl (mv_i rfl rfl) ?_
  refine s_run (w_none rfl) rfl (mv_s rfl rfl) ?_
  refine s_run (w_none rfl) rfl (d_len rfl rfl tu23) ?_
  refine s_run (w_none rfl) rfl (d_add rfl rfl rfl (by omega)) ?_
  refine s_run (w_none rfl) rfl (as_i rfl rfl) ?_
  refine l_nil ?_
  refine k_seq ?_
  refine k_region ?_
  refine s_run (w_none rfl) rfl (mv_i rfl rfl) ?_
  refine s_run (w_none rfl) rfl (d_lt rfl rfl rfl) ?_
  refine l_nil ?_
  refine k_condF rfl (by first | (simp; done) | (simp; omega)) ?_
  refine k_skip ?_
  refine k_nil ?_
  refine b_end ?_
  refine k_region ?_
  refine s_run (w_none rfl) rfl (d_add rfl rfl rfl (by omega)) ?_
  refine s_run (w_none rfl) rfl (mv_i rfl rfl) ?_
  refine l_nil ?_
  refine k_nil ?_
  refine k_next (hd_of (k_one ?_))
  refine k_seq ?_
  refine k_region ?_
  refine s_run (w_none rfl) rfl (d_lt rfl rfl rfl) ?_
  refine l_nil ?_
  refine k_seq ?_
  refine k_condT rfl (by first | (simp; done) | (simp; omega)) ?_
  refine k_skip ?_
  refine k_seq ?_
  refine k_block ?_
  refine k_seq ?_
  refine k_region ?_
  refine s_run (w_none rfl) rfl (d_iaS rfl (H.rd hs) rfl rfl (q := 1) rfl (by omega) tu45 ts23) ?_
  refine s_run (w_none rfl) rfl (d_ldR0 rfl (H.rd hs) rfl ta23 rfl) ?_
  refine s_run (w_none rfl) rfl (as_s rfl rfl) ?_
  refine l_nil ?_
  refine k_seq ?_
  refine k_region ?_
  refine s_run (w_none rfl) rfl (mv_i rfl rfl) ?_
  refine s_run (w_none rfl) rfl (mv_s rfl rfl) ?_
  refine s_run (w_none rfl) rfl (d_len rfl rfl tu23) ?_
  refine s_run (w_none rfl) rfl (d_add rfl rfl rfl (by omega)) ?_
  refine s_run (w_none rfl) rfl (as_i rfl rfl) ?_
  refine l_nil ?_
  refine k_seq ?_
  refine k_region ?_
  refine s_run (w_none rfl) rfl (mv_i rfl rfl) ?_
  refine s_run (w_none rfl) rfl (d_lt rfl rfl rfl) ?_
  refine l_nil ?_
  refine k_condF rfl (by first | (simp; done) | (simp; omega)) ?_
  refine k_skip ?_
  refine k_nil ?_
  refine b_end ?_
  refine k_region ?_
  refine s_run (w_none rfl) rfl (d_add rfl rfl rfl (by omega)) ?_
  refine s_run (w_none rfl) rfl (mv_i rfl rfl) ?_
  refine l_nil ?_
  refine k_nil ?_
  refine k_next (hd_of (k_one ?_))
  refine k_seq ?_
  refine k_region ?_
  refine s_run (w_none rfl) rfl (d_lt rfl rfl rfl) ?_
  refine l_nil ?_
  refine k_seq ?_
  refine k_condF rfl (by first | (simp; done) | (simp; omega)) ?_
  refine k_exit ?_
  refine x_then (x_then ?_)
  refine x_hit ?_
  refine k_seq ?_
  refine k_region ?_
  refine s_run (w_none rfl) rfl (mv_i rfl rfl) ?_
  refine s_eff (e_call (w_none rfl) rfl rfl Tryd.func117 rfl rfl rfl (grow_nil (n + m) _ _ (by omega) (by omega)) ?_)
  rintro _ W ⟨A1, c1, rfl, hd1, hn1⟩
  replace H := H.new hn1
  clear hn1
  refine s_run (w_none rfl) rfl (as_s rfl rfl) ?_
  refine l_nil ?_
  refine k_seq ?_
  refine k_seq ?_
  refine k_region ?_
  refine s_run (w_none rfl) rfl (mv_s rfl rfl) ?_
  refine s_run (w_none rfl) rfl (d_len rfl rfl tu45) ?_
  refine s_run (w_none rfl) rfl (mv_i rfl rfl) ?_
  refine l_nil ?_
  refine k_block ?_
  refine k_unr (k_one ?_)
  refine k_seq ?_
  refine k_region ?_
  refine s_run (w_none rfl) rfl (d_lt rfl rfl rfl) ?_
  refine l_nil ?_
  refine k_seq ?_
  refine k_condT rfl (by first | (simp; done) | (simp; omega)) ?_
  refine k_skip ?_
  refine k_seq ?_
  refine k_block ?_
  refine k_seq ?_
  refine k_region ?_
  refine s_run (w_none rfl) rfl (d_iaS rfl (H.rd hs) rfl rfl (q := 0) rfl (by omega) tu45 ts23) ?_
  refine s_run (w_none rfl) rfl (d_ldR0 rfl (H.rd hs) rfl ta23 rfl) ?_
  refine s_run (w_none rfl) rfl (as_s rfl rfl) ?_
  refine l_nil ?_
  refine k_region ?_
  refine s_run (w_none rfl) rfl (mv_s rfl rfl) ?_
  refine s_run (w_none rfl) rfl (mv_s rfl rfl) ?_
  refine s_eff (e_app (w_none rfl) rfl rfl tu23 tx5 rfl rfl rfl H (H.rd ha) (all_u8L _) (by omega) rfl ?_)
  clear H; intro A2 c2 W hc2 hd2 H
  refine s_run (w_none rfl) rfl (as_s rfl rfl) ?_
  refine l_nil ?_
  refine k_nil ?_
  refine b_end ?_
  refine k_region ?_
  refine s_run (w_none rfl) rfl (d_add rfl rfl rfl (by omega)) ?_
  refine s_run (w_none rfl) rfl (mv_i rfl rfl) ?_
  refine l_nil ?_
  refine k_nil ?_
  refine k_next (hd_of (k_one ?_))
  refine k_seq ?_
  refine k_region ?_
  refine s_run (w_none rfl) rfl (d_lt rfl rfl rfl) ?_
  refine l_nil ?_
  refine k_seq ?_
  refine k_condT rfl (by first | (simp; done) | (simp; omega)) ?_
  refine k_skip ?_
  refine k_seq ?_
  refine k_block ?_
  refine k_seq ?_
  refine k_region ?_
  refine s_run (w_none rfl) rfl (d_iaS rfl (H.rd hs) rfl rfl (q := 1) rfl (by omega) tu45 ts23) ?_
  refine s_run (w_none rfl) rfl (d_ldR0 rfl (H.rd hs) rfl ta23 rfl) ?_
  refine s_run (w_none rfl) rfl (as_s rfl rfl) ?_
  refine l_nil ?_
  refine k_region ?_
  refine s_run (w_none rfl) rfl (mv_s rfl rfl) ?_
  refine s_run (w_none rfl) rfl (mv_s rfl rfl) ?_
  refine s_eff (e_app (w_none rfl) rfl rfl tu23 tx5 rfl rfl rfl H (H.rd hb) (all_u8L _) (by omega) rfl ?_)
  clear H; intro A3 c3 W hc3 hd3 H
  refine s_run (w_none rfl) rfl (as_s rfl rfl) ?_
  refine l_nil ?_
  refine k_nil ?_
  refine b_end ?_
  refine k_region ?_
  refine s_run (w_none rfl) rfl (d_add rfl rfl rfl (by omega)) ?_
  refine s_run (w_none rfl) rfl (mv_i rfl rfl) ?_
  refine l_nil ?_
  refine k_nil ?_
  refine k_next (hd_of (k_one ?_))
  refine k_seq ?_
  refine k_region ?_
  refine s_run (w_none rfl) rfl (d_lt rfl rfl rfl) ?_
  refine l_nil ?_
  refine k_seq ?_
  refine k_condF rfl (by first | (simp; done) | (simp; omega)) ?_
  refine k_exit ?_
  refine x_then (x_then ?_)
  refine x_hit ?_
  refine k_seq ?_
  refine k_region ?_
  refine s_run (w_none rfl) rfl (mv_s rfl rfl) ?_
  refine s_run (w_none rfl) rfl (as_s rfl rfl) ?_
  refine l_nil ?_
  refine k_ret ?_
  repeat (first | refine r_then ?_ | refine r_blk ?_)
  exact q_ret (v := .slice _ _ _) rfl rfl ⟨_, rfl, H.newB (by simp; omega) (by simp) hc3 hd3⟩

theorem behind {S1 S2 : Nat → Prop} {v u : Value} {l r : List UInt8} (w : World) (ha : Bs w S1 v l) (hb : Bs w S2 u r) (hl : l.length + r.length ≤ 1000000000000) :
    Calls Tryd.prog 69 [v, u].toArray w (Ret (NewB 5 w (l ++ r))) := by
  obtain ⟨A, c, rfl, _, _, ha⟩ := ha.op
  obtain ⟨B, d, rfl, _, _, hb⟩ := hb.op
  refine k_enter (l := [_, _]) Tryd.func69 rfl rfl ?_
  have H := St.start nT w
  refine k_seq ?_
  refine k_region ?_
  refine s_run (w_none rfl) rfl (as_s rfl rfl) ?_
  refine l_nil ?_
  refine k_seq ?_
  refine k_region ?_
  refine s_run (w_none rfl) rfl (mv_s rfl rfl) ?_
  refine s_run (w_none rfl) rfl (mv_s rfl rfl) ?_
  refine s_eff (e_bsl (xs := [.tmp 5, .tmp 6]) (vals := [.slice _ _ _, .slice _ _ _]) (vs := [.slice _ _ _, .slice _ _ _]) (w_none rfl) rfl rfl rfl rfl rfl rfl tu45 ts23 ty23 rfl rfl rfl H ?_)
  clear H; intro g1_2 W H
  refine s_eff (e_call (w_none rfl) rfl rfl Tryd.func97 rfl rfl rfl (concat2 _ (rd_blk H.blk rfl) (H.rd ha) (H.rd hb) hl) ?_)
  rintro _ W ⟨A1, c1, rfl, hc1, hd1, hn⟩
  replace H := H.new hn
  clear hn
  refine s_run (w_none rfl) rfl (as_s rfl rfl) ?_
  refine l_nil ?_
  refine k_ret ?_
  repeat (first | refine r_then ?_ | refine r_blk ?_)
  exact q_ret (v := .slice _ _ _) rfl rfl ⟨_, rfl, H.newB rfl rfl hc1 hd1⟩

theorem packInt1 {S : Nat → Prop} {v : Value} {b : List UInt8} (n : Int) (w : World) (hG : Gat w 0 formsC) (hb : Bs w S v b) (hn : -9223372036854775808 ≤ n ∧ n ≤ 9223372036854775807) (hl : b.length ≤ 500000000000) (hu : Pk.toU n < 253) :
    Calls Tryd.prog 18 [v, .int .i64 n].toArray w (Ret (NewB 5 w (b ++ Pk.int (Pk.toU n)))) := by
  have hc := u64_wrap n
  have hcast := Pk.toU_cast n
  have hlt := Pk.toU_lt n
  generalize Pk.toU n = u at *
  have hb0 := hb
  obtain ⟨A, c, rfl, _, _, _⟩ := hb.op
  refine k_enter (l := [_, _]) Tryd.func18 rfl rfl ?_
  have H := St.start nT w
  refine k_seq ?_
  refine k_region ?_
  refine s_run (w_none rfl) rfl (as_s rfl rfl) ?_
  refine l_nil ?_
  refine k_seq ?_
  refine k_region ?_
  refine s_run (w_none rfl) rfl (mv_i rfl rfl) ?_
  refine s_run (w_none rfl) rfl (d_conv rfl rfl (by rw [tu3]; rfl) tu22 hc) ?_
  refine s_run (w_none rfl) rfl (as_i rfl rfl) ?_
  refine l_nil ?_
  refine k_seq ?_
  refine k_seq ?_
  refine k_region ?_
  refine s_run (w_none rfl) rfl (mv_i rfl rfl) ?_
  refine s_run (w_none rfl) rfl (d_iaA rfl rfl rfl (q := 0) rfl tu92 (by omega) ts91) ?_
  refine s_run (w_none rfl) rfl (d_fa rfl rfl tf91_2) ?_
  refine s_run (w_none rfl) rfl (d_ldG rfl (H.gat hG) rfl ta22 rfl) ?_
  refine s_run (w_none rfl) rfl (d_lt rfl rfl rfl) ?_
  refine l_nil ?_
  refine k_condT rfl (by first | (simp; done) | (simp; omega)) ?_
  refine k_seq ?_
  refine k_region ?_
  refine s_run (w_none rfl) rfl (mv_s rfl rfl) ?_
  refine s_run (w_none rfl) rfl (mv_i rfl rfl) ?_
  refine s_run (w_none rfl) rfl (d_conv rfl rfl (by rw [tu3]; rfl) tu5 (u8_eq (n := u) (by omega))) ?_
  refine s_eff (e_bsl (xs := [.tmp 20]) (vals := [.int .u8 _]) (vs := [.int .u8 _]) (w_none rfl) rfl rfl rfl rfl rfl rfl tu23 ts5 ty5 rfl rfl rfl H ?_)
  clear H; intro g3_3 W H
  refine s_eff (e_call (w_none rfl) rfl rfl Tryd.func69 rfl rfl rfl (behind _ (H.bs hb0) (Bs.mk (l := [UInt8.ofNat u]) (rd_blk H.blk rfl) (by omega) (by omega)) (by simp; omega)) ?_)
  rintro _ W ⟨A1, c1, rfl, hc1, hd1, hn⟩
  replace H := H.new hn
  clear hn
  refine s_run (w_none rfl) rfl (as_s rfl rfl) ?_
  refine l_nil ?_
  refine k_ret ?_
  repeat (first | refine r_then ?_ | refine r_blk ?_)
  exact q_ret (v := .slice _ _ _) rfl rfl ⟨_, rfl, H.newB (by rw [Pk.int_1 hu]) (by rw [Pk.int_1 hu]) hc1 hd1⟩

theorem packInt2 {S : Nat → Prop} {v : Value} {b : List UInt8} (n : Int) (w : World) (hG : Gat w 0 formsC) (hb : Bs w S v b) (hl : b.length ≤ 500000000000) (hu : 253 ≤ Pk.toU n ∧ Pk.toU n < 65536) :
    Calls Tryd.prog 18 [v, .int .i64 n].toArray w (Ret (NewB 5 w (b ++ Pk.int (Pk.toU n)))) := by
  have hc := u64_wrap n
  have hcast := Pk.toU_cast n
  have hlt := Pk.toU_lt n
  generalize Pk.toU n = u at *
  have hb0 := hb
  obtain ⟨A, c, rfl, _, _, _⟩ := hb.op
  refine k_enter (l := [_, _]) Tryd.func18 rfl rfl ?_
  have H := St.start nT w
  refine k_seq ?_
  refine k_region ?_
  refine s_run (w_none rfl) rfl (as_s rfl rfl) ?_
  refine l_nil ?_
  refine k_seq ?_
  refine k_region ?_
  refine s_run (w_none rfl) rfl (mv_i rfl rfl) ?_
  refine s_run (w_none rfl) rfl (d_conv rfl rfl (by rw [tu3]; rfl) tu22 hc) ?_
  refine s_run (w_none rfl) rfl (as_i rfl rfl) ?_
  refine l_nil ?_
  refine k_seq ?_
  refine k_seq ?_
  refine k_region ?_
  refine s_run (w_none rfl) rfl (mv_i rfl rfl) ?_
  refine s_run (w_none rfl) rfl (d_iaA rfl rfl rfl (q := 0) rfl tu92 (by omega) ts91) ?_
  refine s_run (w_none rfl) rfl (d_fa rfl rfl tf91_2) ?_
  refine s_run (w_none rfl) rfl (d_ldG rfl (H.gat hG) rfl ta22 rfl) ?_
  refine s_run (w_none rfl) rfl (d_lt rfl rfl rfl) ?_
  refine l_nil ?_
  refine k_condF rfl (by first | (simp; done) | (simp; omega)) ?_
  refine k_skip ?_
  refine k_seq ?_
  refine k_region ?_
  refine s_run (w_none rfl) rfl (d_iaA rfl rfl rfl (q := 0) rfl tu92 (by omega) ts91) ?_
  refine s_run (w_none rfl) rfl (d_ldmG rfl (H.gat hG) rfl ta91 ts91 rfl) ?_
  refine s_eff (e_alloc (w_none rfl) rfl rfl [.int .u8 0, .int .i64 0, .int .u64 0] tz91 H ?_)
  clear H; intro g4_2 W H
  refine s_eff (e_sto (w_none rfl) rfl rfl rfl rfl rfl ts91 rfl H rfl ?_)
  clear H; intro W H
  refine l_nil ?_
  refine k_seq ?_
  refine k_seq ?_
  refine k_region ?_
  refine s_run (w_none rfl) rfl (d_arrS rfl rfl rfl (l := 1) rfl tu92 (by omega) ts91) ?_
  refine s_run (w_none rfl) rfl (d_len rfl rfl tu94) ?_
  refine s_run (w_none rfl) rfl (mv_i rfl rfl) ?_
  refine l_nil ?_
  refine k_block ?_
  refine k_unr (k_one ?_)
  refine k_seq ?_
  refine k_region ?_
  refine s_run (w_none rfl) rfl (d_lt rfl rfl rfl) ?_
  refine l_nil ?_
  refine k_seq ?_
  refine k_condT rfl (by first | (simp; done) | (simp; omega)) ?_
  refine k_skip ?_
  refine k_seq ?_
  refine k_block ?_
  refine k_seq ?_
  refine k_region ?_
  refine s_run (w_none rfl) rfl (d_iaS rfl ((H.gat hG).rd (i := 3) (s := 3) (q := 2) rfl) rfl rfl (q := 0) rfl (by decide) tu94 ts91) ?_
  refine s_run (w_none rfl) rfl (d_ldmR (q := 0) rfl ((H.gat hG).rd (i := 3) (s := 3) (q := 2) rfl) rfl ta91 ts91 (by decide) (by decide)) ?_
  refine s_eff (e_alloc (w_none rfl) rfl rfl [.int .u8 0, .int .i64 0, .int .u64 0] tz91 H ?_)
  clear H; intro g7_2 W H
  refine s_eff (e_sto (w_none rfl) rfl rfl rfl rfl rfl ts91 rfl H rfl ?_)
  clear H; intro W H
  refine l_nil ?_
  refine k_seq ?_
  refine k_region ?_
  refine s_run (w_none rfl) rfl (mv_i rfl rfl) ?_
  refine s_run (w_none rfl) rfl (d_fa rfl rfl tf91_2) ?_
  refine s_run (w_none rfl) rfl (d_ld rfl H rfl ta22 rfl) ?_
  refine s_run (w_none rfl) rfl (d_ge rfl rfl rfl) ?_
  refine l_nil ?_
  refine k_condF rfl (by first | (simp; done) | (simp; omega)) ?_
  refine k_skip ?_
  refine k_nil ?_
  refine b_end ?_
  refine k_region ?_
  refine s_run (w_none rfl) rfl (d_add rfl rfl rfl (by omega)) ?_
  refine s_run (w_none rfl) rfl (mv_i rfl rfl) ?_
  refine l_nil ?_
  refine k_nil ?_
  refine k_next (hd_of (k_one ?_))
  refine k_seq ?_
  refine k_region ?_
  refine s_run (w_none rfl) rfl (d_lt rfl rfl rfl) ?_
  refine l_nil ?_
  refine k_seq ?_
  refine k_condT rfl (by first | (simp; done) | (simp; omega)) ?_
  refine k_skip ?_
  refine k_seq ?_
  refine k_block ?_
  refine k_seq ?_
  refine k_region ?_
  refine s_run (w_none rfl) rfl (d_iaS rfl ((H.gat hG).rd (i := 3) (s := 3) (q := 2) rfl) rfl rfl (q := 1) (by omega) (by decide) tu94 ts91) ?_
  refine s_run (w_none rfl) rfl (d_ldmR (q := 1) rfl ((H.gat hG).rd (i := 3) (s := 3) (q := 2) rfl) rfl ta91 ts91 (by decide) (by decide)) ?_
  refine s_eff (e_alloc (w_none rfl) rfl rfl [.int .u8 0, .int .i64 0, .int .u64 0] tz91 H ?_)
  clear H; intro g7_2 W H
  refine s_eff (e_sto (w_none rfl) rfl rfl rfl rfl rfl ts91 rfl H rfl ?_)
  clear H; intro W H
  refine l_nil ?_
  refine k_seq ?_
  refine k_region ?_
  refine s_run (w_none rfl) rfl (mv_i rfl rfl) ?_
  refine s_run (w_none rfl) rfl (d_fa rfl rfl tf91_2) ?_
  refine s_run (w_none rfl) rfl (d_ld rfl H rfl ta22 rfl) ?_
  refine s_run (w_none rfl) rfl (d_ge rfl rfl rfl) ?_
  refine l_nil ?_
  refine k_condF rfl (by first | (simp; done) | (simp; omega)) ?_
  refine k_skip ?_
  refine k_nil ?_
  refine b_end ?_
  refine k_region ?_
  refine s_run (w_none rfl) rfl (d_add rfl rfl rfl (by omega)) ?_
  refine s_run (w_none rfl) rfl (mv_i rfl rfl) ?_
  refine l_nil ?_
  refine k_nil ?_
  refine k_next (hd_of (k_one ?_))
  refine k_seq ?_
  refine k_region ?_
  refine s_run (w_none rfl) rfl (d_lt rfl rfl rfl) ?_
  refine l_nil ?_
  refine k_seq ?_
  refine k_condF rfl (by first | (simp; done) | (simp; omega)) ?_
  refine k_exit ?_
  refine x_then (x_then ?_)
  refine x_hit ?_
  refine k_seq ?_
  refine k_region ?_
  refine s_run (w_none rfl) rfl (mv_s rfl rfl) ?_
  refine s_run (w_none rfl) rfl (d_fa rfl rfl tf91_0) ?_
  refine s_run (w_none rfl) rfl (d_ld rfl H rfl ta5 rfl) ?_
  refine s_eff (e_bsl (xs := [.tmp 39]) (vals := [.int .u8 _]) (vs := [.int .u8 _]) (w_none rfl) rfl rfl rfl rfl rfl rfl tu23 ts5 ty5 rfl rfl rfl H ?_)
  clear H; intro g11_3 W H
  refine s_eff (e_call (w_none rfl) rfl rfl Tryd.func69 rfl rfl rfl (behind _ (H.bs hb0) (Bs.mk (l := [253]) (rd_blk H.blk rfl) (by omega) (by omega)) (by simp; omega)) ?_)
  rintro _ W ⟨A1, c1, rfl, hc1, hd1, hn⟩
  replace H := H.new hn
  clear hn
  refine s_run (w_none rfl) rfl (as_s rfl rfl) ?_
  refine l_nil ?_
  refine k_seq ?_
  refine k_seq ?_
  refine k_region ?_
  refine s_run (w_none rfl) rfl (d_fa rfl rfl tf91_1) ?_
  refine s_run (w_none rfl) rfl (d_ld rfl H rfl ta3 rfl) ?_
  refine s_run (w_none rfl) rfl (mv_i rfl rfl) ?_
  refine l_nil ?_
  replace H := H.sub (L' := [_]) (.cons_cons _ (List.nil_sublist _))
  refine k_block ?_
  refine k_loop 44 [9, 10] (fun mm sl W => ∃ k : Nat, ∃ B : Option Addr, ∃ d : Nat, 2 - k = mm ∧ sl = [(44, .int .i64 (k : Int)), (9, .slice B (b.length + 1 + k) d)] ∧ (k ≤ 2) ∧ (b.length + 1 + k ≤ d ∧ d ≤ 9223372036854775807) ∧ St nT w W [Fact.row 5 1 (.slice B (b.length + 1 + k) d) (b.length + 1 + k) ((b ++ 253 :: Pk.le u k).map u8v)]) _ _ ⟨0, A1, c1, rfl, rfl, by omega, ⟨by simpa using hc1, hd1⟩, by simpa [Pk.le] using H⟩ ⟨rfl, sl_eq (by simp), trivial⟩ (fun mm sl ρv W hJ => ?_)
  clear H; obtain ⟨k, B, d, rfl, rfl, hk, hd, H⟩ := hJ
  refine k_one ?_
  refine k_seq ?_
  refine k_region ?_
  refine s_run (w_none rfl) rfl (d_lt rfl rfl rfl) ?_
  refine l_nil ?_
  refine k_seq ?_
  refine k_cond rfl (fun hc45 => ?_) (fun hc45 => ?_)
  · first | (replace hc45 := of_decide_eq_true hc45) | simp at hc45
    refine k_skip ?_
    refine k_seq ?_
    refine k_block ?_
    refine k_seq ?_
    refine k_region ?_
    refine s_run (w_none rfl) rfl (mv_i rfl rfl) ?_
    refine s_run (w_none rfl) rfl (as_i rfl rfl) ?_
    refine l_nil ?_
    refine k_region ?_
    refine s_run (w_none rfl) rfl (mv_s rfl rfl) ?_
    refine s_run (w_none rfl) rfl (mv_i rfl rfl) ?_
    refine s_run (w_none rfl) rfl (mv_i rfl rfl) ?_
    refine s_run (w_none rfl) rfl (d_mul rfl rfl rfl (by omega)) ?_
    refine s_run (w_none rfl) rfl (d_shr rfl rfl rfl (m := 8 * k) rfl (by show 8 * k ≤ 64; omega)) ?_
    refine s_run (w_none rfl) rfl (d_conv rfl rfl (by rw [tu22]; rfl) tu5 (u8_eq (shr_le u k))) ?_
    refine s_eff (e_bsl (xs := [.tmp 52]) (vals := [.int .u8 _]) (vs := [.int .u8 _]) (w_none rfl) rfl rfl rfl rfl rfl rfl tu23 ts5 ty5 rfl rfl rfl H ?_)
    clear H; intro g15_6 W H
    refine s_eff (e_app (w_none rfl) rfl rfl tu23 tx5 rfl rfl rfl H (rd_blk H.blk rfl) (rfl) (by omega) rfl ?_)
    clear H; intro A2 c2 W hc2 hd2 H
    replace H := H.drop
    refine s_run (w_none rfl) rfl (as_s rfl rfl) ?_
    refine l_nil ?_
    refine k_nil ?_
    refine b_end ?_
    refine k_region ?_
    refine s_run (w_none rfl) rfl (d_add rfl rfl rfl (by omega)) ?_
    refine s_run (w_none rfl) rfl (mv_i rfl rfl) ?_
    refine l_nil ?_
    refine k_nil ?_
    refine k_next ?_
    refine ⟨_, _, _, ?_, rfl, ?_, ?_, ⟨k + 1, A2, c2, rfl, rfl, by omega, ⟨by omega, hd2⟩, by rw [Pk.le_succ, ← List.cons_append, map_snoc]; exact H⟩⟩
    · omega
    · repeat (first | ((with_reducible refine Eqo.updl _ Eqo.ovr ?_); exact rfl) | ((with_reducible refine Eqo.upd ?_ ?_); rotate_left; exact rfl))
    · refine ⟨?_, ?_, trivial⟩
      · exact vi (by omega)
      · exact rfl
  · first | (replace hc45 := of_decide_eq_false hc45) | simp at hc45
    refine k_exit ?_
    refine x_then (x_then ?_)
    refine x_hit ?_
    refine k_seq ?_
    obtain rfl : k = 2 := by omega
    refine k_region ?_
    refine s_run (w_none rfl) rfl (mv_s rfl rfl) ?_
    refine s_run (w_none rfl) rfl (as_s rfl rfl) ?_
    refine l_nil ?_
    refine k_ret ?_
    repeat (first | refine r_then ?_ | refine r_blk ?_)
    exact q_ret (v := .slice _ _ _) rfl rfl ⟨_, rfl, H.newB (by rw [Pk.int_2 hu.1 hu.2]; simp [Pk.len_le]) (by rw [Pk.int_2 hu.1 hu.2]) hd.1 hd.2⟩

theorem packInt4 {S : Nat → Prop} {v : Value} {b : List UInt8} (n : Int) (w : World) (hG : Gat w 0 formsC) (hb : Bs w S v b) (hl : b.length ≤ 500000000000) (hu : 65536 ≤ Pk.toU n ∧ Pk.toU n < 4294967296) :
    Calls Tryd.prog 18 [v, .int .i64 n].toArray w (Ret (NewB 5 w (b ++ Pk.int (Pk.toU n)))) := by
  have hc := u64_wrap n
  have hcast := Pk.toU_cast n
  have hlt := Pk.toU_lt n
  generalize Pk.toU n = u at *
  have hb0 := hb
  obtain ⟨A, c, rfl, _, _, _⟩ := hb.op
  refine k_enter (l := [_, _]) Tryd.func18 rfl rfl ?_
  have H := St.start nT w
  refine k_seq ?_
  refine k_region ?_
  refine s_run (w_none rfl) rfl (as_s rfl rfl) ?_
  refine l_nil ?_
  refine k_seq ?_
  refine k_region ?_
  refine s_run (w_none rfl) rfl (mv_i rfl rfl) ?_
  refine s_run (w_none rfl) rfl (d_conv rfl rfl (by rw [tu3]; rfl) tu22 hc) ?_
  refine s_run (w_none rfl) rfl (as_i rfl rfl) ?_
  refine l_nil ?_
  refine k_seq ?_
  refine k_seq ?_
  refine k_region ?_
  refine s_run (w_none rfl) rfl (mv_i rfl rfl) ?_
  refine s_run (w_none rfl) rfl (d_iaA rfl rfl rfl (q := 0) rfl tu92 (by omega) ts91) ?_
  refine s_run (w_none rfl) rfl (d_fa rfl rfl tf91_2) ?_
  refine s_run (w_none rfl) rfl (d_ldG rfl (H.gat hG) rfl ta22 rfl) ?_
  refine s_run (w_none rfl) rfl (d_lt rfl rfl rfl) ?_
  refine l_nil ?_
  refine k_condF rfl (by first | (simp; done) | (simp; omega)) ?_
  refine k_skip ?_
  refine k_seq ?_
  refine k_region ?_
  refine s_run (w_none rfl) rfl (d_iaA rfl rfl rfl (q := 0) rfl tu92 (by omega) ts91) ?_
  refine s_run (w_none rfl) rfl (d_ldmG rfl (H.gat hG) rfl ta91 ts91 rfl) ?_
  refine s_eff (e_alloc (w_none rfl) rfl rfl [.int .u8 0, .int .i64 0, .int .u64 0] tz91 H ?_)
  clear H; intro g4_2 W H
  refine s_eff (e_sto (w_none rfl) rfl rfl rfl rfl rfl ts91 rfl H rfl ?_)
  clear H; intro W H
  refine l_nil ?_
  refine k_seq ?_
  refine k_seq ?_
  refine k_region ?_
  refine s_run (w_none rfl) rfl (d_arrS rfl rfl rfl (l := 1) rfl tu92 (by omega) ts91) ?_
  refine s_run (w_none rfl) rfl (d_len rfl rfl tu94) ?_
  refine s_run (w_none rfl) rfl (mv_i rfl rfl) ?_
  refine l_nil ?_
  refine k_block ?_
  refine k_unr (k_one ?_)
  refine k_seq ?_
  refine k_region ?_
  refine s_run (w_none rfl) rfl (d_lt rfl rfl rfl) ?_
  refine l_nil ?_
  refine k_seq ?_
  refine k_condT rfl (by first | (simp; done) | (simp; omega)) ?_
  refine k_skip ?_
  refine k_seq ?_
  refine k_block ?_
  refine k_seq ?_
  refine k_region ?_
  refine s_run (w_none rfl) rfl (d_iaS rfl ((H.gat hG).rd (i := 3) (s := 3) (q := 2) rfl) rfl rfl (q := 0) rfl (by decide) tu94 ts91) ?_
  refine s_run (w_none rfl) rfl (d_ldmR (q := 0) rfl ((H.gat hG).rd (i := 3) (s := 3) (q := 2) rfl) rfl ta91 ts91 (by decide) (by decide)) ?_
  refine s_eff (e_alloc (w_none rfl) rfl rfl [.int .u8 0, .int .i64 0, .int .u64 0] tz91 H ?_)
  clear H; intro g7_2 W H
  refine s_eff (e_sto (w_none rfl) rfl rfl rfl rfl rfl ts91 rfl H rfl ?_)
  clear H; intro W H
  refine l_nil ?_
  refine k_seq ?_
  refine k_region ?_
  refine s_run (w_none rfl) rfl (mv_i rfl rfl) ?_
  refine s_run (w_none rfl) rfl (d_fa rfl rfl tf91_2) ?_
  refine s_run (w_none rfl) rfl (d_ld rfl H rfl ta22 rfl) ?_
  refine s_run (w_none rfl) rfl (d_ge rfl rfl rfl) ?_
  refine l_nil ?_
  refine k_condT rfl (by first | (simp; done) | (simp; omega)) ?_
  refine k_region ?_
  refine s_run (w_none rfl) rfl (d_ldm rfl H rfl ta91 ts91 rfl) ?_
  refine s_eff (e_sto (w_none rfl) rfl rfl rfl rfl rfl ts91 rfl H rfl ?_)
  clear H; intro W H
  refine l_nil ?_
  refine k_nil ?_
  refine b_end ?_
  refine k_region ?_
  refine s_run (w_none rfl) rfl (d_add rfl rfl rfl (by omega)) ?_
  refine s_run (w_none rfl) rfl (mv_i rfl rfl) ?_
  refine l_nil ?_
  refine k_nil ?_
  refine k_next (hd_of (k_one ?_))
  refine k_seq ?_
  refine k_region ?_
  refine s_run (w_none rfl) rfl (d_lt rfl rfl rfl) ?_
  refine l_nil ?_
  refine k_seq ?_
  refine k_condT rfl (by first | (simp; done) | (simp; omega)) ?_
  refine k_skip ?_
  refine k_seq ?_
  refine k_block ?_
  refine k_seq ?_
  refine k_region ?_
  refine s_run (w_none rfl) rfl (d_iaS rfl ((H.gat hG).rd (i := 3) (s := 3) (q := 2) rfl) rfl rfl (q := 1) (by omega) (by decide) tu94 ts91) ?_
  refine s_run (w_none rfl) rfl (d_ldmR (q := 1) rfl ((H.gat hG).rd (i := 3) (s := 3) (q := 2) rfl) rfl ta91 ts91 (by decide) (by decide)) ?_
  refine s_eff (e_alloc (w_none rfl) rfl rfl [.int .u8 0, .int .i64 0, .int .u64 0] tz91 H ?_)
  clear H; intro g7_2 W H
  refine s_eff (e_sto (w_none rfl) rfl rfl rfl rfl rfl ts91 rfl H rfl ?_)
  clear H; intro W H
  refine l_nil ?_
  refine k_seq ?_
  refine k_region ?_
  refine s_run (w_none rfl) rfl (mv_i rfl rfl) ?_
  refine s_run (w_none rfl) rfl (d_fa rfl rfl tf91_2) ?_
  refine s_run (w_none rfl) rfl (d_ld rfl H rfl ta22 rfl) ?_
  refine s_run (w_none rfl) rfl (d_ge rfl rfl rfl) ?_
  refine l_nil ?_
  refine k_condF rfl (by first | (simp; done) | (simp; omega)) ?_
  refine k_skip ?_
  refine k_nil ?_
  refine b_end ?_
  refine k_region ?_
  refine s_run (w_none rfl) rfl (d_add rfl rfl rfl (by omega)) ?_
  refine s_run (w_none rfl) rfl (mv_i rfl rfl) ?_
  refine l_nil ?_
  refine k_nil ?_
  refine k_next (hd_of (k_one ?_))
  refine k_seq ?_
  refine k_region ?_
  refine s_run (w_none rfl) rfl (d_lt rfl rfl rfl) ?_
  refine l_nil ?_
  refine k_seq ?_
  refine k_condF rfl (by first | (simp; done) | (simp; omega)) ?_
  refine k_exit ?_
  refine x_then (x_then ?_)
  refine x_hit ?_
  refine k_seq ?_
  refine k_region ?_
  refine s_run (w_none rfl) rfl (mv_s rfl rfl) ?_
  refine s_run (w_none rfl) rfl (d_fa rfl rfl tf91_0) ?_
  refine s_run (w_none rfl) rfl (d_ld rfl H rfl ta5 rfl) ?_
  refine s_eff (e_bsl (xs := [.tmp 39]) (vals := [.int .u8 _]) (vs := [.int .u8 _]) (w_none rfl) rfl rfl rfl rfl rfl rfl tu23 ts5 ty5 rfl rfl rfl H ?_)
  clear H; intro g11_3 W H
  refine s_eff (e_call (w_none rfl) rfl rfl Tryd.func69 rfl rfl rfl (behind _ (H.bs hb0) (Bs.mk (l := [254]) (rd_blk H.blk rfl) (by omega) (by omega)) (by simp; omega)) ?_)
  rintro _ W ⟨A1, c1, rfl, hc1, hd1, hn⟩
  replace H := H.new hn
  clear hn
  refine s_run (w_none rfl) rfl (as_s rfl rfl) ?_
  refine l_nil ?_
  refine k_seq ?_
  refine k_seq ?_
  refine k_region ?_
  refine s_run (w_none rfl) rfl (d_fa rfl rfl tf91_1) ?_
  refine s_run (w_none rfl) rfl (d_ld rfl H rfl ta3 rfl) ?_
  refine s_run (w_none rfl) rfl (mv_i rfl rfl) ?_
  refine l_nil ?_
  replace H := H.sub (L' := [_]) (.cons_cons _ (List.nil_sublist _))
  refine k_block ?_
  refine k_loop 44 [9, 10] (fun mm sl W => ∃ k : Nat, ∃ B : Option Addr, ∃ d : Nat, 4 - k = mm ∧ sl = [(44, .int .i64 (k : Int)), (9, .slice B (b.length + 1 + k) d)] ∧ (k ≤ 4) ∧ (b.length + 1 + k ≤ d ∧ d ≤ 9223372036854775807) ∧ St nT w W [Fact.row 5 1 (.slice B (b.length + 1 + k) d) (b.length + 1 + k) ((b ++ 254 :: Pk.le u k).map u8v)]) _ _ ⟨0, A1, c1, rfl, rfl, by omega, ⟨by simpa using hc1, hd1⟩, by simpa [Pk.le] using H⟩ ⟨rfl, sl_eq (by simp), trivial⟩ (fun mm sl ρv W hJ => ?_)
  clear H; obtain ⟨k, B, d, rfl, rfl, hk, hd, H⟩ := hJ
  refine k_one ?_
  refine k_seq ?_
  refine k_region ?_
  refine s_run (w_none rfl) rfl (d_lt rfl rfl rfl) ?_
  refine l_nil ?_
  refine k_seq ?_
  refine k_cond rfl (fun hc45 => ?_) (fun hc45 => ?_)
  · first | (replace hc45 := of_decide_eq_true hc45) | simp at hc45
    refine k_skip ?_
    refine k_seq ?_
    refine k_block ?_
    refine k_seq ?_
    refine k_region ?_
    refine s_run (w_none rfl) rfl (mv_i rfl rfl) ?_
    refine s_run (w_none rfl) rfl (as_i rfl rfl) ?_
    refine l_nil ?_
    refine k_region ?_
    refine s_run (w_none rfl) rfl (mv_s rfl rfl) ?_
    refine s_run (w_none rfl) rfl (mv_i rfl rfl) ?_
    refine s_run (w_none rfl) rfl (mv_i rfl rfl) ?_
    refine s_run (w_none rfl) rfl (d_mul rfl rfl rfl (by omega)) ?_
    refine s_run (w_none rfl) rfl (d_shr rfl rfl rfl (m := 8 * k) rfl (by show 8 * k ≤ 64; omega)) ?_
    refine s_run (w_none rfl) rfl (d_conv rfl rfl (by rw [tu22]; rfl) tu5 (u8_eq (shr_le u k))) ?_
    refine s_eff (e_bsl (xs := [.tmp 52]) (vals := [.int .u8 _]) (vs := [.int .u8 _]) (w_none rfl) rfl rfl rfl rfl rfl rfl tu23 ts5 ty5 rfl rfl rfl H ?_)
    clear H; intro g15_6 W H
    refine s_eff (e_app (w_none rfl) rfl rfl tu23 tx5 rfl rfl rfl H (rd_blk H.blk rfl) (rfl) (by omega) rfl ?_)
    clear H; intro A2 c2 W hc2 hd2 H
    replace H := H.drop
    refine s_run (w_none rfl) rfl (as_s rfl rfl) ?_
    refine l_nil ?_
    refine k_nil ?_
    refine b_end ?_
    refine k_region ?_
    refine s_run (w_none rfl) rfl (d_add rfl rfl rfl (by omega)) ?_
    refine s_run (w_none rfl) rfl (mv_i rfl rfl) ?_
    refine l_nil ?_
    refine k_nil ?_
    refine k_next ?_
    refine ⟨_, _, _, ?_, rfl, ?_, ?_, ⟨k + 1, A2, c2, rfl, rfl, by omega, ⟨by omega, hd2⟩, by rw [Pk.le_succ, ← List.cons_append, map_snoc]; exact H⟩⟩
    · omega
    · repeat (first | ((with_reducible refine Eqo.updl _ Eqo.ovr ?_); exact rfl) | ((with_reducible refine Eqo.upd ?_ ?_); rotate_left; exact rfl))
    · refine ⟨?_, ?_, trivial⟩
      · exact vi (by omega)
      · exact rfl
  · first | (replace hc45 := of_decide_eq_false hc45) | simp at hc45
    refine k_exit ?_
    refine x_then (x_then ?_)
    refine x_hit ?_
    refine k_seq ?_
    obtain rfl : k = 4 := by omega
    refine k_region ?_
    refine s_run (w_none rfl) rfl (mv_s rfl rfl) ?_
    refine s_run (w_none rfl) rfl (as_s rfl rfl) ?_
    refine l_nil ?_
    refine k_ret ?_
    repeat (first | refine r_then ?_ | refine r_blk ?_)
    exact q_ret (v := .slice _ _ _) rfl rfl ⟨_, rfl, H.newB (by rw [Pk.int_4 hu.1 hu.2]; simp [Pk.len_le]) (by rw [Pk.int_4 hu.1 hu.2]) hd.1 hd.2⟩

theorem packInt8 {S : Nat → Prop} {v : Value} {b : List UInt8} (n : Int) (w : World) (hG : Gat w 0 formsC) (hb : Bs w S v b) (hl : b.length ≤ 500000000000) (hu : 4294967296 ≤ Pk.toU n) :
    Calls Tryd.prog 18 [v, .int .i64 n].toArray w (Ret (NewB 5 w (b ++ Pk.int (Pk.toU n)))) := by
  have hc := u64_wrap n
  have hcast := Pk.toU_cast n
  have hlt := Pk.toU_lt n
  generalize Pk.toU n = u at *
  have hb0 := hb
  obtain ⟨A, c, rfl, _, _, _⟩ := hb.op
  refine k_enter (l := [_, _]) Tryd.func18 rfl rfl ?_
  have H := St.start nT w
  refine k_seq ?_
  refine k_region ?_
  refine s_run (w_none rfl) rfl (as_s rfl rfl) ?_
  refine l_nil ?_
  refine k_seq ?_
  refine k_region ?_
  refine s_run (w_none rfl) rfl (mv_i rfl rfl) ?_
  refine s_run (w_none rfl) rfl (d_conv rfl rfl (by rw [tu3]; rfl) tu22 hc) ?_
  refine s_run (w_none rfl) rfl (as_i rfl rfl) ?_
  refine l_nil ?_
  refine k_seq ?_
  refine k_seq ?_
  refine k_region ?_
  refine s_run (w_none rfl) rfl (mv_i rfl rfl) ?_
  refine s_run (w_none rfl) rfl (d_iaA rfl rfl rfl (q := 0) rfl tu92 (by omega) ts91) ?_
  refine s_run (w_none rfl) rfl (d_fa rfl rfl tf91_2) ?_
  refine s_run (w_none rfl) rfl (d_ldG rfl (H.gat hG) rfl ta22 rfl) ?_
  refine s_run (w_none rfl) rfl (d_lt rfl rfl rfl) ?_
  refine l_nil ?_
  refine k_condF rfl (by first | (simp; done) | (simp; omega)) ?_
  refine k_skip ?_
  refine k_seq ?_
  refine k_region ?_
  refine s_run (w_none rfl) rfl (d_iaA rfl rfl rfl (q := 0) rfl tu92 (by omega) ts91) ?_
  refine s_run (w_none rfl) rfl (d_ldmG rfl (H.gat hG) rfl ta91 ts91 rfl) ?_
  refine s_eff (e_alloc (w_none rfl) rfl rfl [.int .u8 0, .int .i64 0, .int .u64 0] tz91 H ?_)
  clear H; intro g4_2 W H
  refine s_eff (e_sto (w_none rfl) rfl rfl rfl rfl rfl ts91 rfl H rfl ?_)
  clear H; intro W H
  refine l_nil ?_
  refine k_seq ?_
  refine k_seq ?_
  refine k_region ?_
  refine s_run (w_none rfl) rfl (d_arrS rfl rfl rfl (l := 1) rfl tu92 (by omega) ts91) ?_
  refine s_run (w_none rfl) rfl (d_len rfl rfl tu94) ?_
  refine s_run (w_none rfl) rfl (mv_i rfl rfl) ?_
  refine l_nil ?_
  refine k_block ?_
  refine k_unr (k_one ?_)
  refine k_seq ?_
  refine k_region ?_
  refine s_run (w_none rfl) rfl (d_lt rfl rfl rfl) ?_
  refine l_nil ?_
  refine k_seq ?_
  refine k_condT rfl (by first | (simp; done) | (simp; omega)) ?_
  refine k_skip ?_
  refine k_seq ?_
  refine k_block ?_
  refine k_seq ?_
  refine k_region ?_
  refine s_run (w_none rfl) rfl (d_iaS rfl ((H.gat hG).rd (i := 3) (s := 3) (q := 2) rfl) rfl rfl (q := 0) rfl (by decide) tu94 ts91) ?_
  refine s_run (w_none rfl) rfl (d_ldmR (q := 0) rfl ((H.gat hG).rd (i := 3) (s := 3) (q := 2) rfl) rfl ta91 ts91 (by decide) (by decide)) ?_
  refine s_eff (e_alloc (w_none rfl) rfl rfl [.int .u8 0, .int .i64 0, .int .u64 0] tz91 H ?_)
  clear H; intro g7_2 W H
  refine s_eff (e_sto (w_none rfl) rfl rfl rfl rfl rfl ts91 rfl H rfl ?_)
  clear H; intro W H
  refine l_nil ?_
  refine k_seq ?_
  refine k_region ?_
  refine s_run (w_none rfl) rfl (mv_i rfl rfl) ?_
  refine s_run (w_none rfl) rfl (d_fa rfl rfl tf91_2) ?_
  refine s_run (w_none rfl) rfl (d_ld rfl H rfl ta22 rfl) ?_
  refine s_run (w_none rfl) rfl (d_ge rfl rfl rfl) ?_
  refine l_nil ?_
  refine k_condT rfl (by first | (simp; done) | (simp; omega)) ?_
  refine k_region ?_
  refine s_run (w_none rfl) rfl (d_ldm rfl H rfl ta91 ts91 rfl) ?_
  refine s_eff (e_sto (w_none rfl) rfl rfl rfl rfl rfl ts91 rfl H rfl ?_)
  clear H; intro W H
  refine l_nil ?_
  refine k_nil ?_
  refine b_end ?_
  refine k_region ?_
  refine s_run (w_none rfl) rfl (d_add rfl rfl rfl (by omega)) ?_
  refine s_run (w_none rfl) rfl (mv_i rfl rfl) ?_
  refine l_nil ?_
  refine k_nil ?_
  refine k_next (hd_of (k_one ?_))
  refine k_seq ?_
  refine k_region ?_
  refine s_run (w_none rfl) rfl (d_lt rfl rfl rfl) ?_
  refine l_nil ?_
  refine k_seq ?_
  refine k_condT rfl (by first | (simp; done) | (simp; omega)) ?_
  refine k_skip ?_
  refine k_seq ?_
  refine k_block ?_
  refine k_seq ?_
  refine k_region ?_
  refine s_run (w_none rfl) rfl (d_iaS rfl ((H.gat hG).rd (i := 3) (s := 3) (q := 2) rfl) rfl rfl (q := 1) (by omega) (by decide) tu94 ts91) ?_
  refine s_run (w_none rfl) rfl (d_ldmR (q := 1) rfl ((H.gat hG).rd (i := 3) (s := 3) (q := 2) rfl) rfl ta91 ts91 (by decide) (by decide)) ?_
  refine s_eff (e_alloc (w_none rfl) rfl rfl [.int .u8 0, .int .i64 0, .int .u64 0] tz91 H ?_)
  clear H; intro g7_2 W H
  refine s_eff (e_sto (w_none rfl) rfl rfl rfl rfl rfl ts91 rfl H rfl ?_)
  clear H; intro W H
  refine l_nil ?_
  refine k_seq ?_
  refine k_region ?_
  refine s_run (w_none rfl) rfl (mv_i rfl rfl) ?_
  refine s_run (w_none rfl) rfl (d_fa rfl rfl tf91_2) ?_
  refine s_run (w_none rfl) rfl (d_ld rfl H rfl ta22 rfl) ?_
  refine s_run (w_none rfl) rfl (d_ge rfl rfl rfl) ?_
  refine l_nil ?_
  refine k_condT rfl (by first | (simp; done) | (simp; omega)) ?_
  refine k_region ?_
  refine s_run (w_none rfl) rfl (d_ldm rfl H rfl ta91 ts91 rfl) ?_
  refine s_eff (e_sto (w_none rfl) rfl rfl rfl rfl rfl ts91 rfl H rfl ?_)
  clear H; intro W H
  refine l_nil ?_
  refine k_nil ?_
  refine b_end ?_
  refine k_region ?_
  refine s_run (w_none rfl) rfl (d_add rfl rfl rfl (by omega)) ?_
  refine s_run (w_none rfl) rfl (mv_i rfl rfl) ?_
  refine l_nil ?_
  refine k_nil ?_
  refine k_next (hd_of (k_one ?_))
  refine k_seq ?_
  refine k_region ?_
  refine s_run (w_none rfl) rfl (d_lt rfl rfl rfl) ?_
  refine l_nil ?_
  refine k_seq ?_
  refine k_condF rfl (by first | (simp; done) | (simp; omega)) ?_
  refine k_exit ?_
  refine x_then (x_then ?_)
  refine x_hit ?_
  refine k_seq ?_
  refine k_region ?_
  refine s_run (w_none rfl) rfl (mv_s rfl rfl) ?_
  refine s_run (w_none rfl) rfl (d_fa rfl rfl tf91_0) ?_
  refine s_run (w_none rfl) rfl (d_ld rfl H rfl ta5 rfl) ?_
  refine s_eff (e_bsl (xs := [.tmp 39]) (vals := [.int .u8 _]) (vs := [.int .u8 _]) (w_none rfl) rfl rfl rfl rfl rfl rfl tu23 ts5 ty5 rfl rfl rfl H ?_)
  clear H; intro g11_3 W H
  refine s_eff (e_call (w_none rfl) rfl rfl Tryd.func69 rfl rfl rfl (behind _ (H.bs hb0) (Bs.mk (l := [255]) (rd_blk H.blk rfl) (by omega) (by omega)) (by simp; omega)) ?_)
  rintro _ W ⟨A1, c1, rfl, hc1, hd1, hn⟩
  replace H := H.new hn
  clear hn
  refine s_run (w_none rfl) rfl (as_s rfl rfl) ?_
  refine l_nil ?_
  refine k_seq ?_
  refine k_seq ?_
  refine k_region ?_
  refine s_run (w_none rfl) rfl (d_fa rfl rfl tf91_1) ?_
  refine s_run (w_none rfl) rfl (d_ld rfl H rfl ta3 rfl) ?_
  refine s_run (w_none rfl) rfl (mv_i rfl rfl) ?_
  refine l_nil ?_
  replace H := H.sub (L' := [_]) (.cons_cons _ (List.nil_sublist _))
  refine k_block ?_
  refine k_loop 44 [9, 10] (fun mm sl W => ∃ k : Nat, ∃ B : Option Addr, ∃ d : Nat, 8 - k = mm ∧ sl = [(44, .int .i64 (k : Int)), (9, .slice B (b.length + 1 + k) d)] ∧ (k ≤ 8) ∧ (b.length + 1 + k ≤ d ∧ d ≤ 9223372036854775807) ∧ St nT w W [Fact.row 5 1 (.slice B (b.length + 1 + k) d) (b.length + 1 + k) ((b ++ 255 :: Pk.le u k).map u8v)]) _ _ ⟨0, A1, c1, rfl, rfl, by omega, ⟨by simpa using hc1, hd1⟩, by simpa [Pk.le] using H⟩ ⟨rfl, sl_eq (by simp), trivial⟩ (fun mm sl ρv W hJ => ?_)
  clear H; obtain ⟨k, B, d, rfl, rfl, hk, hd, H⟩ := hJ
  refine k_one ?_
  refine k_seq ?_
  refine k_region ?_
  refine s_run (w_none rfl) rfl (d_lt rfl rfl rfl) ?_
  refine l_nil ?_
  refine k_seq ?_
  refine k_cond rfl (fun hc45 => ?_) (fun hc45 => ?_)
  · first | (replace hc45 := of_decide_eq_true hc45) | simp at hc45
    refine k_skip ?_
    refine k_seq ?_
    refine k_block ?_
    refine k_seq ?_
    refine k_region ?_
    refine s_run (w_none rfl) rfl (mv_i rfl rfl) ?_
    refine s_run (w_none rfl) rfl (as_i rfl rfl) ?_
    refine l_nil ?_
    refine k_region ?_
    refine s_run (w_none rfl) rfl (mv_s rfl rfl) ?_
    refine s_run (w_none rfl) rfl (mv_i rfl rfl) ?_
    refine s_run (w_none rfl) rfl (mv_i rfl rfl) ?_
    refine s_run (w_none rfl) rfl (d_mul rfl rfl rfl (by omega)) ?_
    refine s_run (w_none rfl) rfl (d_shr rfl rfl rfl (m := 8 * k) rfl (by show 8 * k ≤ 64; omega)) ?_
    refine s_run (w_none rfl) rfl (d_conv rfl rfl (by rw [tu22]; rfl) tu5 (u8_eq (shr_le u k))) ?_
    refine s_eff (e_bsl (xs := [.tmp 52]) (vals := [.int .u8 _]) (vs := [.int .u8 _]) (w_none rfl) rfl rfl rfl rfl rfl rfl tu23 ts5 ty5 rfl rfl rfl H ?_)
    clear H; intro g15_6 W H
    refine s_eff (e_app (w_none rfl) rfl rfl tu23 tx5 rfl rfl rfl H (rd_blk H.blk rfl) (rfl) (by omega) rfl ?_)
    clear H; intro A2 c2 W hc2 hd2 H
    replace H := H.drop
    refine s_run (w_none rfl) rfl (as_s rfl rfl) ?_
    refine l_nil ?_
    refine k_nil ?_
    refine b_end ?_
    refine k_region ?_
    refine s_run (w_none rfl) rfl (d_add rfl rfl rfl (by omega)) ?_
    refine s_run (w_none rfl) rfl (mv_i rfl rfl) ?_
    refine l_nil ?_
    refine k_nil ?_
    refine k_next ?_
    refine ⟨_, _, _, ?_, rfl, ?_, ?_, ⟨k + 1, A2, c2, rfl, rfl, by omega, ⟨by omega, hd2⟩, by rw [Pk.le_succ, ← List.cons_append, map_snoc]; exact H⟩⟩
    · omega
    · repeat (first | ((with_reducible refine Eqo.updl _ Eqo.ovr ?_); exact rfl) | ((with_reducible refine Eqo.upd ?_ ?_); rotate_left; exact rfl))
    · refine ⟨?_, ?_, trivial⟩
      · exact vi (by omega)
      · exact rfl
  · first | (replace hc45 := of_decide_eq_false hc45) | simp at hc45
    refine k_exit ?_
    refine x_then (x_then ?_)
    refine x_hit ?_
    refine k_seq ?_
    obtain rfl : k = 8 := by omega
    refine k_region ?_
    refine s_run (w_none rfl) rfl (mv_s rfl rfl) ?_
    refine s_run (w_none rfl) rfl (as_s rfl rfl) ?_
    refine l_nil ?_
    refine k_ret ?_
    repeat (first | refine r_then ?_ | refine r_blk ?_)
    exact q_ret (v := .slice _ _ _) rfl rfl ⟨_, rfl, H.newB (by rw [Pk.int_8 hu]; simp [Pk.len_le]) (by rw [Pk.int_8 hu]) hd.1 hd.2⟩

theorem packInt {S : Nat → Prop} {v : Value} {b : List UInt8} (n : Int) (w : World) (hG : Gat w 0 formsC) (hb : Bs w S v b) (hn : -9223372036854775808 ≤ n ∧ n ≤ 9223372036854775807) (hl : b.length ≤ 500000000000) :
    Calls Tryd.prog 18 [v, .int .i64 n].toArray w (Ret (NewB 5 w (b ++ Pk.int (Pk.toU n)))) := by
  rcases Nat.lt_or_ge (Pk.toU n) 253 with h | h
  · exact packInt1 n w hG hb hn hl h
  rcases Nat.lt_or_ge (Pk.toU n) 65536 with h2 | h2
  · exact packInt2 n w hG hb hl ⟨h, h2⟩
  rcases Nat.lt_or_ge (Pk.toU n) 4294967296 with h4 | h4
  · exact packInt4 n w hG hb hl ⟨h2, h4⟩
  · exact packInt8 n w hG hb hl h4

theorem packBlob {S S1 : Nat → Prop} {v u : Value} {b p : List UInt8} (w : World) (hG : Gat w 0 formsC) (hb : Bs w S v b) (hl : b.length ≤ 400000000000) (hp : Bs w S1 u p) (hl2 : p.length ≤ 400000000000) :
    Calls Tryd.prog 25 [v, u].toArray w (Ret (NewB 5 w (b ++ (Pk.int p.length ++ p)))) := by
  have hb0 := hb
  obtain ⟨A, c, rfl, _, _, hb⟩ := hb.op
  have hp0 := hp
  obtain ⟨B, d, rfl, _, _, hp⟩ := hp.op
  have hi := Pk.len_int p.length
  refine k_enter (l := [_, _]) Tryd.func25 rfl rfl ?_
  have H := St.start nT w
  refine k_seq ?_
  refine k_region ?_
  refine s_run (w_none rfl) rfl (as_s rfl rfl) ?_
  refine l_nil ?_
  refine k_seq ?_
  refine k_region ?_
  refine s_run (w_none rfl) rfl (mv_s rfl rfl) ?_
  refine s_run (w_none rfl) rfl (mv_s rfl rfl) ?_
  refine s_run (w_none rfl) rfl (d_len rfl rfl tu23) ?_
  refine s_eff (e_call (w_none rfl) rfl rfl Tryd.func18 rfl rfl rfl (packInt _ _ (H.gat hG) (H.bs hb0) (by omega) (by omega)) ?_)
  rw [Pk.toU_pos _ (by omega) (by omega), Int.toNat_natCast]
  rintro _ W ⟨A1, c1, rfl, hc1, hd1, hn⟩
  replace H := H.new hn
  clear hn
  refine s_run (w_none rfl) rfl (mv_s rfl rfl) ?_
  refine s_eff (e_app (w_none rfl) rfl rfl tu23 tx5 rfl rfl rfl H (H.rd hp) (all_u8L _) (by rw [List.length_append]; omega) rfl ?_)
  clear H; intro A2 c2 W hc2 hd2 H
  refine s_run (w_none rfl) rfl (as_s rfl rfl) ?_
  refine l_nil ?_
  refine k_ret ?_
  repeat (first | refine r_then ?_ | refine r_blk ?_)
  exact q_ret (v := .slice _ _ _) rfl rfl ⟨_, rfl, H.newB (by simp; omega) (by simp) hc2 hd2⟩

theorem packHash {S : Nat → Prop} {v : Value} {b h : List UInt8} (w : World) (hb : Bs w S v b) (hl : b.length ≤ 400000000000) (hh : h.length = 32) :
    Calls Tryd.prog 26 [v, .agg (h.map u8v).toArray].toArray w (Ret (NewB 5 w (b ++ h))) := by
  have hb0 := hb
  obtain ⟨A, c, rfl, _, _, hb⟩ := hb.op
  refine k_enter (l := [_, _]) Tryd.func26 rfl rfl ?_
  have H := St.start nT w
  refine k_seq ?_
  refine k_region ?_
  refine s_eff (e_box (w_none rfl) rfl rfl rfl rfl H ?_)
  clear H; intro g0_0 W H
  refine s_run (w_none rfl) rfl (as_s rfl rfl) ?_
  refine l_nil ?_
  refine k_seq ?_
  refine k_region ?_
  refine s_run (w_none rfl) rfl (mv_s rfl rfl) ?_
  refine s_run (w_none rfl) rfl (d_arrA rfl rfl tu36 ts5) ?_
  refine s_eff (e_call (w_none rfl) rfl rfl Tryd.func69 rfl rfl rfl (behind _ (H.bs hb0) (Bs.mk (l := h) (rd_blk H.blk (by simp; omega)) (by omega) (by omega)) (by omega)) ?_)
  rintro _ W ⟨A1, c1, rfl, hc1, hd1, hn⟩
  replace H := H.new hn
  clear hn
  refine s_run (w_none rfl) rfl (as_s rfl rfl) ?_
  refine l_nil ?_
  refine k_ret ?_
  repeat (first | refine r_then ?_ | refine r_blk ?_)
  exact q_ret (v := .slice _ _ _) rfl rfl ⟨_, rfl, H.newB rfl rfl hc1 hd1⟩

theorem packTag {S : Nat → Prop} {v : Value} {b h : List UInt8} (w : World) (hb : Bs w S v b) (hl : b.length ≤ 400000000000) (hh : h.length = 16) :
    Calls Tryd.prog 27 [v, .agg (h.map u8v).toArray].toArray w (Ret (NewB 5 w (b ++ h))) := by
  have hb0 := hb
  obtain ⟨A, c, rfl, _, _, hb⟩ := hb.op
  refine k_enter (l := [_, _]) Tryd.func27 rfl rfl ?_
  have H := St.start nT w
  refine k_seq ?_
  refine k_region ?_
  refine s_eff (e_box (w_none rfl) rfl rfl rfl rfl H ?_)
  clear H; intro g0_0 W H
  refine s_run (w_none rfl) rfl (as_s rfl rfl) ?_
  refine l_nil ?_
  refine k_seq ?_
  refine k_region ?_
  refine s_run (w_none rfl) rfl (mv_s rfl rfl) ?_
  refine s_run (w_none rfl) rfl (d_arrA rfl rfl tu38 ts5) ?_
  refine s_eff (e_call (w_none rfl) rfl rfl Tryd.func69 rfl rfl rfl (behind _ (H.bs hb0) (Bs.mk (l := h) (rd_blk H.blk (by simp; omega)) (by omega) (by omega)) (by omega)) ?_)
  rintro _ W ⟨A1, c1, rfl, hc1, hd1, hn⟩
  replace H := H.new hn
  clear hn
  refine s_run (w_none rfl) rfl (as_s rfl rfl) ?_
  refine l_nil ?_
  refine k_ret ?_
  repeat (first | refine r_then ?_ | refine r_blk ?_)
  exact q_ret (v := .slice _ _ _) rfl rfl ⟨_, rfl, H.newB rfl rfl hc1 hd1⟩

theorem refLow (n : Int) (m : Nat) (z : Int) (w : World) (hz : z = (m : Int)) (hm : m ≤ 8) :
    Calls Tryd.prog 74 [.int .i64 n, .int .i64 z].toArray w (Ret (NewB 5 w (Pk.le (Pk.toU n) m))) := by
  subst hz
  have hc := u64_wrap n
  have hlt := Pk.toU_lt n
  generalize Pk.toU n = u at *
  refine k_enter (l := [_, _]) Tryd.func74 rfl rfl ?_
  have H := St.start nT w
  refine k_seq ?_
  refine k_region ?_
  refine s_run (w_none rfl) rfl (as_s rfl rfl) ?_
  refine l_nil ?_
  refine k_seq ?_
  refine k_region ?_
  refine s_run (w_none rfl) rfl (mv_i rfl rfl) ?_
  refine s_run (w_none rfl) rfl (d_conv rfl rfl (by rw [tu3]; rfl) tu22 hc) ?_
  refine s_run (w_none rfl) rfl (as_i rfl rfl) ?_
  refine l_nil ?_
  refine k_seq ?_
  refine k_region ?_
  refine s_run (w_none rfl) rfl (as_s rfl rfl) ?_
  refine l_nil ?_
  replace H := H.nilrow 5 1
  refine k_seq ?_
  refine k_seq ?_
  refine k_region ?_
  refine s_run (w_none rfl) rfl (as_i rfl rfl) ?_
  refine l_nil ?_
  refine k_block ?_
  refine k_loop 10 [5, 6, 7] (fun mm sl W => ∃ k : Nat, ∃ B : Option Addr, ∃ d : Nat, m - k = mm ∧ sl = [(7, .int .i64 (k : Int)), (6, .slice B k d), (5, .int .u64 ((u / 256 ^ k : Nat) : Int))] ∧ (k ≤ m) ∧ (k ≤ d ∧ d ≤ 9223372036854775807) ∧ St nT w W [Fact.row 5 1 (.slice B k d) k ((Pk.le u k).map u8v)]) _ _ ⟨0, none, 0, rfl, rfl, Nat.zero_le _, ⟨Nat.le_refl _, by omega⟩, H⟩ ⟨rfl, rfl, vi (by simp), trivial⟩ (fun mm sl ρv W hJ => ?_)
  clear H; obtain ⟨k, B, d, rfl, rfl, hk, hd, H⟩ := hJ
  refine k_one ?_
  refine k_seq ?_
  refine k_seq ?_
  refine k_region ?_
  refine s_run (w_none rfl) rfl (mv_i rfl rfl) ?_
  refine s_run (w_none rfl) rfl (mv_i rfl rfl) ?_
  refine s_run (w_none rfl) rfl (d_lt rfl rfl rfl) ?_
  refine l_nil ?_
  refine k_cond rfl (fun hc12 => ?_) (fun hc12 => ?_)
  · first | (replace hc12 := of_decide_eq_true hc12) | simp at hc12
    refine k_skip ?_
    refine k_seq ?_
    refine k_block ?_
    refine k_seq ?_
    refine k_region ?_
    refine s_run (w_none rfl) rfl (mv_s rfl rfl) ?_
    refine s_run (w_none rfl) rfl (mv_i rfl rfl) ?_
    refine s_run (w_none rfl) rfl (d_remU rfl rfl rfl ⟨Int.natCast_nonneg _, by decide⟩) ?_
    refine s_run (w_none rfl) rfl (d_conv rfl rfl (by rw [tu22]; rfl) tu5 (u8_eq2 _)) ?_
    refine s_eff (e_bsl (xs := [.tmp 18]) (vals := [.int .u8 _]) (vs := [.int .u8 _]) (w_none rfl) rfl rfl rfl rfl rfl rfl tu23 ts5 ty5 rfl rfl rfl H ?_)
    clear H; intro g6_4 W H
    refine s_eff (e_app (w_none rfl) rfl rfl tu23 tx5 rfl rfl rfl H (rd_blk H.blk rfl) (rfl) (by omega) rfl ?_)
    clear H; intro A1 c1 W hc1 hd1 H
    replace H := H.drop
    refine s_run (w_none rfl) rfl (as_s rfl rfl) ?_
    refine l_nil ?_
    refine k_region ?_
    refine s_run (w_none rfl) rfl (mv_i rfl rfl) ?_
    refine s_run (w_none rfl) rfl (d_quo rfl rfl rfl ⟨Int.natCast_nonneg _, by decide⟩ (u64_div u k hlt)) ?_
    refine s_run (w_none rfl) rfl (as_i rfl rfl) ?_
    refine l_nil ?_
    refine k_nil ?_
    refine b_end ?_
    refine k_region ?_
    refine s_run (w_none rfl) rfl (mv_i rfl rfl) ?_
    refine s_run (w_none rfl) rfl (d_add rfl rfl rfl (by omega)) ?_
    refine s_run (w_none rfl) rfl (as_i rfl rfl) ?_
    refine l_nil ?_
    refine k_nil ?_
    refine k_next ?_
    refine ⟨_, _, _, ?_, rfl, ?_, ?_, ⟨k + 1, A1, c1, rfl, rfl, by omega, ⟨hc1, hd1⟩, by rw [Pk.le_succ, List.map_append]; exact H⟩⟩
    · omega
    · repeat (first | ((with_reducible refine Eqo.updl _ Eqo.ovr ?_); exact rfl) | ((with_reducible refine Eqo.upd ?_ ?_); rotate_left; exact rfl))
    · refine ⟨?_, ?_, ?_, trivial⟩
      · exact vi (by omega)
      · exact rfl
      · exact rfl
  · first | (replace hc12 := of_decide_eq_false hc12) | simp at hc12
    refine k_exit ?_
    refine x_then (x_then ?_)
    refine x_hit ?_
    refine k_seq ?_
    obtain rfl : k = m := by omega
    refine k_region ?_
    refine s_run (w_none rfl) rfl (mv_s rfl rfl) ?_
    refine s_run (w_none rfl) rfl (as_s rfl rfl) ?_
    refine l_nil ?_
    refine k_ret ?_
    repeat (first | refine r_then ?_ | refine r_blk ?_)
    exact q_ret (v := .slice _ _ _) rfl rfl ⟨_, rfl, H.newB (by rw [Pk.len_le]) rfl hd.1 hd.2⟩

theorem refInt1 {S : Nat → Prop} {v : Value} {b : List UInt8} (n : Int) (w : World) (hb : Bs w S v b) (hn : -9223372036854775808 ≤ n ∧ n ≤ 9223372036854775807) (hl : b.length ≤ 500000000000) (hu : 0 ≤ n ∧ n < 253) :
    Calls Tryd.prog 28 [v, .int .i64 n].toArray w (Ret (NewB 5 w (b ++ Pk.int (Pk.toU n)))) := by
  have hcast := Pk.toU_cast n
  have hb0 := hb
  obtain ⟨A, c, rfl, _, _, _⟩ := hb.op
  refine k_enter (l := [_, _]) Tryd.func28 rfl rfl ?_
  have H := St.start nT w
  refine k_seq ?_
  refine k_region ?_
  refine s_run (w_none rfl) rfl (as_s rfl rfl) ?_
  refine l_nil ?_
  refine k_seq ?_
  refine k_region ?_
  refine s_run (w_none rfl) rfl (mv_s rfl rfl) ?_
  refine s_eff (e_call (w_none rfl) rfl rfl Tryd.func67 rfl rfl rfl (copyBytes _ b _ (H.bs hb0) (by omega)) ?_)
  rintro _ W ⟨A0, c0, rfl, hc0, hd0, hn⟩
  replace H := H.new hn
  clear hn
  refine s_run (w_none rfl) rfl (as_s rfl rfl) ?_
  refine l_nil ?_
  refine k_seq ?_
  refine k_seq ?_
  refine k_region ?_
  refine s_run (w_none rfl) rfl (mv_i rfl rfl) ?_
  refine s_run (w_none rfl) rfl (d_ge rfl rfl rfl) ?_
  refine s_run (w_none rfl) rfl (mv_bx (c := true) rfl rfl ((by first | (simp; done) | (simp; omega)))) ?_
  refine s_run (w_g rfl rfl rfl rfl) rfl (mv_i rfl rfl) ?_
  refine s_run (w_g rfl rfl rfl rfl) rfl (d_lt rfl rfl rfl) ?_
  refine s_run (w_none rfl) rfl (d_pickT rfl rfl rfl) ?_
  refine l_nil ?_
  refine k_condT rfl (by first | (simp; done) | (simp; omega)) ?_
  refine k_seq ?_
  refine k_region ?_
  refine s_run (w_none rfl) rfl (mv_s rfl rfl) ?_
  refine s_run (w_none rfl) rfl (mv_i rfl rfl) ?_
  refine s_run (w_none rfl) rfl (d_conv rfl rfl (by rw [tu3]; rfl) tu5 (u8_eq (n := Pk.toU n) (by omega))) ?_
  refine s_eff (e_bsl (xs := [.tmp 16]) (vals := [.int .u8 _]) (vs := [.int .u8 _]) (w_none rfl) rfl rfl rfl rfl rfl rfl tu23 ts5 ty5 rfl rfl rfl H ?_)
  clear H; intro g3_3 W H
  refine s_eff (e_app (w_none rfl) rfl rfl tu23 tx5 rfl rfl rfl H (rd_blk H.blk rfl) (rfl) (by omega) rfl ?_)
  clear H; intro A1 c1 W hc1 hd1 H
  replace H := H.drop
  refine s_run (w_none rfl) rfl (as_s rfl rfl) ?_
  refine l_nil ?_
  refine k_ret ?_
  repeat (first | refine r_then ?_ | refine r_blk ?_)
  exact q_ret (v := .slice _ _ _) rfl rfl ⟨_, rfl, H.newB (by rw [Pk.int_1 (by omega)]; simp) (by rw [Pk.int_1 (by omega)]; simp) hc1 hd1⟩

theorem refInt2 {S : Nat → Prop} {v : Value} {b : List UInt8} (n : Int) (w : World) (hb : Bs w S v b) (hn : -9223372036854775808 ≤ n ∧ n ≤ 9223372036854775807) (hl : b.length ≤ 500000000000) (hu : 253 ≤ n ∧ n < 65536) :
    Calls Tryd.prog 28 [v, .int .i64 n].toArray w (Ret (NewB 5 w (b ++ Pk.int (Pk.toU n)))) := by
  have hcast := Pk.toU_cast n
  have hb0 := hb
  obtain ⟨A, c, rfl, _, _, _⟩ := hb.op
  refine k_enter (l := [_, _]) Tryd.func28 rfl rfl ?_
  have H := St.start nT w
  refine k_seq ?_
  refine k_region ?_
  refine s_run (w_none rfl) rfl (as_s rfl rfl) ?_
  refine l_nil ?_
  refine k_seq ?_
  refine k_region ?_
  refine s_run (w_none rfl) rfl (mv_s rfl rfl) ?_
  refine s_eff (e_call (w_none rfl) rfl rfl Tryd.func67 rfl rfl rfl (copyBytes _ b _ (H.bs hb0) (by omega)) ?_)
  rintro _ W ⟨A0, c0, rfl, hc0, hd0, hn⟩
  replace H := H.new hn
  clear hn
  refine s_run (w_none rfl) rfl (as_s rfl rfl) ?_
  refine l_nil ?_
  refine k_seq ?_
  refine k_seq ?_
  refine k_region ?_
  refine s_run (w_none rfl) rfl (mv_i rfl rfl) ?_
  refine s_run (w_none rfl) rfl (d_ge rfl rfl rfl) ?_
  refine s_run (w_none rfl) rfl (mv_bx (c := true) rfl rfl ((by first | (simp; done) | (simp; omega)))) ?_
  refine s_run (w_g rfl rfl rfl rfl) rfl (mv_i rfl rfl) ?_
  refine s_run (w_g rfl rfl rfl rfl) rfl (d_lt rfl rfl rfl) ?_
  refine s_run (w_none rfl) rfl (d_pickT rfl rfl rfl) ?_
  refine l_nil ?_
  refine k_condF rfl (by first | (simp; done) | (simp; omega)) ?_
  refine k_skip ?_
  refine k_seq ?_
  refine k_seq ?_
  refine k_region ?_
  refine s_run (w_none rfl) rfl (mv_i rfl rfl) ?_
  refine s_run (w_none rfl) rfl (d_ge rfl rfl rfl) ?_
  refine s_run (w_none rfl) rfl (mv_bx (c := true) rfl rfl ((by first | (simp; done) | (simp; omega)))) ?_
  refine s_run (w_g rfl rfl rfl rfl) rfl (mv_i rfl rfl) ?_
  refine s_run (w_g rfl rfl rfl rfl) rfl (d_lt rfl rfl rfl) ?_
  refine s_run (w_none rfl) rfl (d_pickT rfl rfl rfl) ?_
  refine l_nil ?_
  refine k_condT rfl (by first | (simp; done) | (simp; omega)) ?_
  refine k_seq ?_
  refine k_region ?_
  refine s_run (w_none rfl) rfl (mv_s rfl rfl) ?_
  refine s_eff (e_bsl (xs := [.const (.int .u8 253)]) (vals := [.int .u8 _]) (vs := [.int .u8 _]) (w_none rfl) rfl rfl rfl rfl rfl rfl tu23 ts5 ty5 rfl rfl rfl H ?_)
  clear H; intro g5_1 W H
  refine s_eff (e_app (w_none rfl) rfl rfl tu23 tx5 rfl rfl rfl H (rd_blk H.blk rfl) (rfl) (by omega) rfl ?_)
  clear H; intro A1 c1 W hc1 hd1 H
  replace H := H.drop
  refine s_run (w_none rfl) rfl (mv_i rfl rfl) ?_
  refine s_eff (e_call (w_none rfl) rfl rfl Tryd.func74 rfl rfl rfl (refLow n 2 _ _ rfl (by omega)) ?_)
  rintro _ W ⟨A2, c2, rfl, hc2, hd2, hn⟩
  replace H := H.new hn
  clear hn
  refine s_eff (e_app (w_none rfl) rfl rfl tu23 tx5 rfl rfl rfl H (H.rowrd (A := A2)) (all_u8L _) (by simp [Pk.len_le]; omega) rfl ?_)
  clear H; intro A3 c3 W hc3 hd3 H
  refine s_run (w_none rfl) rfl (as_s rfl rfl) ?_
  refine l_nil ?_
  refine k_ret ?_
  repeat (first | refine r_then ?_ | refine r_blk ?_)
  exact q_ret (v := .slice _ _ _) rfl rfl ⟨_, rfl, H.newB (by rw [Pk.int_2 (by omega) (by omega)]; simp [Pk.len_le]) (by rw [Pk.int_2 (by omega) (by omega)]; simp) hc3 hd3⟩

theorem refInt4 {S : Nat → Prop} {v : Value} {b : List UInt8} (n : Int) (w : World) (hb : Bs w S v b) (hn : -9223372036854775808 ≤ n ∧ n ≤ 9223372036854775807) (hl : b.length ≤ 500000000000) (hu : 65536 ≤ n ∧ n < 4294967296) :
    Calls Tryd.prog 28 [v, .int .i64 n].toArray w (Ret (NewB 5 w (b ++ Pk.int (Pk.toU n)))) := by
  have hcast := Pk.toU_cast n
  have hb0 := hb
  obtain ⟨A, c, rfl, _, _, _⟩ := hb.op
  refine k_enter (l := [_, _]) Tryd.func28 rfl rfl ?_
  have H := St.start nT w
  refine k_seq ?_
  refine k_region ?_
  refine s_run (w_none rfl) rfl (as_s rfl rfl) ?_
  refine l_nil ?_
  refine k_seq ?_
  refine k_region ?_
  refine s_run (w_none rfl) rfl (mv_s rfl rfl) ?_
  refine s_eff (e_call (w_none rfl) rfl rfl Tryd.func67 rfl rfl rfl (copyBytes _ b _ (H.bs hb0) (by omega)) ?_)
  rintro _ W ⟨A0, c0, rfl, hc0, hd0, hn⟩
  replace H := H.new hn
  clear hn
  refine s_run (w_none rfl) rfl (as_s rfl rfl) ?_
  refine l_nil ?_
  refine k_seq ?_
  refine k_seq ?_
  refine k_region ?_
  refine s_run (w_none rfl) rfl (mv_i rfl rfl) ?_
  refine s_run (w_none rfl) rfl (d_ge rfl rfl rfl) ?_
  refine s_run (w_none rfl) rfl (mv_bx (c := true) rfl rfl ((by first | (simp; done) | (simp; omega)))) ?_
  refine s_run (w_g rfl rfl rfl rfl) rfl (mv_i rfl rfl) ?_
  refine s_run (w_g rfl rfl rfl rfl) rfl (d_lt rfl rfl rfl) ?_
  refine s_run (w_none rfl) rfl (d_pickT rfl rfl rfl) ?_
  refine l_nil ?_
  refine k_condF rfl (by first | (simp; done) | (simp; omega)) ?_
  refine k_skip ?_
  refine k_seq ?_
  refine k_seq ?_
  refine k_region ?_
  refine s_run (w_none rfl) rfl (mv_i rfl rfl) ?_
  refine s_run (w_none rfl) rfl (d_ge rfl rfl rfl) ?_
  refine s_run (w_none rfl) rfl (mv_bx (c := true) rfl rfl ((by first | (simp; done) | (simp; omega)))) ?_
  refine s_run (w_g rfl rfl rfl rfl) rfl (mv_i rfl rfl) ?_
  refine s_run (w_g rfl rfl rfl rfl) rfl (d_lt rfl rfl rfl) ?_
  refine s_run (w_none rfl) rfl (d_pickT rfl rfl rfl) ?_
  refine l_nil ?_
  refine k_condF rfl (by first | (simp; done) | (simp; omega)) ?_
  refine k_skip ?_
  refine k_seq ?_
  refine k_seq ?_
  refine k_region ?_
  refine s_run (w_none rfl) rfl (mv_i rfl rfl) ?_
  refine s_run (w_none rfl) rfl (d_ge rfl rfl rfl) ?_
  refine s_run (w_none rfl) rfl (mv_bx (c := true) rfl rfl ((by first | (simp; done) | (simp; omega)))) ?_
  refine s_run (w_g rfl rfl rfl rfl) rfl (mv_i rfl rfl) ?_
  refine s_run (w_g rfl rfl rfl rfl) rfl (d_lt rfl rfl rfl) ?_
  refine s_run (w_none rfl) rfl (d_pickT rfl rfl rfl) ?_
  refine l_nil ?_
  refine k_condT rfl (by first | (simp; done) | (simp; omega)) ?_
  refine k_seq ?_
  refine k_region ?_
  refine s_run (w_none rfl) rfl (mv_s rfl rfl) ?_
  refine s_eff (e_bsl (xs := [.const (.int .u8 254)]) (vals := [.int .u8 _]) (vs := [.int .u8 _]) (w_none rfl) rfl rfl rfl rfl rfl rfl tu23 ts5 ty5 rfl rfl rfl H ?_)
  clear H; intro g7_1 W H
  refine s_eff (e_app (w_none rfl) rfl rfl tu23 tx5 rfl rfl rfl H (rd_blk H.blk rfl) (rfl) (by omega) rfl ?_)
  clear H; intro A1 c1 W hc1 hd1 H
  replace H := H.drop
  refine s_run (w_none rfl) rfl (mv_i rfl rfl) ?_
  refine s_eff (e_call (w_none rfl) rfl rfl Tryd.func74 rfl rfl rfl (refLow n 4 _ _ rfl (by omega)) ?_)
  rintro _ W ⟨A2, c2, rfl, hc2, hd2, hn⟩
  replace H := H.new hn
  clear hn
  refine s_eff (e_app (w_none rfl) rfl rfl tu23 tx5 rfl rfl rfl H (H.rowrd (A := A2)) (all_u8L _) (by simp [Pk.len_le]; omega) rfl ?_)
  clear H; intro A3 c3 W hc3 hd3 H
  refine s_run (w_none rfl) rfl (as_s rfl rfl) ?_
  refine l_nil ?_
  refine k_ret ?_
  repeat (first | refine r_then ?_ | refine r_blk ?_)
  exact q_ret (v := .slice _ _ _) rfl rfl ⟨_, rfl, H.newB (by rw [Pk.int_4 (by omega) (by omega)]; simp [Pk.len_le]) (by rw [Pk.int_4 (by omega) (by omega)]; simp) hc3 hd3⟩

theorem refInt8 {S : Nat → Prop} {v : Value} {b : List UInt8} (n : Int) (w : World) (hb : Bs w S v b) (hn : -9223372036854775808 ≤ n ∧ n ≤ 9223372036854775807) (hl : b.length ≤ 500000000000) (hu : 4294967296 ≤ n) :
    Calls Tryd.prog 28 [v, .int .i64 n].toArray w (Ret (NewB 5 w (b ++ Pk.int (Pk.toU n)))) := by
  have hcast := Pk.toU_cast n
  have hb0 := hb
  obtain ⟨A, c, rfl, _, _, _⟩ := hb.op
  refine k_enter (l := [_, _]) Tryd.func28 rfl rfl ?_
  have H := St.start nT w
  refine k_seq ?_
  refine k_region ?_
  refine s_run (w_none rfl) rfl (as_s rfl rfl) ?_
  refine l_nil ?_
  refine k_seq ?_
  refine k_region ?_
  refine s_run (w_none rfl) rfl (mv_s rfl rfl) ?_
  refine s_eff (e_call (w_none rfl) rfl rfl Tryd.func67 rfl rfl rfl (copyBytes _ b _ (H.bs hb0) (by omega)) ?_)
  rintro _ W ⟨A0, c0, rfl, hc0, hd0, hn⟩
  replace H := H.new hn
  clear hn
  refine s_run (w_none rfl) rfl (as_s rfl rfl) ?_
  refine l_nil ?_
  refine k_seq ?_
  refine k_seq ?_
  refine k_region ?_
  refine s_run (w_none rfl) rfl (mv_i rfl rfl) ?_
  refine s_run (w_none rfl) rfl (d_ge rfl rfl rfl) ?_
  refine s_run (w_none rfl) rfl (mv_bx (c := true) rfl rfl ((by first | (simp; done) | (simp; omega)))) ?_
  refine s_run (w_g rfl rfl rfl rfl) rfl (mv_i rfl rfl) ?_
  refine s_run (w_g rfl rfl rfl rfl) rfl (d_lt rfl rfl rfl) ?_
  refine s_run (w_none rfl) rfl (d_pickT rfl rfl rfl) ?_
  refine l_nil ?_
  refine k_condF rfl (by first | (simp; done) | (simp; omega)) ?_
  refine k_skip ?_
  refine k_seq ?_
  refine k_seq ?_
  refine k_region ?_
  refine s_run (w_none rfl) rfl (mv_i rfl rfl) ?_
  refine s_run (w_none rfl) rfl (d_ge rfl rfl rfl) ?_
  refine s_run (w_none rfl) rfl (mv_bx (c := true) rfl rfl ((by first | (simp; done) | (simp; omega)))) ?_
  refine s_run (w_g rfl rfl rfl rfl) rfl (mv_i rfl rfl) ?_
  refine s_run (w_g rfl rfl rfl rfl) rfl (d_lt rfl rfl rfl) ?_
  refine s_run (w_none rfl) rfl (d_pickT rfl rfl rfl) ?_
  refine l_nil ?_
  refine k_condF rfl (by first | (simp; done) | (simp; omega)) ?_
  refine k_skip ?_
  refine k_seq ?_
  refine k_seq ?_
  refine k_region ?_
  refine s_run (w_none rfl) rfl (mv_i rfl rfl) ?_
  refine s_run (w_none rfl) rfl (d_ge rfl rfl rfl) ?_
  refine s_run (w_none rfl) rfl (mv_bx (c := true) rfl rfl ((by first | (simp; done) | (simp; omega)))) ?_
  refine s_run (w_g rfl rfl rfl rfl) rfl (mv_i rfl rfl) ?_
  refine s_run (w_g rfl rfl rfl rfl) rfl (d_lt rfl rfl rfl) ?_
  refine s_run (w_none rfl) rfl (d_pickT rfl rfl rfl) ?_
  refine l_nil ?_
  refine k_condF rfl (by first | (simp; done) | (simp; omega)) ?_
  refine k_skip ?_
  refine k_seq ?_
  refine k_region ?_
  refine s_run (w_none rfl) rfl (mv_s rfl rfl) ?_
  refine s_eff (e_bsl (xs := [.const (.int .u8 255)]) (vals := [.int .u8 _]) (vs := [.int .u8 _]) (w_none rfl) rfl rfl rfl rfl rfl rfl tu23 ts5 ty5 rfl rfl rfl H ?_)
  clear H; intro g8_1 W H
  refine s_eff (e_app (w_none rfl) rfl rfl tu23 tx5 rfl rfl rfl H (rd_blk H.blk rfl) (rfl) (by omega) rfl ?_)
  clear H; intro A1 c1 W hc1 hd1 H
  replace H := H.drop
  refine s_run (w_none rfl) rfl (mv_i rfl rfl) ?_
  refine s_eff (e_call (w_none rfl) rfl rfl Tryd.func74 rfl rfl rfl (refLow n 8 _ _ rfl (by omega)) ?_)
  rintro _ W ⟨A2, c2, rfl, hc2, hd2, hn⟩
  replace H := H.new hn
  clear hn
  refine s_eff (e_app (w_none rfl) rfl rfl tu23 tx5 rfl rfl rfl H (H.rowrd (A := A2)) (all_u8L _) (by simp [Pk.len_le]; omega) rfl ?_)
  clear H; intro A3 c3 W hc3 hd3 H
  refine s_run (w_none rfl) rfl (as_s rfl rfl) ?_
  refine l_nil ?_
  refine k_ret ?_
  repeat (first | refine r_then ?_ | refine r_blk ?_)
  exact q_ret (v := .slice _ _ _) rfl rfl ⟨_, rfl, H.newB (by rw [Pk.int_8 (by omega)]; simp [Pk.len_le]) (by rw [Pk.int_8 (by omega)]; simp) hc3 hd3⟩

theorem refIntN {S : Nat → Prop} {v : Value} {b : List UInt8} (n : Int) (w : World) (hb : Bs w S v b) (hn : -9223372036854775808 ≤ n ∧ n ≤ 9223372036854775807) (hl : b.length ≤ 500000000000) (hu : n < 0) :
    Calls Tryd.prog 28 [v, .int .i64 n].toArray w (Ret (NewB 5 w (b ++ Pk.int (Pk.toU n)))) := by
  have hcast := Pk.toU_cast n
  have hb0 := hb
  obtain ⟨A, c, rfl, _, _, _⟩ := hb.op
  refine k_enter (l := [_, _]) Tryd.func28 rfl rfl ?_
  have H := St.start nT w
  refine k_seq ?_
  refine k_region ?_
  refine s_run (w_none rfl) rfl (as_s rfl rfl) ?_
  refine l_nil ?_
  refine k_seq ?_
  refine k_region ?_
  refine s_run (w_none rfl) rfl (mv_s rfl rfl) ?_
  refine s_eff (e_call (w_none rfl) rfl rfl Tryd.func67 rfl rfl rfl (copyBytes _ b _ (H.bs hb0) (by omega)) ?_)
  rintro _ W ⟨A0, c0, rfl, hc0, hd0, hn⟩
  replace H := H.new hn
  clear hn
  refine s_run (w_none rfl) rfl (as_s rfl rfl) ?_
  refine l_nil ?_
  refine k_seq ?_
  refine k_seq ?_
  refine k_region ?_
  refine s_run (w_none rfl) rfl (mv_i rfl rfl) ?_
  refine s_run (w_none rfl) rfl (d_ge rfl rfl rfl) ?_
  refine s_run (w_none rfl) rfl (mv_bx (c := false) rfl rfl ((by first | (simp; done) | (simp; omega)))) ?_
  refine s_skip (w_gno rfl rfl rfl rfl rfl) rfl ?_
  refine s_skip (w_gno rfl rfl rfl rfl rfl) rfl ?_
  refine s_run (w_none rfl) rfl (d_pickF rfl rfl rfl) ?_
  refine l_nil ?_
  refine k_condF rfl (by first | (simp; done) | (simp; omega)) ?_
  refine k_skip ?_
  refine k_seq ?_
  refine k_seq ?_
  refine k_region ?_
  refine s_run (w_none rfl) rfl (mv_i rfl rfl) ?_
  refine s_run (w_none rfl) rfl (d_ge rfl rfl rfl) ?_
  refine s_run (w_none rfl) rfl (mv_bx (c := false) rfl rfl ((by first | (simp; done) | (simp; omega)))) ?_
  refine s_skip (w_gno rfl rfl rfl rfl rfl) rfl ?_
  refine s_skip (w_gno rfl rfl rfl rfl rfl) rfl ?_
  refine s_run (w_none rfl) rfl (d_pickF rfl rfl rfl) ?_
  refine l_nil ?_
  refine k_condF rfl (by first | (simp; done) | (simp; omega)) ?_
  refine k_skip ?_
  refine k_seq ?_
  refine k_seq ?_
  refine k_region ?_
  refine s_run (w_none rfl) rfl (mv_i rfl rfl) ?_
  refine s_run (w_none rfl) rfl (d_ge rfl rfl rfl) ?_
  refine s_run (w_none rfl) rfl (mv_bx (c := false) rfl rfl ((by first | (simp; done) | (simp; omega)))) ?_
  refine s_skip (w_gno rfl rfl rfl rfl rfl) rfl ?_
  refine s_skip (w_gno rfl rfl rfl rfl rfl) rfl ?_
  refine s_run (w_none rfl) rfl (d_pickF rfl rfl rfl) ?_
  refine l_nil ?_
  refine k_condF rfl (by first | (simp; done) | (simp; omega)) ?_
  refine k_skip ?_
  refine k_seq ?_
  refine k_region ?_
  refine s_run (w_none rfl) rfl (mv_s rfl rfl) ?_
  refine s_eff (e_bsl (xs := [.const (.int .u8 255)]) (vals := [.int .u8 _]) (vs := [.int .u8 _]) (w_none rfl) rfl rfl rfl rfl rfl rfl tu23 ts5 ty5 rfl rfl rfl H ?_)
  clear H; intro g8_1 W H
  refine s_eff (e_app (w_none rfl) rfl rfl tu23 tx5 rfl rfl rfl H (rd_blk H.blk rfl) (rfl) (by omega) rfl ?_)
  clear H; intro A1 c1 W hc1 hd1 H
  replace H := H.drop
  refine s_run (w_none rfl) rfl (mv_i rfl rfl) ?_
  refine s_eff (e_call (w_none rfl) rfl rfl Tryd.func74 rfl rfl rfl (refLow n 8 _ _ rfl (by omega)) ?_)
  rintro _ W ⟨A2, c2, rfl, hc2, hd2, hn⟩
  replace H := H.new hn
  clear hn
  refine s_eff (e_app (w_none rfl) rfl rfl tu23 tx5 rfl rfl rfl H (H.rowrd (A := A2)) (all_u8L _) (by simp [Pk.len_le]; omega) rfl ?_)
  clear H; intro A3 c3 W hc3 hd3 H
  refine s_run (w_none rfl) rfl (as_s rfl rfl) ?_
  refine l_nil ?_
  refine k_ret ?_
  repeat (first | refine r_then ?_ | refine r_blk ?_)
  exact q_ret (v := .slice _ _ _) rfl rfl ⟨_, rfl, H.newB (by rw [Pk.int_8 (by omega)]; simp [Pk.len_le]) (by rw [Pk.int_8 (by omega)]; simp) hc3 hd3⟩

theorem refInt {S : Nat → Prop} {v : Value} {b : List UInt8} (n : Int) (w : World) (hb : Bs w S v b) (hn : -9223372036854775808 ≤ n ∧ n ≤ 9223372036854775807) (hl : b.length ≤ 500000000000) :
    Calls Tryd.prog 28 [v, .int .i64 n].toArray w (Ret (NewB 5 w (b ++ Pk.int (Pk.toU n)))) := by
  rcases Int.lt_or_le n 0 with h | h
  · exact refIntN n w hb hn hl h
  rcases Int.lt_or_le n 253 with h1 | h1
  · exact refInt1 n w hb hn hl ⟨h, h1⟩
  rcases Int.lt_or_le n 65536 with h2 | h2
  · exact refInt2 n w hb hn hl ⟨h1, h2⟩
  rcases Int.lt_or_le n 4294967296 with h4 | h4
  · exact refInt4 n w hb hn hl ⟨h2, h4⟩
  · exact refInt8 n w hb hn hl h4

theorem refBlob {S S1 : Nat → Prop} {v u : Value} {b p : List UInt8} (w : World) (hb : Bs w S v b) (hl : b.length ≤ 400000000000) (hp : Bs w S1 u p) (hl2 : p.length ≤ 400000000000) :
    Calls Tryd.prog 29 [v, u].toArray w (Ret (NewB 5 w (b ++ (Pk.int p.length ++ p)))) := by
  have hb0 := hb
  obtain ⟨A, c, rfl, _, _, hb⟩ := hb.op
  have hp0 := hp
  obtain ⟨B, d, rfl, _, _, hp⟩ := hp.op
  have hi := Pk.len_int p.length
  refine k_enter (l := [_, _]) Tryd.func29 rfl rfl ?_
  have H := St.start nT w
  refine k_seq ?_
  refine k_region ?_
  refine s_run (w_none rfl) rfl (as_s rfl rfl) ?_
  refine l_nil ?_
  refine k_seq ?_
  refine k_region ?_
  refine s_run (w_none rfl) rfl (mv_s rfl rfl) ?_
  refine s_run (w_none rfl) rfl (mv_s rfl rfl) ?_
  refine s_run (w_none rfl) rfl (d_len rfl rfl tu23) ?_
  refine s_eff (e_call (w_none rfl) rfl rfl Tryd.func28 rfl rfl rfl (refInt _ _ (H.bs hb0) (by omega) (by omega)) ?_)
  rw [Pk.toU_pos _ (by omega) (by omega), Int.toNat_natCast]
  rintro _ W ⟨A1, c1, rfl, hc1, hd1, hn⟩
  replace H := H.new hn
  clear hn
  refine s_run (w_none rfl) rfl (mv_s rfl rfl) ?_
  refine s_eff (e_app (w_none rfl) rfl rfl tu23 tx5 rfl rfl rfl H (H.rd hp) (all_u8L _) (by rw [List.length_append]; omega) rfl ?_)
  clear H; intro A2 c2 W hc2 hd2 H
  refine s_run (w_none rfl) rfl (as_s rfl rfl) ?_
  refine l_nil ?_
  refine k_ret ?_
  repeat (first | refine r_then ?_ | refine r_blk ?_)
  exact q_ret (v := .slice _ _ _) rfl rfl ⟨_, rfl, H.newB (by simp; omega) (by simp) hc2 hd2⟩

theorem refHash {S : Nat → Prop} {v : Value} {b h : List UInt8} (w : World) (hb : Bs w S v b) (hl : b.length ≤ 400000000000) (hh : h.length = 32) :
    Calls Tryd.prog 30 [v, .agg (h.map u8v).toArray].toArray w (Ret (NewB 5 w (b ++ h))) := by
  have hb0 := hb
  obtain ⟨A, c, rfl, _, _, hb⟩ := hb.op
  refine k_enter (l := [_, _]) Tryd.func30 rfl rfl ?_
  have H := St.start nT w
  refine k_seq ?_
  refine k_region ?_
  refine s_eff (e_box (w_none rfl) rfl rfl rfl rfl H ?_)
  clear H; intro g0_0 W H
  refine s_run (w_none rfl) rfl (as_s rfl rfl) ?_
  refine l_nil ?_
  refine k_seq ?_
  refine k_draw [(0, true), (2, true), (1, false), (3, false), (4, true)] _ (by kernel_rfl) (by kernel_rfl) H (.refl _) ?_
  clear H; intro W H
  refine c_run rfl (w_none rfl) rfl (fun W H => mv_s rfl rfl) ?_
  refine c_run rfl (w_none rfl) rfl (fun W H => d_arrA rfl rfl tu36 ts5) ?_
  refine c_eff rfl (e_call (w_none rfl) rfl rfl Tryd.func67 rfl rfl rfl (copyBytes _ b _ (H.bs hb0) (by omega)) ?_)
  rintro _ W ⟨A1, c1, rfl, hc1, hd1, hn⟩
  replace H := H.new hn
  clear hn
  refine ⟨H.sub (by repeat (first | exact List.Sublist.refl _ | refine List.Sublist.cons_cons _ ?_ | refine List.Sublist.cons _ ?_)), ?_⟩
  refine c_eff rfl (e_app (w_none rfl) rfl rfl tu23 tx5 rfl rfl rfl H (rd_blk H.blk (by simp; omega)) (all_u8L _) (by omega) rfl ?_)
  clear H; intro A2 c2 W hc2 hd2 H
  refine ⟨H.sub (by repeat (first | exact List.Sublist.refl _ | refine List.Sublist.cons_cons _ ?_ | refine List.Sublist.cons _ ?_)), ?_⟩
  refine c_run rfl (w_none rfl) rfl (fun W H => as_s rfl rfl) ?_
  refine c_nil ?_
  refine k_ret ?_
  repeat (first | refine r_then ?_ | refine r_blk ?_)
  exact q_ret (v := .slice _ _ _) rfl rfl ⟨_, rfl, H.newB (by simp; omega) (by simp) hc2 hd2⟩

theorem refTag {S : Nat → Prop} {v : Value} {b h : List UInt8} (w : World) (hb : Bs w S v b) (hl : b.length ≤ 400000000000) (hh : h.length = 16) :
    Calls Tryd.prog 31 [v, .agg (h.map u8v).toArray].toArray w (Ret (NewB 5 w (b ++ h))) := by
  have hb0 := hb
  obtain ⟨A, c, rfl, _, _, hb⟩ := hb.op
  refine k_enter (l := [_, _]) Tryd.func31 rfl rfl ?_
  have H := St.start nT w
  refine k_seq ?_
  refine k_region ?_
  refine s_eff (e_box (w_none rfl) rfl rfl rfl rfl H ?_)
  clear H; intro g0_0 W H
  refine s_run (w_none rfl) rfl (as_s rfl rfl) ?_
  refine l_nil ?_
  refine k_seq ?_
  refine k_draw [(0, true), (2, true), (1, false), (3, false), (4, true)] _ (by kernel_rfl) (by kernel_rfl) H (.refl _) ?_
  clear H; intro W H
  refine c_run rfl (w_none rfl) rfl (fun W H => mv_s rfl rfl) ?_
  refine c_run rfl (w_none rfl) rfl (fun W H => d_arrA rfl rfl tu38 ts5) ?_
  refine c_eff rfl (e_call (w_none rfl) rfl rfl Tryd.func67 rfl rfl rfl (copyBytes _ b _ (H.bs hb0) (by omega)) ?_)
  rintro _ W ⟨A1, c1, rfl, hc1, hd1, hn⟩
  replace H := H.new hn
  clear hn
  refine ⟨H.sub (by repeat (first | exact List.Sublist.refl _ | refine List.Sublist.cons_cons _ ?_ | refine List.Sublist.cons _ ?_)), ?_⟩
  refine c_eff rfl (e_app (w_none rfl) rfl rfl tu23 tx5 rfl rfl rfl H (rd_blk H.blk (by simp; omega)) (all_u8L _) (by omega) rfl ?_)
  clear H; intro A2 c2 W hc2 hd2 H
  refine ⟨H.sub (by repeat (first | exact List.Sublist.refl _ | refine List.Sublist.cons_cons _ ?_ | refine List.Sublist.cons _ ?_)), ?_⟩
  refine c_run rfl (w_none rfl) rfl (fun W H => as_s rfl rfl) ?_
  refine c_nil ?_
  refine k_ret ?_
  repeat (first | refine r_then ?_ | refine r_blk ?_)
  exact q_ret (v := .slice _ _ _) rfl rfl ⟨_, rfl, H.newB (by simp; omega) (by simp) hc2 hd2⟩
end Go.Proofs.YtejaohlijaodjaaDoor
