/- Contracts of the small helpers over lists of bytes. -/
import Derived.Test.YtejaohlijaodjaaDoorVZ
import Derived.Test.YtejaohlijaodjaaDoorTy
namespace Go.Proofs.YtejaohlijaodjaaDoor
open Go Go.RowKit
attribute [local irreducible] wpList

theorem copyBytes {S : Nat → Prop} (v : Value) (l : List UInt8) (w : World) (ha : Bs w S v l) (hl : l.length ≤ 1000000000000) :
    Calls Tryd.prog 67 [v].toArray w (Ret (NewB 5 w l)) := by
  obtain ⟨A, c, rfl, hc, hc2, ha⟩ := ha.op
  refine k_enter (l := [_]) Tryd.func67 rfl rfl ?_
  have H := St.start nT w
  refine k_seq ?_
  refine k_region ?_
  refine s_run (w_none rfl) rfl (as_s rfl rfl) ?_
  refine l_nil ?_
  refine k_seq ?_
  refine k_region ?_
  refine s_run (w_none rfl) rfl (as_s rfl rfl) ?_
  refine l_nil ?_
  replace H := H.nilrow 5 1
  refine k_seq ?_
  refine k_seq ?_
  refine k_region ?_
  refine s_run (w_none rfl) rfl (as_i rfl rfl) ?_
  refine l_nil ?_
  refine k_block ?_
  refine k_loop 3 [] (fun mm sl W => ∃ k : Nat, ∃ B : Option Addr, ∃ d : Nat, l.length - k = mm ∧ sl = [(4, .int .i64 (k : Int)), (3, .slice B k d)] ∧ (k ≤ l.length) ∧ (k ≤ d ∧ d ≤ 9223372036854775807) ∧ St nT w W [Fact.row 5 1 (.slice B k d) k ((l.take k).map u8v)]) _ _ ⟨0, none, 0, rfl, rfl, Nat.zero_le _, ⟨Nat.le_refl _, by omega⟩, H⟩ ⟨rfl, rfl, trivial⟩ (fun mm sl ρv W hJ => ?_)
  clear H; obtain ⟨k, B, d, rfl, rfl, hk, hd, H⟩ := hJ
  refine k_one ?_
  refine k_seq ?_
  refine k_seq ?_
  refine k_region ?_
  refine s_run (w_none rfl) rfl (mv_i rfl rfl) ?_
  refine s_run (w_none rfl) rfl (mv_s rfl rfl) ?_
  refine s_run (w_none rfl) rfl (d_len rfl rfl tu23) ?_
  refine s_run (w_none rfl) rfl (d_lt rfl rfl rfl) ?_
  refine l_nil ?_
  refine k_cond rfl (fun hc8 => ?_) (fun hc8 => ?_)
  · first | (replace hc8 := of_decide_eq_true hc8) | simp at hc8
    refine k_skip ?_
    refine k_seq ?_
    refine k_block ?_
    have hlt : k + 1 ≤ l.length := by omega
    refine k_region ?_
    refine s_run (w_none rfl) rfl (mv_s rfl rfl) ?_
    refine s_run (w_none rfl) rfl (mv_s rfl rfl) ?_
    refine s_run (w_none rfl) rfl (mv_i rfl rfl) ?_
    refine s_run (w_none rfl) rfl (d_iaB rfl (H.rd ha) rfl rfl rfl (by omega) tu23 ts5) ?_
    refine s_run (w_none rfl) rfl (d_ldB rfl (H.rd ha) (l_get (by omega)) rfl ta5) ?_
    refine s_eff (e_bsl (xs := [.tmp 15]) (vals := [.int .u8 _]) (vs := [.int .u8 _]) (w_none rfl) rfl rfl rfl rfl rfl rfl tu23 ts5 ty5 rfl rfl rfl H ?_)
    clear H; intro g5_5 W H
    refine s_eff (e_app (w_none rfl) rfl rfl tu23 tx5 rfl rfl rfl H (rd_blk H.blk rfl) (rfl) (by omega) rfl ?_)
    clear H; intro A1 c1 W hc1 hd1 H
    replace H := H.drop
    refine s_run (w_none rfl) rfl (as_s rfl rfl) ?_
    refine l_nil ?_
    refine k_nil ?_
    refine b_end ?_
    refine k_region ?_
    refine s_run (w_none rfl) rfl (mv_i rfl rfl) ?_
    refine s_run (w_none rfl) rfl (d_add rfl rfl rfl (by omega)) ?_
    refine s_run (w_none rfl) rfl (as_i rfl rfl) ?_
    refine l_nil ?_
    refine k_nil ?_
    refine k_next ?_
    refine ⟨_, _, _, ?_, rfl, ?_, ?_, ⟨k + 1, A1, c1, rfl, rfl, hlt, ⟨hc1, hd1⟩, by rw [take_u8 hlt]; exact H⟩⟩
    · omega
    · repeat (first | ((with_reducible refine Eqo.updl _ Eqo.ovr ?_); exact rfl) | ((with_reducible refine Eqo.upd ?_ ?_); rotate_left; exact rfl))
    · refine ⟨?_, ?_, trivial⟩
      · exact vi (by omega)
      · exact rfl
  · first | (replace hc8 := of_decide_eq_false hc8) | simp at hc8
    refine k_exit ?_
    refine x_then (x_then ?_)
    refine x_hit ?_
    refine k_seq ?_
    obtain rfl : k = l.length := by omega
    rw [List.take_length] at H
    refine k_region ?_
    refine s_run (w_none rfl) rfl (mv_s rfl rfl) ?_
    refine s_run (w_none rfl) rfl (as_s rfl rfl) ?_
    refine l_nil ?_
    refine k_ret ?_
    repeat (first | refine r_then ?_ | refine r_blk ?_)
    refine q_ret (v := .slice _ _ _) rfl rfl ⟨_, rfl, B, d, rfl, hd.1, hd.2, ?_⟩
    exact H.give

theorem u8_eq {z : Int} {n : Nat} (h : z = n) : IntKind.u8.wrap z = ((UInt8.ofNat n).toNat : Int) := by subst h; rw [IntKind.wrap_u8]; simp
theorem eqb {a b : UInt8} : ((a.toNat : Int) == (b.toNat : Int)) = (a == b) := by
  rw [Bool.eq_iff_iff, beq_iff_eq, beq_iff_eq, Int.ofNat_inj, UInt8.toNat_inj]

theorem markBytes (i : Nat) (z : Int) (w : World) (hz : z = (i : Int)) (h1 : i ≤ 1000000000000000) :
    Calls Tryd.prog 73 [.int .i64 z].toArray w (Ret (Is w (u8v (UInt8.ofNat (201 + 7 * i))))) := by
  subst hz
  refine k_enter (l := [_]) Tryd.func73 rfl rfl ?_
  have H := St.start nT w
  refine k_seq ?_
  refine k_region ?_
  refine s_run (w_none rfl) rfl (as_i rfl rfl) ?_
  refine l_nil ?_
  refine k_seq ?_
  refine k_region ?_
  refine s_run (w_none rfl) rfl (mv_i rfl rfl) ?_
  refine s_run (w_none rfl) rfl (d_mul rfl rfl rfl (by omega)) ?_
  refine s_run (w_none rfl) rfl (d_add rfl rfl rfl (by omega)) ?_
  refine s_run (w_none rfl) rfl (d_conv rfl rfl (by rw [tu3]; rfl) tu5 (u8_eq (n := 201 + 7 * i) (by omega))) ?_
  refine s_run (w_none rfl) rfl (as_i rfl rfl) ?_
  refine l_nil ?_
  refine k_ret ?_
  repeat (first | refine r_then ?_ | refine r_blk ?_)
  exact q_ret (v := .int _ _) rfl rfl ⟨_, rfl, rfl, Below.refl _ _⟩

/-- The first k marks. -/
def marks (k : Nat) : List UInt8 := (List.range k).map fun i => UInt8.ofNat (201 + 7 * i)
theorem marks_succ (k : Nat) : marks (k + 1) = marks k ++ [UInt8.ofNat (201 + 7 * k)] := by simp [marks, List.range_succ]
theorem marks_len (k : Nat) : (marks k).length = k := by simp [marks]
theorem map_snoc (a b : List UInt8) (x : UInt8) : (a ++ (b ++ [x])).map u8v = (a ++ b).map u8v ++ [u8v x] := by simp

theorem lentBytes {S : Nat → Prop} (v : Value) (l : List UInt8) (w : World) (ha : Bs w S v l) (hl : l.length ≤ 1000000000000) :
    Calls Tryd.prog 24 [v].toArray w (Ret (NewB 5 w (l ++ marks 5))) := by
  have ha0 := ha
  obtain ⟨A, c, rfl, _, _, _⟩ := ha.op
  refine k_enter (l := [_]) Tryd.func24 rfl rfl ?_
  have H := St.start nT w
  refine k_seq ?_
  refine k_region ?_
  refine s_run (w_none rfl) rfl (as_s rfl rfl) ?_
  refine l_nil ?_
  refine k_seq ?_
  refine k_region ?_
  refine s_run (w_none rfl) rfl (mv_s rfl rfl) ?_
  refine s_eff (e_call (w_none rfl) rfl rfl Tryd.func67 rfl rfl rfl (copyBytes _ l _ (H.bs ha0) hl) ?_)
  rintro _ W ⟨A1, c1, rfl, hc1, hd1, hn⟩
  replace H := H.new hn
  clear hn
  refine s_run (w_none rfl) rfl (as_s rfl rfl) ?_
  refine l_nil ?_
  refine k_seq ?_
  refine k_seq ?_
  refine k_region ?_
  refine s_run (w_none rfl) rfl (as_i rfl rfl) ?_
  refine l_nil ?_
  refine k_block ?_
  refine k_loop 7 [3, 4] (fun mm sl W => ∃ k : Nat, ∃ B : Option Addr, ∃ d : Nat, 5 - k = mm ∧ sl = [(4, .int .i64 (k : Int)), (3, .slice B (l.length + k) d)] ∧ (k ≤ 5) ∧ (l.length + k ≤ d ∧ d ≤ 9223372036854775807) ∧ St nT w W [Fact.row 5 1 (.slice B (l.length + k) d) (l.length + k) ((l ++ marks k).map u8v)]) _ _ ⟨0, A1, c1, rfl, rfl, by omega, ⟨hc1, hd1⟩, by rw [show marks 0 = [] from rfl, List.append_nil]; exact H⟩ ⟨rfl, rfl, trivial⟩ (fun mm sl ρv W hJ => ?_)
  clear H; obtain ⟨k, B, d, rfl, rfl, hk, hd, H⟩ := hJ
  refine k_one ?_
  refine k_seq ?_
  refine k_seq ?_
  refine k_region ?_
  refine s_run (w_none rfl) rfl (mv_i rfl rfl) ?_
  refine s_run (w_none rfl) rfl (d_lt rfl rfl rfl) ?_
  refine l_nil ?_
  refine k_cond rfl (fun hc8 => ?_) (fun hc8 => ?_)
  · first | (replace hc8 := of_decide_eq_true hc8) | simp at hc8
    refine k_skip ?_
    refine k_seq ?_
    refine k_block ?_
    refine k_region ?_
    refine s_run (w_none rfl) rfl (mv_s rfl rfl) ?_
    refine s_run (w_none rfl) rfl (mv_i rfl rfl) ?_
    refine s_eff (e_call (w_none rfl) rfl rfl Tryd.func73 rfl rfl rfl (markBytes k _ _ rfl (by omega)) ?_)
    rintro _ W ⟨rfl, hb⟩
    replace H := H.below hb
    clear hb
    refine s_eff (e_bsl (xs := [.tmp 13]) (vals := [.int .u8 _]) (vs := [.int .u8 _]) (w_none rfl) rfl rfl rfl rfl rfl rfl tu23 ts5 ty5 rfl rfl rfl H ?_)
    clear H; intro g5_3 W H
    refine s_eff (e_app (w_none rfl) rfl rfl tu23 tx5 rfl rfl rfl H (rd_blk H.blk rfl) (rfl) (by omega) rfl ?_)
    clear H; intro A2 c2 W hc2 hd2 H
    replace H := H.drop
    refine s_run (w_none rfl) rfl (as_s rfl rfl) ?_
    refine l_nil ?_
    refine k_nil ?_
    refine b_end ?_
    refine k_region ?_
    refine s_run (w_none rfl) rfl (mv_i rfl rfl) ?_
    refine s_run (w_none rfl) rfl (d_add rfl rfl rfl (by omega)) ?_
    refine s_run (w_none rfl) rfl (as_i rfl rfl) ?_
    refine l_nil ?_
    refine k_nil ?_
    refine k_next ?_
    refine ⟨_, _, _, ?_, rfl, ?_, ?_, ⟨k + 1, A2, c2, rfl, rfl, by omega, ⟨hc2, hd2⟩, by rw [marks_succ, map_snoc]; exact H⟩⟩
    · omega
    · repeat (first | ((with_reducible refine Eqo.updl _ Eqo.ovr ?_); exact rfl) | ((with_reducible refine Eqo.upd ?_ ?_); rotate_left; exact rfl))
    · refine ⟨?_, ?_, trivial⟩
      · exact vi (by omega)
      · exact rfl
  · first | (replace hc8 := of_decide_eq_false hc8) | simp at hc8
    refine k_exit ?_
    refine x_then (x_then ?_)
    refine x_hit ?_
    refine k_seq ?_
    obtain rfl : k = 5 := by omega
    refine k_region ?_
    refine s_run (w_none rfl) rfl (mv_s rfl rfl) ?_
    refine s_run (w_none rfl) rfl (as_s rfl rfl) ?_
    refine l_nil ?_
    refine k_ret ?_
    repeat (first | refine r_then ?_ | refine r_blk ?_)
    refine q_ret (v := .slice _ _ _) rfl rfl ⟨_, rfl, B, d, ?_⟩
    have e : (l ++ marks 5).length = l.length + 5 := by rw [List.length_append, marks_len]
    rw [e]
    exact ⟨rfl, hd.1, hd.2, H.give⟩

theorem sameBytes {S S' : Nat → Prop} (v u : Value) (l r : List UInt8) (w : World) (ha : Bs w S v l) (hb : Bs w S' u r) :
    Calls Tryd.prog 22 [v, u].toArray w (Ret (Is w (.bool (decide (l = r))))) := by
  have hn := ha.len
  have hm := hb.len
  obtain ⟨A, c, rfl, _, _, ha⟩ := ha.op
  obtain ⟨B, d, rfl, _, _, hb⟩ := hb.op
  refine k_enter (l := [_, _]) Tryd.func22 rfl rfl ?_
  have H := St.start nT w
  refine k_seq ?_
  refine k_region ?_
  refine s_run (w_none rfl) rfl (as_b rfl rfl) ?_
  refine l_nil ?_
  refine k_seq ?_
  refine k_seq ?_
  refine k_region ?_
  refine s_run (w_none rfl) rfl (mv_s rfl rfl) ?_
  refine s_run (w_none rfl) rfl (d_len rfl rfl tu23) ?_
  refine s_run (w_none rfl) rfl (mv_s rfl rfl) ?_
  refine s_run (w_none rfl) rfl (d_len rfl rfl tu23) ?_
  refine s_run (w_none rfl) rfl (d_ne rfl rfl rfl) ?_
  refine l_nil ?_
  refine k_cond rfl (fun hc10 => ?_) (fun hc10 => ?_)
  · simp at hc10
    refine k_seq ?_
    refine k_region ?_
    refine s_run (w_none rfl) rfl (as_b rfl rfl) ?_
    refine l_nil ?_
    refine k_ret ?_
    repeat (first | refine r_then ?_ | refine r_blk ?_)
    refine q_ret (v := .bool _) rfl rfl ⟨_, rfl, vb ?_, H.under⟩
    exact (decide_eq_false fun h => hc10 (by rw [h])).symm
  · simp at hc10
    refine k_skip ?_
    refine k_seq ?_
    refine k_seq ?_
    refine k_region ?_
    refine s_run (w_none rfl) rfl (as_i rfl rfl) ?_
    refine l_nil ?_
    refine k_block ?_
    refine k_loop 11 [4, 5] (fun mm sl W => ∃ k : Nat, l.length - k = mm ∧ sl = [(5, .int .i64 (k : Int))] ∧ (k ≤ l.length) ∧ (l.take k = r.take k) ∧ St nT w W []) _ _ ⟨0, rfl, rfl, Nat.zero_le _, rfl, H⟩ ⟨rfl, trivial⟩ (fun mm sl ρv W hJ => ?_)
    clear H; obtain ⟨k, rfl, rfl, hk, ht, H⟩ := hJ
    refine k_one ?_
    refine k_seq ?_
    refine k_seq ?_
    refine k_region ?_
    refine s_run (w_none rfl) rfl (mv_i rfl rfl) ?_
    refine s_run (w_none rfl) rfl (mv_s rfl rfl) ?_
    refine s_run (w_none rfl) rfl (d_len rfl rfl tu23) ?_
    refine s_run (w_none rfl) rfl (d_lt rfl rfl rfl) ?_
    refine l_nil ?_
    refine k_cond rfl (fun hc14 => ?_) (fun hc14 => ?_)
    · first | (replace hc14 := of_decide_eq_true hc14) | simp at hc14
      refine k_skip ?_
      refine k_seq ?_
      refine k_block ?_
      refine k_seq ?_
      refine k_draw [(0, true), (1, true), (2, true), (3, true), (4, true), (5, true), (6, true), (7, true), (8, true), (9, true)] _ (by kernel_rfl) (by kernel_rfl) H (.refl _) ?_
      clear H; intro W H
      refine c_run rfl (w_none rfl) rfl (fun W H => mv_s rfl rfl) ?_
      refine c_run rfl (w_none rfl) rfl (fun W H => mv_i rfl rfl) ?_
      refine c_run rfl (w_none rfl) rfl (fun W H => d_iaB rfl (H.rd ha) rfl rfl rfl (by omega) tu23 ts5) ?_
      refine c_run rfl (w_none rfl) rfl (fun W H => d_ldB rfl (H.rd ha) (l_get (by omega)) rfl ta5) ?_
      refine c_run rfl (w_none rfl) rfl (fun W H => mv_s rfl rfl) ?_
      refine c_run rfl (w_none rfl) rfl (fun W H => mv_i rfl rfl) ?_
      refine c_run rfl (w_none rfl) rfl (fun W H => d_iaB rfl (H.rd hb) rfl rfl rfl (by omega) tu23 ts5) ?_
      refine c_run rfl (w_none rfl) rfl (fun W H => d_ldB rfl (H.rd hb) (l_get (by omega)) rfl ta5) ?_
      refine c_run rfl (w_none rfl) rfl (fun W H => d_eq rfl rfl rfl) ?_
      refine c_run rfl (w_none rfl) rfl (fun W H => d_not rfl rfl) ?_
      refine c_nil ?_
      refine k_cond rfl (fun hc26 => ?_) (fun hc26 => ?_)
      · rw [eqb, Bool.not_eq_true', beq_eq_false_iff_ne] at hc26
        refine k_seq ?_
        refine k_region ?_
        refine s_run (w_none rfl) rfl (as_b rfl rfl) ?_
        refine l_nil ?_
        refine k_ret ?_
        repeat (first | refine r_then ?_ | refine r_blk ?_)
        refine q_ret (v := .bool _) rfl rfl ⟨_, rfl, vb ?_, H.under⟩
        exact (decide_eq_false fun h => hc26 (by rw [h])).symm
      · rw [eqb, Bool.not_eq_false', beq_iff_eq] at hc26
        refine k_skip ?_
        refine k_nil ?_
        refine b_end ?_
        refine k_region ?_
        refine s_run (w_none rfl) rfl (mv_i rfl rfl) ?_
        refine s_run (w_none rfl) rfl (d_add rfl rfl rfl (by omega)) ?_
        refine s_run (w_none rfl) rfl (as_i rfl rfl) ?_
        refine l_nil ?_
        refine k_nil ?_
        refine k_next ?_
        refine ⟨_, _, _, ?_, rfl, ?_, ?_, ⟨k + 1, rfl, rfl, by omega, by rw [List.take_add_one, List.take_add_one, ht, l_get (by omega), l_get (by omega), hc26], H⟩⟩
        · omega
        · repeat (first | ((with_reducible refine Eqo.updl _ Eqo.ovr ?_); exact rfl) | ((with_reducible refine Eqo.upd ?_ ?_); rotate_left; exact rfl))
        · refine ⟨?_, trivial⟩
          · exact vi (by omega)
    · first | (replace hc14 := of_decide_eq_false hc14) | simp at hc14
      refine k_exit ?_
      refine x_then (x_then ?_)
      refine x_hit ?_
      refine k_seq ?_
      refine k_region ?_
      refine s_run (w_none rfl) rfl (as_b rfl rfl) ?_
      refine l_nil ?_
      refine k_ret ?_
      repeat (first | refine r_then ?_ | refine r_blk ?_)
      refine q_ret (v := .bool _) rfl rfl ⟨_, rfl, vb ?_, H.under⟩
      rw [List.take_of_length_le (by omega), List.take_of_length_le (by omega)] at ht
      simp [ht]

def rowL (k : Nat) : List UInt8 := (List.range k).map fun i => UInt8.ofNat ((7 + i) % 251)
theorem rowL_succ (k : Nat) : rowL (k + 1) = rowL k ++ [UInt8.ofNat ((7 + k) % 251)] := by simp [rowL, List.range_succ]
theorem rowL_len (k : Nat) : (rowL k).length = k := by simp [rowL]
theorem row_any (n : Nat) (z : Int) (w : World) (hz : z = (n : Int)) (hn : n ≤ 1000000000) : Calls Tryd.prog 49 [.int .i64 z].toArray w (Ret (NewB 5 w (rowL n))) := by
  subst hz
  refine k_enter (l := [_]) Tryd.func49 rfl rfl ?_
  have H := St.start nT w
  refine k_seq ?_
  refine k_region ?_
  refine s_run (w_none rfl) rfl (as_s rfl rfl) ?_
  refine l_nil ?_
  refine k_seq ?_
  refine k_region ?_
  refine s_run (w_none rfl) rfl (as_s rfl rfl) ?_
  refine l_nil ?_
  replace H := H.nilrow 5 1
  refine k_seq ?_
  refine k_seq ?_
  refine k_region ?_
  refine s_run (w_none rfl) rfl (as_i rfl rfl) ?_
  refine l_nil ?_
  refine k_block ?_
  refine k_loop 3 [] (fun mm sl W => ∃ k : Nat, ∃ B : Option Addr, ∃ d : Nat, n - k = mm ∧ sl = [(4, .int .i64 (k : Int)), (3, .slice B k d)] ∧ (k ≤ n) ∧ (k ≤ d ∧ d ≤ 9223372036854775807) ∧ St nT w W [Fact.row 5 1 (.slice B k d) k ((rowL k).map u8v)]) _ _ ⟨0, none, 0, rfl, rfl, Nat.zero_le _, ⟨Nat.le_refl _, by omega⟩, H⟩ ⟨rfl, rfl, trivial⟩ (fun mm sl ρv W hJ => ?_)
  clear H; obtain ⟨k, B, d, rfl, rfl, hk, hd, H⟩ := hJ
  refine k_one ?_
  refine k_seq ?_
  refine k_seq ?_
  refine k_region ?_
  refine s_run (w_none rfl) rfl (mv_i rfl rfl) ?_
  refine s_run (w_none rfl) rfl (mv_i rfl rfl) ?_
  refine s_run (w_none rfl) rfl (d_lt rfl rfl rfl) ?_
  refine l_nil ?_
  refine k_cond rfl (fun hc7 => ?_) (fun hc7 => ?_)
  · first | (replace hc7 := of_decide_eq_true hc7) | simp at hc7
    refine k_skip ?_
    refine k_seq ?_
    refine k_block ?_
    refine k_region ?_
    refine s_run (w_none rfl) rfl (mv_s rfl rfl) ?_
    refine s_run (w_none rfl) rfl (mv_i rfl rfl) ?_
    refine s_run (w_none rfl) rfl (d_add rfl rfl rfl (by omega)) ?_
    refine s_run (w_none rfl) rfl (d_rem rfl rfl rfl (by omega)) ?_
    refine s_run (w_none rfl) rfl (d_conv rfl rfl (by rw [tu3]; rfl) tu5 (u8_eq (n := (7 + k) % 251) (by omega))) ?_
    refine s_eff (e_bsl (xs := [.tmp 14]) (vals := [.int .u8 _]) (vs := [.int .u8 _]) (w_none rfl) rfl rfl rfl rfl rfl rfl tu23 ts5 ty5 rfl rfl rfl H ?_)
    clear H; intro g5_5 W H
    refine s_eff (e_app (w_none rfl) rfl rfl tu23 tx5 rfl rfl rfl H (rd_blk H.blk rfl) (rfl) (by omega) rfl ?_)
    clear H; intro A1 c1 W hc1 hd1 H
    replace H := H.drop
    refine s_run (w_none rfl) rfl (as_s rfl rfl) ?_
    refine l_nil ?_
    refine k_nil ?_
    refine b_end ?_
    refine k_region ?_
    refine s_run (w_none rfl) rfl (mv_i rfl rfl) ?_
    refine s_run (w_none rfl) rfl (d_add rfl rfl rfl (by omega)) ?_
    refine s_run (w_none rfl) rfl (as_i rfl rfl) ?_
    refine l_nil ?_
    refine k_nil ?_
    refine k_next ?_
    refine ⟨_, _, _, ?_, rfl, ?_, ?_, ⟨k + 1, A1, c1, rfl, rfl, by omega, ⟨hc1, hd1⟩, by rw [rowL_succ, List.map_append]; exact H⟩⟩
    · omega
    · repeat (first | ((with_reducible refine Eqo.updl _ Eqo.ovr ?_); exact rfl) | ((with_reducible refine Eqo.upd ?_ ?_); rotate_left; exact rfl))
    · refine ⟨?_, ?_, trivial⟩
      · exact vi (by omega)
      · exact rfl
  · first | (replace hc7 := of_decide_eq_false hc7) | simp at hc7
    refine k_exit ?_
    refine x_then (x_then ?_)
    refine x_hit ?_
    refine k_seq ?_
    obtain rfl : k = n := by omega
    refine k_region ?_
    refine s_run (w_none rfl) rfl (mv_s rfl rfl) ?_
    refine s_run (w_none rfl) rfl (as_s rfl rfl) ?_
    refine l_nil ?_
    refine k_ret ?_
    repeat (first | refine r_then ?_ | refine r_blk ?_)
    refine q_ret (v := .slice _ _ _) rfl rfl ⟨_, rfl, B, d, ?_⟩
    rw [rowL_len]
    exact ⟨rfl, hd.1, hd.2, H.give⟩

def pick (v n : Int) : Int := if n < 1 then 0 else v % n
theorem tmod_bd (v n : Int) (hn : 1 ≤ n) : -n < v.tmod n ∧ v.tmod n < n ∧ (v.tmod n < 0 → v.tmod n + n = v % n) ∧ (0 ≤ v.tmod n → v.tmod n = v % n) := by
  have h1 := Int.mul_tdiv_add_tmod v n
  have h2 : v.tmod n < n := Int.tmod_lt_of_pos v (by omega)
  have h3 : -n < v.tmod n := by
    have := Int.tmod_lt_of_pos (-v) (show (0 : Int) < n by omega)
    rw [Int.neg_tmod] at this; omega
  have h4 : v % n = (v.tmod n) % n := by
    conv => lhs; rw [← h1]
    rw [Int.add_comm, Int.add_mul_emod_self_left]
  refine ⟨h3, h2, fun h => ?_, fun h => ?_⟩
  · rw [h4, ← Int.add_emod_right, Int.emod_eq_of_lt (by omega) (by omega)]
  · rw [h4, Int.emod_eq_of_lt h h2]
theorem pick_any (v n : Int) (w : World) (hn : -9223372036854775808 ≤ n ∧ n ≤ 9223372036854775807) : Calls Tryd.prog 42 [.int .i64 v, .int .i64 n].toArray w (Ret (Is w (.int .i64 (pick v n)))) := by
  refine k_enter (l := [_, _]) Tryd.func42 rfl rfl ?_
  have H := St.start nT w
  refine k_seq ?_
  refine k_region ?_
  refine s_run (w_none rfl) rfl (as_i rfl rfl) ?_
  refine l_nil ?_
  refine k_seq ?_
  refine k_seq ?_
  refine k_region ?_
  refine s_run (w_none rfl) rfl (mv_i rfl rfl) ?_
  refine s_run (w_none rfl) rfl (d_lt rfl rfl rfl) ?_
  refine l_nil ?_
  refine k_cond rfl (fun hc6 => ?_) (fun hc6 => ?_)
  · replace hc6 := of_decide_eq_true hc6
    refine k_seq ?_
    refine k_region ?_
    refine s_run (w_none rfl) rfl (as_i rfl rfl) ?_
    refine l_nil ?_
    refine k_ret ?_
    repeat (first | refine r_then ?_ | refine r_blk ?_)
    refine q_ret (v := .int _ _) rfl rfl ⟨_, rfl, vi ?_, H.under⟩
    rw [pick, if_pos hc6]
  · replace hc6 := of_decide_eq_false hc6
    refine k_skip ?_
    refine k_seq ?_
    refine k_region ?_
    refine s_run (w_none rfl) rfl (mv_i rfl rfl) ?_
    refine s_run (w_none rfl) rfl (mv_i rfl rfl) ?_
    refine s_run (w_none rfl) rfl (d_remT rfl rfl rfl (by omega)) ?_
    refine s_run (w_none rfl) rfl (as_i rfl rfl) ?_
    refine l_nil ?_
    have htm := tmod_bd v n (by omega)
    refine k_seq ?_
    refine k_seq ?_
    refine k_region ?_
    refine s_run (w_none rfl) rfl (mv_i rfl rfl) ?_
    refine s_run (w_none rfl) rfl (d_lt rfl rfl rfl) ?_
    refine l_nil ?_
    refine k_cond rfl (fun hc11 => ?_) (fun hc11 => ?_)
    · replace hc11 := of_decide_eq_true hc11
      refine k_region ?_
      refine s_run (w_none rfl) rfl (mv_i rfl rfl) ?_
      refine s_run (w_none rfl) rfl (mv_i rfl rfl) ?_
      refine s_run (w_none rfl) rfl (d_add rfl rfl rfl (by omega)) ?_
      refine s_run (w_none rfl) rfl (as_i rfl rfl) ?_
      refine l_nil ?_
      refine k_seq ?_
      refine k_region ?_
      refine s_run (w_none rfl) rfl (mv_i rfl rfl) ?_
      refine s_run (w_none rfl) rfl (as_i rfl rfl) ?_
      refine l_nil ?_
      refine k_ret ?_
      repeat (first | refine r_then ?_ | refine r_blk ?_)
      refine q_ret (v := .int _ _) rfl rfl ⟨_, rfl, vi ?_, H.under⟩
      rw [pick, if_neg hc6]
      exact htm.2.2.1 hc11
    · replace hc11 := of_decide_eq_false hc11
      refine k_skip ?_
      refine k_seq ?_
      refine k_region ?_
      refine s_run (w_none rfl) rfl (mv_i rfl rfl) ?_
      refine s_run (w_none rfl) rfl (as_i rfl rfl) ?_
      refine l_nil ?_
      refine k_ret ?_
      repeat (first | refine r_then ?_ | refine r_blk ?_)
      refine q_ret (v := .int _ _) rfl rfl ⟨_, rfl, vi ?_, H.under⟩
      rw [pick, if_neg hc6]
      exact htm.2.2.2 (by omega)
end Go.Proofs.YtejaohlijaodjaaDoor
