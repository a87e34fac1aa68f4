/- Texts of this claim, laid together: Ty, K1, K2. -/
import Derived.Test.YtobcihaameofhaaDoorMV
import Derived.Test.YtobcihaameofhaaDoorProg
import Derived.KernelRfl
set_option linter.unusedVariables false
set_option linter.unusedSimpArgs false

namespace Go.Proofs.YtobcihaameofhaaDoor
open Go Go.RowKit
theorem tu3 : Tryd.prog.underlying 3 = some (.int .i64) := by kernel_rfl
theorem ta3 : aggB Tryd.prog 3 = some false := by kernel_rfl
theorem tu5 : Tryd.prog.underlying 5 = some (.int .u8) := by kernel_rfl
theorem ts5 : (Tryd.prog.info? 5).map (·.size) = some 1 := by kernel_rfl
theorem ta5 : aggB Tryd.prog 5 = some false := by kernel_rfl
theorem tz5 : ((Tryd.prog.info? 5).bind (·.zero)).map (·.cells) = some (List.toArray [.int .u8 0]) := by kernel_rfl
theorem ty5 : ((Tryd.prog.info? 5).bind (·.zero)).isSome = true := by kernel_rfl
theorem tx5 : (Tryd.prog.info? 5).map (fun i => (i.zero.map (·.cells.size), i.size, i.bytes)) = some (some 1, 1, 1) := by kernel_rfl
theorem tu23 : Tryd.prog.underlying 23 = some (.array 32 5) := by kernel_rfl
theorem ts23 : (Tryd.prog.info? 23).map (·.size) = some 32 := by kernel_rfl
theorem ta23 : aggB Tryd.prog 23 = some true := by kernel_rfl
theorem tz23 : ((Tryd.prog.info? 23).bind (·.zero)).map (·.cells) = some (List.toArray [.int .u8 0, .int .u8 0, .int .u8 0, .int .u8 0, .int .u8 0, .int .u8 0, .int .u8 0, .int .u8 0, .int .u8 0, .int .u8 0, .int .u8 0, .int .u8 0, .int .u8 0, .int .u8 0, .int .u8 0, .int .u8 0, .int .u8 0, .int .u8 0, .int .u8 0, .int .u8 0, .int .u8 0, .int .u8 0, .int .u8 0, .int .u8 0, .int .u8 0, .int .u8 0, .int .u8 0, .int .u8 0, .int .u8 0, .int .u8 0, .int .u8 0, .int .u8 0]) := by kernel_rfl
theorem ty23 : ((Tryd.prog.info? 23).bind (·.zero)).isSome = true := by kernel_rfl
theorem tx23 : (Tryd.prog.info? 23).map (fun i => (i.zero.map (·.cells.size), i.size, i.bytes)) = some (some 32, 32, 32) := by kernel_rfl
theorem ts25 : (Tryd.prog.info? 25).map (·.size) = some 65 := by kernel_rfl
theorem ta25 : aggB Tryd.prog 25 = some true := by kernel_rfl
theorem tf25_0 : fOff Tryd.prog 25 0 = some (0, 23) := by kernel_rfl
theorem tf25_1 : fOff Tryd.prog 25 1 = some (32, 23) := by kernel_rfl
theorem tf25_2 : fOff Tryd.prog 25 2 = some (64, 3) := by kernel_rfl
theorem tu26 : Tryd.prog.underlying 26 = some (.slice 44) := by kernel_rfl
theorem ts26 : (Tryd.prog.info? 26).map (·.size) = some 1 := by kernel_rfl
theorem ta26 : aggB Tryd.prog 26 = some false := by kernel_rfl
theorem ts28 : (Tryd.prog.info? 28).map (·.size) = some 66 := by kernel_rfl
theorem ta28 : aggB Tryd.prog 28 = some true := by kernel_rfl
theorem tf28_0 : fOff Tryd.prog 28 0 = some (0, 25) := by kernel_rfl
theorem tf28_1 : fOff Tryd.prog 28 1 = some (65, 26) := by kernel_rfl
theorem tu29 : Tryd.prog.underlying 29 = some (.slice 5) := by kernel_rfl
theorem ts29 : (Tryd.prog.info? 29).map (·.size) = some 1 := by kernel_rfl
theorem ta29 : aggB Tryd.prog 29 = some false := by kernel_rfl
theorem ty29 : ((Tryd.prog.info? 29).bind (·.zero)).isSome = true := by kernel_rfl
theorem tx29 : (Tryd.prog.info? 29).map (fun i => (i.zero.map (·.cells.size), i.size, i.bytes)) = some (some 1, 1, 24) := by kernel_rfl
theorem ts32 : (Tryd.prog.info? 32).map (·.size) = some 1 := by kernel_rfl
theorem ta32 : aggB Tryd.prog 32 = some false := by kernel_rfl
theorem tz32 : ((Tryd.prog.info? 32).bind (·.zero)).map (·.cells) = some (List.toArray [.int .i64 0]) := by kernel_rfl
theorem tu40 : Tryd.prog.underlying 40 = some (.slice 23) := by kernel_rfl
theorem ts40 : (Tryd.prog.info? 40).map (·.size) = some 1 := by kernel_rfl
theorem ta40 : aggB Tryd.prog 40 = some false := by kernel_rfl
theorem tz40 : ((Tryd.prog.info? 40).bind (·.zero)).map (·.cells) = some (List.toArray [.slice none 0 0]) := by kernel_rfl
theorem tu41 : Tryd.prog.underlying 41 = some (.slice 77) := by kernel_rfl
theorem ts41 : (Tryd.prog.info? 41).map (·.size) = some 1 := by kernel_rfl
theorem ta41 : aggB Tryd.prog 41 = some false := by kernel_rfl
theorem tu42 : Tryd.prog.underlying 42 = some (.slice 79) := by kernel_rfl
theorem ts42 : (Tryd.prog.info? 42).map (·.size) = some 1 := by kernel_rfl
theorem ta42 : aggB Tryd.prog 42 = some false := by kernel_rfl
theorem ts44 : (Tryd.prog.info? 44).map (·.size) = some 3 := by kernel_rfl
theorem ta44 : aggB Tryd.prog 44 = some true := by kernel_rfl
theorem tz44 : ((Tryd.prog.info? 44).bind (·.zero)).map (·.cells) = some (List.toArray [.slice none 0 0, .slice none 0 0, .int .i64 0]) := by kernel_rfl
theorem ty44 : ((Tryd.prog.info? 44).bind (·.zero)).isSome = true := by kernel_rfl
theorem tx44 : (Tryd.prog.info? 44).map (fun i => (i.zero.map (·.cells.size), i.size, i.bytes)) = some (some 3, 3, 56) := by kernel_rfl
theorem tf44_0 : fOff Tryd.prog 44 0 = some (0, 41) := by kernel_rfl
theorem tf44_1 : fOff Tryd.prog 44 1 = some (1, 42) := by kernel_rfl
theorem tf44_2 : fOff Tryd.prog 44 2 = some (2, 3) := by kernel_rfl
theorem tu68 : Tryd.prog.underlying 68 = some (.slice 29) := by kernel_rfl
theorem ts68 : (Tryd.prog.info? 68).map (·.size) = some 1 := by kernel_rfl
theorem ta68 : aggB Tryd.prog 68 = some false := by kernel_rfl
theorem ts75 : (Tryd.prog.info? 75).map (·.size) = some 33 := by kernel_rfl
theorem ta75 : aggB Tryd.prog 75 = some true := by kernel_rfl
theorem tz75 : ((Tryd.prog.info? 75).bind (·.zero)).map (·.cells) = some (List.toArray [.int .u8 0, .int .u8 0, .int .u8 0, .int .u8 0, .int .u8 0, .int .u8 0, .int .u8 0, .int .u8 0, .int .u8 0, .int .u8 0, .int .u8 0, .int .u8 0, .int .u8 0, .int .u8 0, .int .u8 0, .int .u8 0, .int .u8 0, .int .u8 0, .int .u8 0, .int .u8 0, .int .u8 0, .int .u8 0, .int .u8 0, .int .u8 0, .int .u8 0, .int .u8 0, .int .u8 0, .int .u8 0, .int .u8 0, .int .u8 0, .int .u8 0, .int .u8 0, .int .i64 0]) := by kernel_rfl
theorem tf75_0 : fOff Tryd.prog 75 0 = some (0, 23) := by kernel_rfl
theorem tf75_1 : fOff Tryd.prog 75 1 = some (32, 3) := by kernel_rfl
theorem ts77 : (Tryd.prog.info? 77).map (·.size) = some 34 := by kernel_rfl
theorem ta77 : aggB Tryd.prog 77 = some true := by kernel_rfl
theorem tz77 : ((Tryd.prog.info? 77).bind (·.zero)).map (·.cells) = some (List.toArray [.int .u8 0, .int .u8 0, .int .u8 0, .int .u8 0, .int .u8 0, .int .u8 0, .int .u8 0, .int .u8 0, .int .u8 0, .int .u8 0, .int .u8 0, .int .u8 0, .int .u8 0, .int .u8 0, .int .u8 0, .int .u8 0, .int .u8 0, .int .u8 0, .int .u8 0, .int .u8 0, .int .u8 0, .int .u8 0, .int .u8 0, .int .u8 0, .int .u8 0, .int .u8 0, .int .u8 0, .int .u8 0, .int .u8 0, .int .u8 0, .int .u8 0, .int .u8 0, .int .i64 0, .slice none 0 0]) := by kernel_rfl
theorem ty77 : ((Tryd.prog.info? 77).bind (·.zero)).isSome = true := by kernel_rfl
theorem tx77 : (Tryd.prog.info? 77).map (fun i => (i.zero.map (·.cells.size), i.size, i.bytes)) = some (some 34, 34, 64) := by kernel_rfl
theorem tf77_0 : fOff Tryd.prog 77 0 = some (0, 75) := by kernel_rfl
theorem tf77_1 : fOff Tryd.prog 77 1 = some (33, 68) := by kernel_rfl
theorem ts79 : (Tryd.prog.info? 79).map (·.size) = some 2 := by kernel_rfl
theorem ta79 : aggB Tryd.prog 79 = some true := by kernel_rfl
theorem tz79 : ((Tryd.prog.info? 79).bind (·.zero)).map (·.cells) = some (List.toArray [.int .i64 0, .slice none 0 0]) := by kernel_rfl
theorem ty79 : ((Tryd.prog.info? 79).bind (·.zero)).isSome = true := by kernel_rfl
theorem tx79 : (Tryd.prog.info? 79).map (fun i => (i.zero.map (·.cells.size), i.size, i.bytes)) = some (some 2, 2, 32) := by kernel_rfl
theorem tf79_0 : fOff Tryd.prog 79 0 = some (0, 3) := by kernel_rfl
theorem tf79_1 : fOff Tryd.prog 79 1 = some (1, 29) := by kernel_rfl
theorem tu81 : Tryd.prog.underlying 81 = some (.int .u64) := by kernel_rfl
theorem ts81 : (Tryd.prog.info? 81).map (·.size) = some 1 := by kernel_rfl
theorem ta81 : aggB Tryd.prog 81 = some false := by kernel_rfl
theorem tz81 : ((Tryd.prog.info? 81).bind (·.zero)).map (·.cells) = some (List.toArray [.int .u64 0]) := by kernel_rfl
theorem ts83 : (Tryd.prog.info? 83).map (·.size) = some 3 := by kernel_rfl
theorem ta83 : aggB Tryd.prog 83 = some true := by kernel_rfl
theorem tz83 : ((Tryd.prog.info? 83).bind (·.zero)).map (·.cells) = some (List.toArray [.int .u8 0, .int .i64 0, .int .u64 0]) := by kernel_rfl
theorem tf83_0 : fOff Tryd.prog 83 0 = some (0, 5) := by kernel_rfl
theorem tf83_1 : fOff Tryd.prog 83 1 = some (1, 3) := by kernel_rfl
theorem tf83_2 : fOff Tryd.prog 83 2 = some (2, 81) := by kernel_rfl
theorem tu84 : Tryd.prog.underlying 84 = some (.array 3 83) := by kernel_rfl
theorem tu86 : Tryd.prog.underlying 86 = some (.slice 83) := by kernel_rfl
theorem ts95 : (Tryd.prog.info? 95).map (·.size) = some 1 := by kernel_rfl
theorem ta95 : aggB Tryd.prog 95 = some false := by kernel_rfl
theorem tf101_0 : fOff Tryd.prog 101 0 = some (0, 29) := by kernel_rfl
theorem ts123 : (Tryd.prog.info? 123).map (·.size) = some 1 := by kernel_rfl
theorem ta123 : aggB Tryd.prog 123 = some false := by kernel_rfl
theorem tz123 : ((Tryd.prog.info? 123).bind (·.zero)).map (·.cells) = some (List.toArray [.nilFunc]) := by kernel_rfl
end Go.Proofs.YtobcihaameofhaaDoor

namespace Go.Proofs.YtobcihaameofhaaDoor
open Go Go.RowKit
attribute [local irreducible] wpList

theorem copyBytes {S : Nat → Prop} (v : Value) (l : List UInt8) (w : World) (ha : Bs w S v l) (hl : l.length ≤ 1000000000000) :
    Calls Tryd.prog 12 [v].toArray w (Ret (NewB 5 w l)) := by
  obtain ⟨A, c, rfl, hc, hc2, ha⟩ := ha.op
  refine k_enter (l := [_]) Tryd.func12 rfl rfl ?_
  have H := St.start nT w
  refine k_seq ?_
  refine k_region ?_
  refine s_run (w_none rfl) rfl (as_s rfl rfl) ?_
  refine l_nil ?_
  refine k_seq ?_
  refine k_region ?_
  refine s_run (w_none rfl) rfl (as_s rfl rfl) ?_
  refine l_nil ?_
  replace H := H.nilrow 5 1
  refine k_seq ?_
  refine k_seq ?_
  refine k_region ?_
  refine s_run (w_none rfl) rfl (as_i rfl rfl) ?_
  refine l_nil ?_
  refine k_block ?_
  refine k_loop 3 [] (fun mm sl W => ∃ k : Nat, ∃ B : Option Addr, ∃ d : Nat, l.length - k = mm ∧ sl = [(4, .int .i64 (k : Int)), (3, .slice B k d)] ∧ (k ≤ l.length) ∧ (k ≤ d ∧ d ≤ 9223372036854775807) ∧ St nT w W [Fact.row 5 1 (.slice B k d) k ((l.take k).map u8v)]) _ _ ⟨0, none, 0, rfl, rfl, Nat.zero_le _, ⟨Nat.le_refl _, by omega⟩, H⟩ ⟨rfl, rfl, trivial⟩ (fun mm sl ρv W hJ => ?_)
  clear H; obtain ⟨k, B, d, rfl, rfl, hk, hd, H⟩ := hJ
  refine k_one ?_
  refine k_seq ?_
  refine k_seq ?_
  refine k_region ?_
  refine s_run (w_none rfl) rfl (mv_i rfl rfl) ?_
  refine s_run (w_none rfl) rfl (mv_s rfl rfl) ?_
  refine s_run (w_none rfl) rfl (d_len rfl rfl tu29) ?_
  refine s_run (w_none rfl) rfl (d_lt rfl rfl rfl) ?_
  refine l_nil ?_
  refine k_cond rfl (fun hc8 => ?_) (fun hc8 => ?_)
  · first | (replace hc8 := of_decide_eq_true hc8) | simp at hc8
    refine k_skip ?_
    refine k_seq ?_
    refine k_block ?_
    have hlt : k + 1 ≤ l.length := by omega
    refine k_region ?_
    refine s_run (w_none rfl) rfl (mv_s rfl rfl) ?_
    refine s_run (w_none rfl) rfl (mv_s rfl rfl) ?_
    refine s_run (w_none rfl) rfl (mv_i rfl rfl) ?_
    refine s_run (w_none rfl) rfl (d_iaB rfl (H.rd ha) rfl rfl rfl (by omega) tu29 ts5) ?_
    refine s_run (w_none rfl) rfl (d_ldB rfl (H.rd ha) (l_get (by omega)) rfl ta5) ?_
    refine s_eff (e_bsl (xs := [.tmp 15]) (vals := [.int .u8 _]) (vs := [.int .u8 _]) (w_none rfl) rfl rfl rfl rfl rfl rfl tu29 ts5 ty5 rfl rfl rfl H ?_)
    clear H; intro g5_5 W H
    refine s_eff (e_app (w_none rfl) rfl rfl tu29 tx5 rfl rfl rfl H (rd_blk H.blk rfl) (rfl) (by omega) rfl ?_)
    clear H; intro A1 c1 W hc1 hd1 H
    replace H := H.drop
    refine s_run (w_none rfl) rfl (as_s rfl rfl) ?_
    refine l_nil ?_
    refine k_nil ?_
    refine b_end ?_
    refine k_region ?_
    refine s_run (w_none rfl) rfl (mv_i rfl rfl) ?_
    refine s_run (w_none rfl) rfl (d_add rfl rfl rfl (by omega)) ?_
    refine s_run (w_none rfl) rfl (as_i rfl rfl) ?_
    refine l_nil ?_
    refine k_nil ?_
    refine k_next ?_
    refine ⟨_, _, _, ?_, rfl, ?_, ?_, ⟨k + 1, A1, c1, rfl, rfl, hlt, ⟨hc1, hd1⟩, by rw [take_u8 hlt]; exact H⟩⟩
    · omega
    · repeat (first | ((with_reducible refine Eqo.updl _ Eqo.ovr ?_); exact rfl) | ((with_reducible refine Eqo.updl _ (Eqo.ovr2 ?_ ?_) ?_); rotate_left; exact rfl; exact rfl) | ((with_reducible refine Eqo.upd ?_ ?_); rotate_left; exact rfl))
    · refine ⟨?_, ?_, trivial⟩
      · exact vi (by omega)
      · exact rfl
  · first | (replace hc8 := of_decide_eq_false hc8) | simp at hc8
    refine k_exit ?_
    refine x_then (x_then ?_)
    refine x_hit ?_
    refine k_seq ?_
    obtain rfl : k = l.length := by omega
    rw [List.take_length] at H
    refine k_region ?_
    refine s_run (w_none rfl) rfl (mv_s rfl rfl) ?_
    refine s_run (w_none rfl) rfl (as_s rfl rfl) ?_
    refine l_nil ?_
    refine k_ret ?_
    repeat (first | refine r_then ?_ | refine r_blk ?_)
    refine q_ret (v := .slice _ _ _) rfl rfl ⟨_, rfl, B, d, rfl, hd.1, hd.2, ?_⟩
    exact H.give

theorem u8_eq {z : Int} {n : Nat} (h : z = n) : IntKind.u8.wrap z = ((UInt8.ofNat n).toNat : Int) := by subst h; rw [IntKind.wrap_u8]; simp
theorem eqb {a b : UInt8} : ((a.toNat : Int) == (b.toNat : Int)) = (a == b) := by
  rw [Bool.eq_iff_iff, beq_iff_eq, beq_iff_eq, Int.ofNat_inj, UInt8.toNat_inj]

/-- The first k marks. -/
def marks (k : Nat) : List UInt8 := (List.range k).map fun i => UInt8.ofNat (201 + 7 * i)
theorem map_snoc (a b : List UInt8) (x : UInt8) : (a ++ (b ++ [x])).map u8v = (a ++ b).map u8v ++ [u8v x] := by simp

theorem sameBytes {S S' : Nat → Prop} (v u : Value) (l r : List UInt8) (w : World) (ha : Bs w S v l) (hb : Bs w S' u r) :
    Calls Tryd.prog 24 [v, u].toArray w (Ret (Is w (.bool (decide (l = r))))) := by
  have hn := ha.len
  have hm := hb.len
  obtain ⟨A, c, rfl, _, _, ha⟩ := ha.op
  obtain ⟨B, d, rfl, _, _, hb⟩ := hb.op
  refine k_enter (l := [_, _]) Tryd.func24 rfl rfl ?_
  have H := St.start nT w
  refine k_seq ?_
  refine k_region ?_
  refine s_run (w_none rfl) rfl (as_b rfl rfl) ?_
  refine l_nil ?_
  refine k_seq ?_
  refine k_seq ?_
  refine k_region ?_
  refine s_run (w_none rfl) rfl (mv_s rfl rfl) ?_
  refine s_run (w_none rfl) rfl (d_len rfl rfl tu29) ?_
  refine s_run (w_none rfl) rfl (mv_s rfl rfl) ?_
  refine s_run (w_none rfl) rfl (d_len rfl rfl tu29) ?_
  refine s_run (w_none rfl) rfl (d_ne rfl rfl rfl) ?_
  refine l_nil ?_
  refine k_cond rfl (fun hc10 => ?_) (fun hc10 => ?_)
  · simp at hc10
    refine k_seq ?_
    refine k_region ?_
    refine s_run (w_none rfl) rfl (as_b rfl rfl) ?_
    refine l_nil ?_
    refine k_ret ?_
    repeat (first | refine r_then ?_ | refine r_blk ?_)
    refine q_ret (v := .bool _) rfl rfl ⟨_, rfl, vb ?_, H.under⟩
    exact (decide_eq_false fun h => hc10 (by rw [h])).symm
  · simp at hc10
    refine k_skip ?_
    refine k_seq ?_
    refine k_seq ?_
    refine k_region ?_
    refine s_run (w_none rfl) rfl (as_i rfl rfl) ?_
    refine l_nil ?_
    refine k_block ?_
    refine k_loop 11 [4, 5] (fun mm sl W => ∃ k : Nat, l.length - k = mm ∧ sl = [(5, .int .i64 (k : Int))] ∧ (k ≤ l.length) ∧ (l.take k = r.take k) ∧ St nT w W []) _ _ ⟨0, rfl, rfl, Nat.zero_le _, rfl, H⟩ ⟨rfl, trivial⟩ (fun mm sl ρv W hJ => ?_)
    clear H; obtain ⟨k, rfl, rfl, hk, ht, H⟩ := hJ
    refine k_one ?_
    refine k_seq ?_
    refine k_seq ?_
    refine k_region ?_
    refine s_run (w_none rfl) rfl (mv_i rfl rfl) ?_
    refine s_run (w_none rfl) rfl (mv_s rfl rfl) ?_
    refine s_run (w_none rfl) rfl (d_len rfl rfl tu29) ?_
    refine s_run (w_none rfl) rfl (d_lt rfl rfl rfl) ?_
    refine l_nil ?_
    refine k_cond rfl (fun hc14 => ?_) (fun hc14 => ?_)
    · first | (replace hc14 := of_decide_eq_true hc14) | simp at hc14
      refine k_skip ?_
      refine k_seq ?_
      refine k_block ?_
      refine k_seq ?_
      refine k_draw [(0, true), (1, true), (2, true), (3, true), (4, true), (5, true), (6, true), (7, true), (8, true), (9, true)] _ (by kernel_rfl) (by kernel_rfl) H (.refl _) ?_
      clear H; intro W H
      refine c_run rfl (w_none rfl) rfl (fun W H => mv_s rfl rfl) ?_
      refine c_run rfl (w_none rfl) rfl (fun W H => mv_i rfl rfl) ?_
      refine c_run rfl (w_none rfl) rfl (fun W H => d_iaB rfl (H.rd ha) rfl rfl rfl (by omega) tu29 ts5) ?_
      refine c_run rfl (w_none rfl) rfl (fun W H => d_ldB rfl (H.rd ha) (l_get (by omega)) rfl ta5) ?_
      refine c_run rfl (w_none rfl) rfl (fun W H => mv_s rfl rfl) ?_
      refine c_run rfl (w_none rfl) rfl (fun W H => mv_i rfl rfl) ?_
      refine c_run rfl (w_none rfl) rfl (fun W H => d_iaB rfl (H.rd hb) rfl rfl rfl (by omega) tu29 ts5) ?_
      refine c_run rfl (w_none rfl) rfl (fun W H => d_ldB rfl (H.rd hb) (l_get (by omega)) rfl ta5) ?_
      refine c_run rfl (w_none rfl) rfl (fun W H => d_eq rfl rfl rfl) ?_
      refine c_run rfl (w_none rfl) rfl (fun W H => d_not rfl rfl) ?_
      refine c_nil ?_
      refine k_cond rfl (fun hc26 => ?_) (fun hc26 => ?_)
      · rw [eqb, Bool.not_eq_true', beq_eq_false_iff_ne] at hc26
        refine k_seq ?_
        refine k_region ?_
        refine s_run (w_none rfl) rfl (as_b rfl rfl) ?_
        refine l_nil ?_
        refine k_ret ?_
        repeat (first | refine r_then ?_ | refine r_blk ?_)
        refine q_ret (v := .bool _) rfl rfl ⟨_, rfl, vb ?_, H.under⟩
        exact (decide_eq_false fun h => hc26 (by rw [h])).symm
      · rw [eqb, Bool.not_eq_false', beq_iff_eq] at hc26
        refine k_skip ?_
        refine k_nil ?_
        refine b_end ?_
        refine k_region ?_
        refine s_run (w_none rfl) rfl (mv_i rfl rfl) ?_
        refine s_run (w_none rfl) rfl (d_add rfl rfl rfl (by omega)) ?_
        refine s_run (w_none rfl) rfl (as_i rfl rfl) ?_
        refine l_nil ?_
        refine k_nil ?_
        refine k_next ?_
        refine ⟨_, _, _, ?_, rfl, ?_, ?_, ⟨k + 1, rfl, rfl, by omega, by rw [List.take_add_one, List.take_add_one, ht, l_get (by omega), l_get (by omega), hc26], H⟩⟩
        · omega
        · repeat (first | ((with_reducible refine Eqo.updl _ Eqo.ovr ?_); exact rfl) | ((with_reducible refine Eqo.updl _ (Eqo.ovr2 ?_ ?_) ?_); rotate_left; exact rfl; exact rfl) | ((with_reducible refine Eqo.upd ?_ ?_); rotate_left; exact rfl))
        · refine ⟨?_, trivial⟩
          · exact vi (by omega)
    · first | (replace hc14 := of_decide_eq_false hc14) | simp at hc14
      refine k_exit ?_
      refine x_then (x_then ?_)
      refine x_hit ?_
      refine k_seq ?_
      refine k_region ?_
      refine s_run (w_none rfl) rfl (as_b rfl rfl) ?_
      refine l_nil ?_
      refine k_ret ?_
      repeat (first | refine r_then ?_ | refine r_blk ?_)
      refine q_ret (v := .bool _) rfl rfl ⟨_, rfl, vb ?_, H.under⟩
      rw [List.take_of_length_le (by omega), List.take_of_length_le (by omega)] at ht
      simp [ht]

def rowL (k : Nat) : List UInt8 := (List.range k).map fun i => UInt8.ofNat ((7 + i) % 251)
def pick (v n : Int) : Int := if n < 1 then 0 else v % n
theorem tmod_bd (v n : Int) (hn : 1 ≤ n) : -n < v.tmod n ∧ v.tmod n < n ∧ (v.tmod n < 0 → v.tmod n + n = v % n) ∧ (0 ≤ v.tmod n → v.tmod n = v % n) := by
  have h1 := Int.mul_tdiv_add_tmod v n
  have h2 : v.tmod n < n := Int.tmod_lt_of_pos v (by omega)
  have h3 : -n < v.tmod n := by
    have := Int.tmod_lt_of_pos (-v) (show (0 : Int) < n by omega)
    rw [Int.neg_tmod] at this; omega
  have h4 : v % n = (v.tmod n) % n := by
    conv => lhs; rw [← h1]
    rw [Int.add_comm, Int.add_mul_emod_self_left]
  refine ⟨h3, h2, fun h => ?_, fun h => ?_⟩
  · rw [h4, ← Int.add_emod_right, Int.emod_eq_of_lt (by omega) (by omega)]
  · rw [h4, Int.emod_eq_of_lt h h2]
theorem pick_any (v n : Int) (w : World) (hn : -9223372036854775808 ≤ n ∧ n ≤ 9223372036854775807) : Calls Tryd.prog 11 [.int .i64 v, .int .i64 n].toArray w (Ret (Is w (.int .i64 (pick v n)))) := by
  refine k_enter (l := [_, _]) Tryd.func11 rfl rfl ?_
  have H := St.start nT w
  refine k_seq ?_
  refine k_region ?_
  refine s_run (w_none rfl) rfl (as_i rfl rfl) ?_
  refine l_nil ?_
  refine k_seq ?_
  refine k_seq ?_
  refine k_region ?_
  refine s_run (w_none rfl) rfl (mv_i rfl rfl) ?_
  refine s_run (w_none rfl) rfl (d_lt rfl rfl rfl) ?_
  refine l_nil ?_
  refine k_cond rfl (fun hc6 => ?_) (fun hc6 => ?_)
  · replace hc6 := of_decide_eq_true hc6
    refine k_seq ?_
    refine k_region ?_
    refine s_run (w_none rfl) rfl (as_i rfl rfl) ?_
    refine l_nil ?_
    refine k_ret ?_
    repeat (first | refine r_then ?_ | refine r_blk ?_)
    refine q_ret (v := .int _ _) rfl rfl ⟨_, rfl, vi ?_, H.under⟩
    rw [pick, if_pos hc6]
  · replace hc6 := of_decide_eq_false hc6
    refine k_skip ?_
    refine k_seq ?_
    refine k_region ?_
    refine s_run (w_none rfl) rfl (mv_i rfl rfl) ?_
    refine s_run (w_none rfl) rfl (mv_i rfl rfl) ?_
    refine s_run (w_none rfl) rfl (d_remT rfl rfl rfl (by omega)) ?_
    refine s_run (w_none rfl) rfl (as_i rfl rfl) ?_
    refine l_nil ?_
    have htm := tmod_bd v n (by omega)
    refine k_seq ?_
    refine k_seq ?_
    refine k_region ?_
    refine s_run (w_none rfl) rfl (mv_i rfl rfl) ?_
    refine s_run (w_none rfl) rfl (d_lt rfl rfl rfl) ?_
    refine l_nil ?_
    refine k_cond rfl (fun hc11 => ?_) (fun hc11 => ?_)
    · replace hc11 := of_decide_eq_true hc11
      refine k_region ?_
      refine s_run (w_none rfl) rfl (mv_i rfl rfl) ?_
      refine s_run (w_none rfl) rfl (mv_i rfl rfl) ?_
      refine s_run (w_none rfl) rfl (d_add rfl rfl rfl (by omega)) ?_
      refine s_run (w_none rfl) rfl (as_i rfl rfl) ?_
      refine l_nil ?_
      refine k_seq ?_
      refine k_region ?_
      refine s_run (w_none rfl) rfl (mv_i rfl rfl) ?_
      refine s_run (w_none rfl) rfl (as_i rfl rfl) ?_
      refine l_nil ?_
      refine k_ret ?_
      repeat (first | refine r_then ?_ | refine r_blk ?_)
      refine q_ret (v := .int _ _) rfl rfl ⟨_, rfl, vi ?_, H.under⟩
      rw [pick, if_neg hc6]
      exact htm.2.2.1 hc11
    · replace hc11 := of_decide_eq_false hc11
      refine k_skip ?_
      refine k_seq ?_
      refine k_region ?_
      refine s_run (w_none rfl) rfl (mv_i rfl rfl) ?_
      refine s_run (w_none rfl) rfl (as_i rfl rfl) ?_
      refine l_nil ?_
      refine k_ret ?_
      repeat (first | refine r_then ?_ | refine r_blk ?_)
      refine q_ret (v := .int _ _) rfl rfl ⟨_, rfl, vi ?_, H.under⟩
      rw [pick, if_neg hc6]
      exact htm.2.2.2 (by omega)
end Go.Proofs.YtobcihaameofhaaDoor

namespace Go.Proofs.YtobcihaameofhaaDoor
open Go Go.RowKit
attribute [local irreducible] wpList

theorem sl_eq {A : Option Addr} {m n c : Nat} (h : m = n) : Value.slice A m c = .slice A n c := by rw [h]
/-- pack's forms, as they lie. -/
def formsC : List Value := [.int .u8 253, .int .i64 2, .int .u64 253, .int .u8 254, .int .i64 4, .int .u64 65536, .int .u8 255, .int .i64 8, .int .u64 4294967296]

theorem grow_nil (q : Nat) (z : Int) (w : World) (hz : z = (q : Int)) (hq : q ≤ 1099511627776) :
    Calls Tryd.prog 97 [.slice none 0 0, .int .i64 z].toArray w (Ret fun v w' => ∃ A c, v = .slice A 0 c ∧ c ≤ 9223372036854775807 ∧ New w w' (Fact.row 5 1 (.slice A 0 c) 0 [])) := by
  subst hz
  refine k_enter (l := [_, _]) Tryd.func97 rfl rfl ?_
  have H := St.start nT w
  refine k_seq ?_
  refine k_region ?_
  refine s_run (w_none rfl) rfl (as_s rfl rfl) ?_
  refine l_nil ?_
  refine k_seq ?_
  refine k_seq ?_
  refine k_region ?_
  refine s_run (w_none rfl) rfl (mv_i rfl rfl) ?_
  refine s_run (w_none rfl) rfl (d_lt rfl rfl rfl) ?_
  refine l_nil ?_
  refine k_condF rfl (by first | (simp; done) | (simp; omega)) ?_
  refine k_skip ?_
  refine k_seq ?_
  refine k_seq ?_
  refine k_region ?_
  refine s_run (w_none rfl) rfl (mv_i rfl rfl) ?_
  refine s_run (w_none rfl) rfl (mv_s rfl rfl) ?_
  refine s_run (w_none rfl) rfl (d_cap rfl rfl tu29) ?_
  refine s_run (w_none rfl) rfl (mv_s rfl rfl) ?_
  refine s_run (w_none rfl) rfl (d_len rfl rfl tu29) ?_
  refine s_run (w_none rfl) rfl (d_sub rfl rfl rfl (by omega)) ?_
  refine s_run (w_none rfl) rfl (d_sub rfl rfl rfl (by omega)) ?_
  refine s_run (w_none rfl) rfl (as_i rfl rfl) ?_
  refine l_nil ?_
  refine k_seq ?_
  refine k_region ?_
  refine s_run (w_none rfl) rfl (mv_i rfl rfl) ?_
  refine s_run (w_none rfl) rfl (d_gt rfl rfl rfl) ?_
  refine l_nil ?_
  refine k_cond rfl (fun hc16 => ?_) (fun hc16 => ?_)
  · first | (replace hc16 := of_decide_eq_true hc16) | simp at hc16
    refine k_region ?_
    refine s_run (w_none rfl) rfl (mv_s rfl rfl) ?_
    refine s_run (w_none rfl) rfl (mv_s rfl rfl) ?_
    refine s_run (w_none rfl) rfl (d_cap rfl rfl tu29) ?_
    refine s_run (w_none rfl) rfl (d_cutP rfl rfl (h := 0) rfl (by omega) rfl tu29 ts5) ?_
    refine s_run (w_none rfl) rfl (mv_i rfl rfl) ?_
    refine s_eff (e_appz (w_none rfl) rfl rfl tu29 tu3 (by kernel_rfl) rfl rfl (q := q) (by omega) (by omega) (by omega) H ?_)
    clear H; intro A1 c1 W hc1 hd1 H
    refine s_run (w_none rfl) rfl (mv_s rfl rfl) ?_
    refine s_run (w_none rfl) rfl (d_len rfl rfl tu29) ?_
    have hs : A1.isSome = true := row_some (H.rowrd (A := A1)) (by omega)
    replace H := H.rowcut (q := 0) (Nat.zero_le _) hs
    rw [Nat.zero_mul, List.take_zero] at H
    refine s_run (w_none rfl) rfl (d_cutP rfl rfl (h := 0) rfl (by omega) rfl tu29 ts5) ?_
    refine s_run (w_none rfl) rfl (as_s rfl rfl) ?_
    refine l_nil ?_
    refine k_seq ?_
    refine k_region ?_
    refine s_run (w_none rfl) rfl (mv_s rfl rfl) ?_
    refine s_run (w_none rfl) rfl (as_s rfl rfl) ?_
    refine l_nil ?_
    refine k_ret ?_
    repeat (first | refine r_then ?_ | refine r_blk ?_)
    exact q_ret (v := .slice _ _ _) rfl rfl ⟨_, rfl, _, _, rfl, hd1, H.give⟩
  · first | (replace hc16 := of_decide_eq_false hc16) | simp at hc16
    refine k_skip ?_
    refine k_seq ?_
    refine k_region ?_
    refine s_run (w_none rfl) rfl (mv_s rfl rfl) ?_
    refine s_run (w_none rfl) rfl (as_s rfl rfl) ?_
    refine l_nil ?_
    refine k_ret ?_
    repeat (first | refine r_then ?_ | refine r_blk ?_)
    replace H := H.nilrow 5 1
    exact q_ret (v := .slice _ _ _) rfl rfl ⟨_, rfl, _, _, rfl, by omega, H.give⟩

theorem concat2 {S S1 S2 : Nat → Prop} {A B C : Option Addr} {n m c d e : Nat} {l r : List UInt8} (w : World) (hs : Rd w S 1 C 2 [.slice A n c, .slice B m d]) (ha : Rd w S1 1 A n (l.map u8v)) (hb : Rd w S2 1 B m (r.map u8v)) (hl : n + m ≤ 1000000000000) :
    Calls Tryd.prog 65 [.slice C 2 e].toArray w (Ret (NewB 5 w (l ++ r))) := by
  have hn : l.length = n := by simpa using ha.1
  have hm : r.length = m := by simpa using hb.1
  refine k_enter (l := [_]) Tryd.func65 rfl rfl ?_
  have H := St.start nT w
  refine k_seq ?_
  refine k_region ?_
  refine s_run (w_none rfl) rfl (as_s rfl rfl) ?_
  refine l_nil ?_
  refine k_seq ?_
  refine k_region ?_
  refine s_run (w_none rfl) rfl (as_i rfl rfl) ?_
  refine l_nil ?_
  refine k_seq ?_
  refine k_seq ?_
  refine k_region ?_
  refine s_run (w_none rfl) rfl (mv_s rfl rfl) ?_
  refine s_run (w_none rfl) rfl (d_len rfl rfl tu68) ?_
  refine s_run (w_none rfl) rfl (mv_i rfl rfl) ?_
  refine l_nil ?_
  refine k_block ?_
  refine k_unr (k_one ?_)
  refine k_seq ?_
  refine k_region ?_
  refine s_run (w_none rfl) rfl (d_lt rfl rfl rfl) ?_
  refine l_nil ?_
  refine k_seq ?_
  refine k_condT rfl (by first | (simp; done) | (simp; omega)) ?_
  refine k_skip ?_
  refine k_seq ?_
  refine k_block ?_
  refine k_seq ?_
  refine k_region ?_
  refine s_run (w_none rfl) rfl (d_iaS rfl (H.rd hs) rfl rfl (q := 0) rfl (by omega) tu68 ts29) ?_
  refine s_run (w_none rfl) rfl (d_ldR0 rfl (H.rd hs) rfl ta29 rfl) ?_
  refine s_run (w_none rfl) rfl (as_s rfl rfl) ?_
  refine l_nil ?_
  refine k_seq ?_
  refine k_region ?_
  refine s_run (w_none rfl) rfl (mv_i rfl rfl) ?_
  refine s_run (w_none rfl) rfl (mv_s rfl rfl) ?_
  refine s_run (w_none rfl) rfl (d_len rfl rfl tu29) ?_
  refine s_run (w_none rfl) rfl (d_add rfl rfl rfl (by omega)) ?_
  refine s_run (w_none rfl) rfl (as_i rfl rfl) ?_
  refine l_nil ?_
  refine k_seq ?_
  refine k_region ?_
  refine s_run (w_none rfl) rfl (mv_i rfl rfl) ?_
  refine s_run (w_none rfl) rfl (d_lt rfl rfl rfl) ?_
  refine l_nil ?_
  refine k_condF rfl (by first | (simp; done) | (simp; omega)) ?_
  refine k_skip ?_
  refine k_nil ?_
  refine b_end ?_
  refine k_region ?_
  refine s_run (w_none rfl) rfl (d_add rfl rfl rfl (by omega)) ?_
  refine s_run (w_none rfl) rfl (mv_i rfl rfl) ?_
  refine l_nil ?_
  refine k_nil ?_
  refine k_next (hd_of (k_one ?_))
  refine k_seq ?_
  refine k_region ?_
  refine s_run (w_none rfl) rfl (d_lt rfl rfl rfl) ?_
  refine l_nil ?_
  refine k_seq ?_
  refine k_condT rfl (by first | (simp; done) | (simp; omega)) ?_
  refine k_skip ?_
  refine k_seq ?_
  refine k_block ?_
  refine k_seq ?_
  refine k_region ?_
  refine s_run (w_none rfl) rfl (d_iaS rfl (H.rd hs) rfl rfl (q := 1) rfl (by omega) tu68 ts29) ?_
  refine s_run (w_none rfl) rfl (d_ldR0 rfl (H.rd hs) rfl ta29 rfl) ?_
  refine s_run (w_none rfl) rfl (as_s rfl rfl) ?_
  refine l_nil ?_
  refine k_seq ?_
  refine k_region ?_
  refine s_run (w_none rfl) rfl (mv_i rfl rfl) ?_
  refine s_run (w_none rfl) rfl (mv_s rfl rfl) ?_
  refine s_run (w_none rfl) rfl (d_len rfl rfl tu29) ?_
  refine s_run (w_none rfl) rfl (d_add rfl rfl rfl (by omega)) ?_
  refine s_run (w_none rfl) rfl (as_i rfl rfl) ?_
  refine l_nil ?_
  refine k_seq ?_
  refine k_region ?_
  refine s_run (w_none rfl) rfl (mv_i rfl rfl) ?_
  refine s_run (w_none rfl) rfl (d_lt rfl rfl rfl) ?_
  refine l_nil ?_
  refine k_condF rfl (by first | (simp; done) | (simp; omega)) ?_
  refine k_skip ?_
  refine k_nil ?_
  refine b_end ?_
  refine k_region ?_
  refine s_run (w_none rfl) rfl (d_add rfl rfl rfl (by omega)) ?_
  refine s_run (w_none rfl) rfl (mv_i rfl rfl) ?_
  refine l_nil ?_
  refine k_nil ?_
  refine k_next (hd_of (k_one ?_))
  refine k_seq ?_
  refine k_region ?_
  refine s_run (w_none rfl) rfl (d_lt rfl rfl rfl) ?_
  refine l_nil ?_
  refine k_seq ?_
  refine k_condF rfl (by first | (simp; done) | (simp; omega)) ?_
  refine k_exit ?_
  refine x_then (x_then ?_)
  refine x_hit ?_
  refine k_seq ?_
  refine k_region ?_
  refine s_run (w_none rfl) rfl (mv_i rfl rfl) ?_
  refine s_eff (e_call (w_none rfl) rfl rfl Tryd.func97 rfl rfl rfl (grow_nil (n + m) _ _ (by omega) (by omega)) ?_)
  rintro _ W ⟨A1, c1, rfl, hd1, hn1⟩
  replace H := H.new hn1
  clear hn1
  refine s_run (w_none rfl) rfl (as_s rfl rfl) ?_
  refine l_nil ?_
  refine k_seq ?_
  refine k_seq ?_
  refine k_region ?_
  refine s_run (w_none rfl) rfl (mv_s rfl rfl) ?_
  refine s_run (w_none rfl) rfl (d_len rfl rfl tu68) ?_
  refine s_run (w_none rfl) rfl (mv_i rfl rfl) ?_
  refine l_nil ?_
  refine k_block ?_
  refine k_unr (k_one ?_)
  refine k_seq ?_
  refine k_region ?_
  refine s_run (w_none rfl) rfl (d_lt rfl rfl rfl) ?_
  refine l_nil ?_
  refine k_seq ?_
  refine k_condT rfl (by first | (simp; done) | (simp; omega)) ?_
  refine k_skip ?_
  refine k_seq ?_
  refine k_block ?_
  refine k_seq ?_
  refine k_region ?_
  refine s_run (w_none rfl) rfl (d_iaS rfl (H.rd hs) rfl rfl (q := 0) rfl (by omega) tu68 ts29) ?_
  refine s_run (w_none rfl) rfl (d_ldR0 rfl (H.rd hs) rfl ta29 rfl) ?_
  refine s_run (w_none rfl) rfl (as_s rfl rfl) ?_
  refine l_nil ?_
  refine k_region ?_
  refine s_run (w_none rfl) rfl (mv_s rfl rfl) ?_
  refine s_run (w_none rfl) rfl (mv_s rfl rfl) ?_
  refine s_eff (e_app (w_none rfl) rfl rfl tu29 tx5 rfl rfl rfl H (H.rd ha) (all_u8L _) (by omega) rfl ?_)
  clear H; intro A2 c2 W hc2 hd2 H
  refine s_run (w_none rfl) rfl (as_s rfl rfl) ?_
  refine l_nil ?_
  refine k_nil ?_
  refine b_end ?_
  refine k_region ?_
  refine s_run (w_none rfl) rfl (d_add rfl rfl rfl (by omega)) ?_
  refine s_run (w_none rfl) rfl (mv_i rfl rfl) ?_
  refine l_nil ?_
  refine k_nil ?_
  refine k_next (hd_of (k_one ?_))
  refine k_seq ?_
  refine k_region ?_
  refine s_run (w_none rfl) rfl (d_lt rfl rfl rfl) ?_
  refine l_nil ?_
  refine k_seq ?_
  refine k_condT rfl (by first | (simp; done) | (simp; omega)) ?_
  refine k_skip ?_
  refine k_seq ?_
  refine k_block ?_
  refine k_seq ?_
  refine k_region ?_
  refine s_run (w_none rfl) rfl (d_iaS rfl (H.rd hs) rfl rfl (q := 1) rfl (by omega) tu68 ts29) ?_
  refine s_run (w_none rfl) rfl (d_ldR0 rfl (H.rd hs) rfl ta29 rfl) ?_
  refine s_run (w_none rfl) rfl (as_s rfl rfl) ?_
  refine l_nil ?_
  refine k_region ?_
  refine s_run (w_none rfl) rfl (mv_s rfl rfl) ?_
  refine s_run (w_none rfl) rfl (mv_s rfl rfl) ?_
  refine s_eff (e_app (w_none rfl) rfl rfl tu29 tx5 rfl rfl rfl H (H.rd hb) (all_u8L _) (by omega) rfl ?_)
  clear H; intro A3 c3 W hc3 hd3 H
  refine s_run (w_none rfl) rfl (as_s rfl rfl) ?_
  refine l_nil ?_
  refine k_nil ?_
  refine b_end ?_
  refine k_region ?_
  refine s_run (w_none rfl) rfl (d_add rfl rfl rfl (by omega)) ?_
  refine s_run (w_none rfl) rfl (mv_i rfl rfl) ?_
  refine l_nil ?_
  refine k_nil ?_
  refine k_next (hd_of (k_one ?_))
  refine k_seq ?_
  refine k_region ?_
  refine s_run (w_none rfl) rfl (d_lt rfl rfl rfl) ?_
  refine l_nil ?_
  refine k_seq ?_
  refine k_condF rfl (by first | (simp; done) | (simp; omega)) ?_
  refine k_exit ?_
  refine x_then (x_then ?_)
  refine x_hit ?_
  refine k_seq ?_
  refine k_region ?_
  refine s_run (w_none rfl) rfl (mv_s rfl rfl) ?_
  refine s_run (w_none rfl) rfl (as_s rfl rfl) ?_
  refine l_nil ?_
  refine k_ret ?_
  repeat (first | refine r_then ?_ | refine r_blk ?_)
  exact q_ret (v := .slice _ _ _) rfl rfl ⟨_, rfl, H.newB (by simp; omega) (by simp) hc3 hd3⟩

theorem behind {S1 S2 : Nat → Prop} {v u : Value} {l r : List UInt8} (w : World) (ha : Bs w S1 v l) (hb : Bs w S2 u r) (hl : l.length + r.length ≤ 1000000000000) :
    Calls Tryd.prog 37 [v, u].toArray w (Ret (NewB 5 w (l ++ r))) := by
  obtain ⟨A, c, rfl, _, _, ha⟩ := ha.op
  obtain ⟨B, d, rfl, _, _, hb⟩ := hb.op
  refine k_enter (l := [_, _]) Tryd.func37 rfl rfl ?_
  have H := St.start nT w
  refine k_seq ?_
  refine k_region ?_
  refine s_run (w_none rfl) rfl (as_s rfl rfl) ?_
  refine l_nil ?_
  refine k_seq ?_
  refine k_region ?_
  refine s_run (w_none rfl) rfl (mv_s rfl rfl) ?_
  refine s_run (w_none rfl) rfl (mv_s rfl rfl) ?_
  refine s_eff (e_bsl (xs := [.tmp 5, .tmp 6]) (vals := [.slice _ _ _, .slice _ _ _]) (vs := [.slice _ _ _, .slice _ _ _]) (w_none rfl) rfl rfl rfl rfl rfl rfl tu68 ts29 ty29 rfl rfl rfl H ?_)
  clear H; intro g1_2 W H
  refine s_eff (e_call (w_none rfl) rfl rfl Tryd.func65 rfl rfl rfl (concat2 _ (rd_blk H.blk rfl) (H.rd ha) (H.rd hb) hl) ?_)
  rintro _ W ⟨A1, c1, rfl, hc1, hd1, hn⟩
  replace H := H.new hn
  clear hn
  refine s_run (w_none rfl) rfl (as_s rfl rfl) ?_
  refine l_nil ?_
  refine k_ret ?_
  repeat (first | refine r_then ?_ | refine r_blk ?_)
  exact q_ret (v := .slice _ _ _) rfl rfl ⟨_, rfl, H.newB rfl rfl hc1 hd1⟩

theorem packInt1 {S : Nat → Prop} {v : Value} {b : List UInt8} (n : Int) (w : World) (hG : Gat w 0 formsC) (hb : Bs w S v b) (hn : -9223372036854775808 ≤ n ∧ n ≤ 9223372036854775807) (hl : b.length ≤ 500000000000) (hu : Pk.toU n < 253) :
    Calls Tryd.prog 16 [v, .int .i64 n].toArray w (Ret (NewB 5 w (b ++ Pk.int (Pk.toU n)))) := by
  have hc := u64_wrap n
  have hcast := Pk.toU_cast n
  have hlt := Pk.toU_lt n
  generalize Pk.toU n = u at *
  have hb0 := hb
  obtain ⟨A, c, rfl, _, _, _⟩ := hb.op
  refine k_enter (l := [_, _]) Tryd.func16 rfl rfl ?_
  have H := St.start nT w
  refine k_seq ?_
  refine k_region ?_
  refine s_run (w_none rfl) rfl (as_s rfl rfl) ?_
  refine l_nil ?_
  refine k_seq ?_
  refine k_region ?_
  refine s_run (w_none rfl) rfl (mv_i rfl rfl) ?_
  refine s_run (w_none rfl) rfl (d_conv rfl rfl (by rw [tu3]; rfl) tu81 hc) ?_
  refine s_run (w_none rfl) rfl (as_i rfl rfl) ?_
  refine l_nil ?_
  refine k_seq ?_
  refine k_seq ?_
  refine k_region ?_
  refine s_run (w_none rfl) rfl (mv_i rfl rfl) ?_
  refine s_run (w_none rfl) rfl (d_iaA rfl rfl rfl (q := 0) rfl tu84 (by omega) ts83) ?_
  refine s_run (w_none rfl) rfl (d_fa rfl rfl tf83_2) ?_
  refine s_run (w_none rfl) rfl (d_ldG rfl (H.gat hG) rfl ta81 rfl) ?_
  refine s_run (w_none rfl) rfl (d_lt rfl rfl rfl) ?_
  refine l_nil ?_
  refine k_condT rfl (by first | (simp; done) | (simp; omega)) ?_
  refine k_seq ?_
  refine k_region ?_
  refine s_run (w_none rfl) rfl (mv_s rfl rfl) ?_
  refine s_run (w_none rfl) rfl (mv_i rfl rfl) ?_
  refine s_run (w_none rfl) rfl (d_conv rfl rfl (by rw [tu3]; rfl) tu5 (u8_eq (n := u) (by omega))) ?_
  refine s_eff (e_bsl (xs := [.tmp 20]) (vals := [.int .u8 _]) (vs := [.int .u8 _]) (w_none rfl) rfl rfl rfl rfl rfl rfl tu29 ts5 ty5 rfl rfl rfl H ?_)
  clear H; intro g3_3 W H
  refine s_eff (e_call (w_none rfl) rfl rfl Tryd.func37 rfl rfl rfl (behind _ (H.bs hb0) (Bs.mk (l := [UInt8.ofNat u]) (rd_blk H.blk rfl) (by omega) (by omega)) (by simp; omega)) ?_)
  rintro _ W ⟨A1, c1, rfl, hc1, hd1, hn⟩
  replace H := H.new hn
  clear hn
  refine s_run (w_none rfl) rfl (as_s rfl rfl) ?_
  refine l_nil ?_
  refine k_ret ?_
  repeat (first | refine r_then ?_ | refine r_blk ?_)
  exact q_ret (v := .slice _ _ _) rfl rfl ⟨_, rfl, H.newB (by rw [Pk.int_1 hu]) (by rw [Pk.int_1 hu]) hc1 hd1⟩

theorem packInt2 {S : Nat → Prop} {v : Value} {b : List UInt8} (n : Int) (w : World) (hG : Gat w 0 formsC) (hb : Bs w S v b) (hl : b.length ≤ 500000000000) (hu : 253 ≤ Pk.toU n ∧ Pk.toU n < 65536) :
    Calls Tryd.prog 16 [v, .int .i64 n].toArray w (Ret (NewB 5 w (b ++ Pk.int (Pk.toU n)))) := by
  have hc := u64_wrap n
  have hcast := Pk.toU_cast n
  have hlt := Pk.toU_lt n
  generalize Pk.toU n = u at *
  have hb0 := hb
  obtain ⟨A, c, rfl, _, _, _⟩ := hb.op
  refine k_enter (l := [_, _]) Tryd.func16 rfl rfl ?_
  have H := St.start nT w
  refine k_seq ?_
  refine k_region ?_
  refine s_run (w_none rfl) rfl (as_s rfl rfl) ?_
  refine l_nil ?_
  refine k_seq ?_
  refine k_region ?_
  refine s_run (w_none rfl) rfl (mv_i rfl rfl) ?_
  refine s_run (w_none rfl) rfl (d_conv rfl rfl (by rw [tu3]; rfl) tu81 hc) ?_
  refine s_run (w_none rfl) rfl (as_i rfl rfl) ?_
  refine l_nil ?_
  refine k_seq ?_
  refine k_seq ?_
  refine k_region ?_
  refine s_run (w_none rfl) rfl (mv_i rfl rfl) ?_
  refine s_run (w_none rfl) rfl (d_iaA rfl rfl rfl (q := 0) rfl tu84 (by omega) ts83) ?_
  refine s_run (w_none rfl) rfl (d_fa rfl rfl tf83_2) ?_
  refine s_run (w_none rfl) rfl (d_ldG rfl (H.gat hG) rfl ta81 rfl) ?_
  refine s_run (w_none rfl) rfl (d_lt rfl rfl rfl) ?_
  refine l_nil ?_
  refine k_condF rfl (by first | (simp; done) | (simp; omega)) ?_
  refine k_skip ?_
  refine k_seq ?_
  refine k_region ?_
  refine s_run (w_none rfl) rfl (d_iaA rfl rfl rfl (q := 0) rfl tu84 (by omega) ts83) ?_
  refine s_run (w_none rfl) rfl (d_ldmG rfl (H.gat hG) rfl ta83 ts83 rfl) ?_
  refine s_eff (e_alloc (w_none rfl) rfl rfl [.int .u8 0, .int .i64 0, .int .u64 0] tz83 H ?_)
  clear H; intro g4_2 W H
  refine s_eff (e_sto (w_none rfl) rfl rfl rfl rfl rfl ts83 rfl H rfl ?_)
  clear H; intro W H
  refine l_nil ?_
  refine k_seq ?_
  refine k_seq ?_
  refine k_region ?_
  refine s_run (w_none rfl) rfl (d_arrS rfl rfl rfl (l := 1) rfl tu84 (by omega) ts83) ?_
  refine s_run (w_none rfl) rfl (d_len rfl rfl tu86) ?_
  refine s_run (w_none rfl) rfl (mv_i rfl rfl) ?_
  refine l_nil ?_
  refine k_block ?_
  refine k_unr (k_one ?_)
  refine k_seq ?_
  refine k_region ?_
  refine s_run (w_none rfl) rfl (d_lt rfl rfl rfl) ?_
  refine l_nil ?_
  refine k_seq ?_
  refine k_condT rfl (by first | (simp; done) | (simp; omega)) ?_
  refine k_skip ?_
  refine k_seq ?_
  refine k_block ?_
  refine k_seq ?_
  refine k_region ?_
  refine s_run (w_none rfl) rfl (d_iaS rfl ((H.gat hG).rd (i := 3) (s := 3) (q := 2) rfl) rfl rfl (q := 0) rfl (by decide) tu86 ts83) ?_
  refine s_run (w_none rfl) rfl (d_ldmR (q := 0) rfl ((H.gat hG).rd (i := 3) (s := 3) (q := 2) rfl) rfl ta83 ts83 (by decide) (by decide)) ?_
  refine s_eff (e_alloc (w_none rfl) rfl rfl [.int .u8 0, .int .i64 0, .int .u64 0] tz83 H ?_)
  clear H; intro g7_2 W H
  refine s_eff (e_sto (w_none rfl) rfl rfl rfl rfl rfl ts83 rfl H rfl ?_)
  clear H; intro W H
  refine l_nil ?_
  refine k_seq ?_
  refine k_region ?_
  refine s_run (w_none rfl) rfl (mv_i rfl rfl) ?_
  refine s_run (w_none rfl) rfl (d_fa rfl rfl tf83_2) ?_
  refine s_run (w_none rfl) rfl (d_ld rfl H rfl ta81 rfl) ?_
  refine s_run (w_none rfl) rfl (d_ge rfl rfl rfl) ?_
  refine l_nil ?_
  refine k_condF rfl (by first | (simp; done) | (simp; omega)) ?_
  refine k_skip ?_
  refine k_nil ?_
  refine b_end ?_
  refine k_region ?_
  refine s_run (w_none rfl) rfl (d_add rfl rfl rfl (by omega)) ?_
  refine s_run (w_none rfl) rfl (mv_i rfl rfl) ?_
  refine l_nil ?_
  refine k_nil ?_
  refine k_next (hd_of (k_one ?_))
  refine k_seq ?_
  refine k_region ?_
  refine s_run (w_none rfl) rfl (d_lt rfl rfl rfl) ?_
  refine l_nil ?_
  refine k_seq ?_
  refine k_condT rfl (by first | (simp; done) | (simp; omega)) ?_
  refine k_skip ?_
  refine k_seq ?_
  refine k_block ?_
  refine k_seq ?_
  refine k_region ?_
  refine s_run (w_none rfl) rfl (d_iaS rfl ((H.gat hG).rd (i := 3) (s := 3) (q := 2) rfl) rfl rfl (q := 1) (by omega) (by decide) tu86 ts83) ?_
  refine s_run (w_none rfl) rfl (d_ldmR (q := 1) rfl ((H.gat hG).rd (i := 3) (s := 3) (q := 2) rfl) rfl ta83 ts83 (by decide) (by decide)) ?_
  refine s_eff (e_alloc (w_none rfl) rfl rfl [.int .u8 0, .int .i64 0, .int .u64 0] tz83 H ?_)
  clear H; intro g7_2 W H
  refine s_eff (e_sto (w_none rfl) rfl rfl rfl rfl rfl ts83 rfl H rfl ?_)
  clear H; intro W H
  refine l_nil ?_
  refine k_seq ?_
  refine k_region ?_
  refine s_run (w_none rfl) rfl (mv_i rfl rfl) ?_
  refine s_run (w_none rfl) rfl (d_fa rfl rfl tf83_2) ?_
  refine s_run (w_none rfl) rfl (d_ld rfl H rfl ta81 rfl) ?_
  refine s_run (w_none rfl) rfl (d_ge rfl rfl rfl) ?_
  refine l_nil ?_
  refine k_condF rfl (by first | (simp; done) | (simp; omega)) ?_
  refine k_skip ?_
  refine k_nil ?_
  refine b_end ?_
  refine k_region ?_
  refine s_run (w_none rfl) rfl (d_add rfl rfl rfl (by omega)) ?_
  refine s_run (w_none rfl) rfl (mv_i rfl rfl) ?_
  refine l_nil ?_
  refine k_nil ?_
  refine k_next (hd_of (k_one ?_))
  refine k_seq ?_
  refine k_region ?_
  refine s_run (w_none rfl) rfl (d_lt rfl rfl rfl) ?_
  refine l_nil ?_
  refine k_seq ?_
  refine k_condF rfl (by first | (simp; done) | (simp; omega)) ?_
  refine k_exit ?_
  refine x_then (x_then ?_)
  refine x_hit ?_
  refine k_seq ?_
  refine k_region ?_
  refine s_run (w_none rfl) rfl (mv_s rfl rfl) ?_
  refine s_run (w_none rfl) rfl (d_fa rfl rfl tf83_0) ?_
  refine s_run (w_none rfl) rfl (d_ld rfl H rfl ta5 rfl) ?_
  refine s_eff (e_bsl (xs := [.tmp 39]) (vals := [.int .u8 _]) (vs := [.int .u8 _]) (w_none rfl) rfl rfl rfl rfl rfl rfl tu29 ts5 ty5 rfl rfl rfl H ?_)
  clear H; intro g11_3 W H
  refine s_eff (e_call (w_none rfl) rfl rfl Tryd.func37 rfl rfl rfl (behind _ (H.bs hb0) (Bs.mk (l := [253]) (rd_blk H.blk rfl) (by omega) (by omega)) (by simp; omega)) ?_)
  rintro _ W ⟨A1, c1, rfl, hc1, hd1, hn⟩
  replace H := H.new hn
  clear hn
  refine s_run (w_none rfl) rfl (as_s rfl rfl) ?_
  refine l_nil ?_
  refine k_seq ?_
  refine k_seq ?_
  refine k_region ?_
  refine s_run (w_none rfl) rfl (d_fa rfl rfl tf83_1) ?_
  refine s_run (w_none rfl) rfl (d_ld rfl H rfl ta3 rfl) ?_
  refine s_run (w_none rfl) rfl (mv_i rfl rfl) ?_
  refine l_nil ?_
  replace H := H.sub (L' := [_]) (.cons_cons _ (List.nil_sublist _))
  refine k_block ?_
  refine k_loop 44 [9, 10] (fun mm sl W => ∃ k : Nat, ∃ B : Option Addr, ∃ d : Nat, 2 - k = mm ∧ sl = [(44, .int .i64 (k : Int)), (9, .slice B (b.length + 1 + k) d)] ∧ (k ≤ 2) ∧ (b.length + 1 + k ≤ d ∧ d ≤ 9223372036854775807) ∧ St nT w W [Fact.row 5 1 (.slice B (b.length + 1 + k) d) (b.length + 1 + k) ((b ++ 253 :: Pk.le u k).map u8v)]) _ _ ⟨0, A1, c1, rfl, rfl, by omega, ⟨by simpa using hc1, hd1⟩, by simpa [Pk.le] using H⟩ ⟨rfl, sl_eq (by simp), trivial⟩ (fun mm sl ρv W hJ => ?_)
  clear H; obtain ⟨k, B, d, rfl, rfl, hk, hd, H⟩ := hJ
  refine k_one ?_
  refine k_seq ?_
  refine k_region ?_
  refine s_run (w_none rfl) rfl (d_lt rfl rfl rfl) ?_
  refine l_nil ?_
  refine k_seq ?_
  refine k_cond rfl (fun hc45 => ?_) (fun hc45 => ?_)
  · first | (replace hc45 := of_decide_eq_true hc45) | simp at hc45
    refine k_skip ?_
    refine k_seq ?_
    refine k_block ?_
    refine k_seq ?_
    refine k_region ?_
    refine s_run (w_none rfl) rfl (mv_i rfl rfl) ?_
    refine s_run (w_none rfl) rfl (as_i rfl rfl) ?_
    refine l_nil ?_
    refine k_region ?_
    refine s_run (w_none rfl) rfl (mv_s rfl rfl) ?_
    refine s_run (w_none rfl) rfl (mv_i rfl rfl) ?_
    refine s_run (w_none rfl) rfl (mv_i rfl rfl) ?_
    refine s_run (w_none rfl) rfl (d_mul rfl rfl rfl (by omega)) ?_
    refine s_run (w_none rfl) rfl (d_shr rfl rfl rfl (m := 8 * k) rfl (by show 8 * k ≤ 64; omega)) ?_
    refine s_run (w_none rfl) rfl (d_conv rfl rfl (by rw [tu81]; rfl) tu5 (u8_eq (shr_le u k))) ?_
    refine s_eff (e_bsl (xs := [.tmp 52]) (vals := [.int .u8 _]) (vs := [.int .u8 _]) (w_none rfl) rfl rfl rfl rfl rfl rfl tu29 ts5 ty5 rfl rfl rfl H ?_)
    clear H; intro g15_6 W H
    refine s_eff (e_app (w_none rfl) rfl rfl tu29 tx5 rfl rfl rfl H (rd_blk H.blk rfl) (rfl) (by omega) rfl ?_)
    clear H; intro A2 c2 W hc2 hd2 H
    replace H := H.drop
    refine s_run (w_none rfl) rfl (as_s rfl rfl) ?_
    refine l_nil ?_
    refine k_nil ?_
    refine b_end ?_
    refine k_region ?_
    refine s_run (w_none rfl) rfl (d_add rfl rfl rfl (by omega)) ?_
    refine s_run (w_none rfl) rfl (mv_i rfl rfl) ?_
    refine l_nil ?_
    refine k_nil ?_
    refine k_next ?_
    refine ⟨_, _, _, ?_, rfl, ?_, ?_, ⟨k + 1, A2, c2, rfl, rfl, by omega, ⟨by omega, hd2⟩, by rw [Pk.le_succ, ← List.cons_append, map_snoc]; exact H⟩⟩
    · omega
    · repeat (first | ((with_reducible refine Eqo.updl _ Eqo.ovr ?_); exact rfl) | ((with_reducible refine Eqo.updl _ (Eqo.ovr2 ?_ ?_) ?_); rotate_left; exact rfl; exact rfl) | ((with_reducible refine Eqo.upd ?_ ?_); rotate_left; exact rfl))
    · refine ⟨?_, ?_, trivial⟩
      · exact vi (by omega)
      · exact rfl
  · first | (replace hc45 := of_decide_eq_false hc45) | simp at hc45
    refine k_exit ?_
    refine x_then (x_then ?_)
    refine x_hit ?_
    refine k_seq ?_
    obtain rfl : k = 2 := by omega
    refine k_region ?_
    refine s_run (w_none rfl) rfl (mv_s rfl rfl) ?_
    refine s_run (w_none rfl) rfl (as_s rfl rfl) ?_
    refine l_nil ?_
    refine k_ret ?_
    repeat (first | refine r_then ?_ | refine r_blk ?_)
    exact q_ret (v := .slice _ _ _) rfl rfl ⟨_, rfl, H.newB (by rw [Pk.int_2 hu.1 hu.2]; simp [Pk.len_le]) (by rw [Pk.int_2 hu.1 hu.2]) hd.1 hd.2⟩

theorem packInt4 {S : Nat → Prop} {v : Value} {b : List UInt8} (n : Int) (w : World) (hG : Gat w 0 formsC) (hb : Bs w S v b) (hl : b.length ≤ 500000000000) (hu : 65536 ≤ Pk.toU n ∧ Pk.toU n < 4294967296) :
    Calls Tryd.prog 16 [v, .int .i64 n].toArray w (Ret (NewB 5 w (b ++ Pk.int (Pk.toU n)))) := by
  have hc := u64_wrap n
  have hcast := Pk.toU_cast n
  have hlt := Pk.toU_lt n
  generalize Pk.toU n = u at *
  have hb0 := hb
  obtain ⟨A, c, rfl, _, _, _⟩ := hb.op
  refine k_enter (l := [_, _]) Tryd.func16 rfl rfl ?_
  have H := St.start nT w
  refine k_seq ?_
  refine k_region ?_
  refine s_run (w_none rfl) rfl (as_s rfl rfl) ?_
  refine l_nil ?_
  refine k_seq ?_
  refine k_region ?_
  refine s_run (w_none rfl) rfl (mv_i rfl rfl) ?_
  refine s_run (w_none rfl) rfl (d_conv rfl rfl (by rw [tu3]; rfl) tu81 hc) ?_
  refine s_run (w_none rfl) rfl (as_i rfl rfl) ?_
  refine l_nil ?_
  refine k_seq ?_
  refine k_seq ?_
  refine k_region ?_
  refine s_run (w_none rfl) rfl (mv_i rfl rfl) ?_
  refine s_run (w_none rfl) rfl (d_iaA rfl rfl rfl (q := 0) rfl tu84 (by omega) ts83) ?_
  refine s_run (w_none rfl) rfl (d_fa rfl rfl tf83_2) ?_
  refine s_run (w_none rfl) rfl (d_ldG rfl (H.gat hG) rfl ta81 rfl) ?_
  refine s_run (w_none rfl) rfl (d_lt rfl rfl rfl) ?_
  refine l_nil ?_
  refine k_condF rfl (by first | (simp; done) | (simp; omega)) ?_
  refine k_skip ?_
  refine k_seq ?_
  refine k_region ?_
  refine s_run (w_none rfl) rfl (d_iaA rfl rfl rfl (q := 0) rfl tu84 (by omega) ts83) ?_
  refine s_run (w_none rfl) rfl (d_ldmG rfl (H.gat hG) rfl ta83 ts83 rfl) ?_
  refine s_eff (e_alloc (w_none rfl) rfl rfl [.int .u8 0, .int .i64 0, .int .u64 0] tz83 H ?_)
  clear H; intro g4_2 W H
  refine s_eff (e_sto (w_none rfl) rfl rfl rfl rfl rfl ts83 rfl H rfl ?_)
  clear H; intro W H
  refine l_nil ?_
  refine k_seq ?_
  refine k_seq ?_
  refine k_region ?_
  refine s_run (w_none rfl) rfl (d_arrS rfl rfl rfl (l := 1) rfl tu84 (by omega) ts83) ?_
  refine s_run (w_none rfl) rfl (d_len rfl rfl tu86) ?_
  refine s_run (w_none rfl) rfl (mv_i rfl rfl) ?_
  refine l_nil ?_
  refine k_block ?_
  refine k_unr (k_one ?_)
  refine k_seq ?_
  refine k_region ?_
  refine s_run (w_none rfl) rfl (d_lt rfl rfl rfl) ?_
  refine l_nil ?_
  refine k_seq ?_
  refine k_condT rfl (by first | (simp; done) | (simp; omega)) ?_
  refine k_skip ?_
  refine k_seq ?_
  refine k_block ?_
  refine k_seq ?_
  refine k_region ?_
  refine s_run (w_none rfl) rfl (d_iaS rfl ((H.gat hG).rd (i := 3) (s := 3) (q := 2) rfl) rfl rfl (q := 0) rfl (by decide) tu86 ts83) ?_
  refine s_run (w_none rfl) rfl (d_ldmR (q := 0) rfl ((H.gat hG).rd (i := 3) (s := 3) (q := 2) rfl) rfl ta83 ts83 (by decide) (by decide)) ?_
  refine s_eff (e_alloc (w_none rfl) rfl rfl [.int .u8 0, .int .i64 0, .int .u64 0] tz83 H ?_)
  clear H; intro g7_2 W H
  refine s_eff (e_sto (w_none rfl) rfl rfl rfl rfl rfl ts83 rfl H rfl ?_)
  clear H; intro W H
  refine l_nil ?_
  refine k_seq ?_
  refine k_region ?_
  refine s_run (w_none rfl) rfl (mv_i rfl rfl) ?_
  refine s_run (w_none rfl) rfl (d_fa rfl rfl tf83_2) ?_
  refine s_run (w_none rfl) rfl (d_ld rfl H rfl ta81 rfl) ?_
  refine s_run (w_none rfl) rfl (d_ge rfl rfl rfl) ?_
  refine l_nil ?_
  refine k_condT rfl (by first | (simp; done) | (simp; omega)) ?_
  refine k_region ?_
  refine s_run (w_none rfl) rfl (d_ldm rfl H rfl ta83 ts83 rfl) ?_
  refine s_eff (e_sto (w_none rfl) rfl rfl rfl rfl rfl ts83 rfl H rfl ?_)
  clear H; intro W H
  refine l_nil ?_
  refine k_nil ?_
  refine b_end ?_
  refine k_region ?_
  refine s_run (w_none rfl) rfl (d_add rfl rfl rfl (by omega)) ?_
  refine s_run (w_none rfl) rfl (mv_i rfl rfl) ?_
  refine l_nil ?_
  refine k_nil ?_
  refine k_next (hd_of (k_one ?_))
  refine k_seq ?_
  refine k_region ?_
  refine s_run (w_none rfl) rfl (d_lt rfl rfl rfl) ?_
  refine l_nil ?_
  refine k_seq ?_
  refine k_condT rfl (by first | (simp; done) | (simp; omega)) ?_
  refine k_skip ?_
  refine k_seq ?_
  refine k_block ?_
  refine k_seq ?_
  refine k_region ?_
  refine s_run (w_none rfl) rfl (d_iaS rfl ((H.gat hG).rd (i := 3) (s := 3) (q := 2) rfl) rfl rfl (q := 1) (by omega) (by decide) tu86 ts83) ?_
  refine s_run (w_none rfl) rfl (d_ldmR (q := 1) rfl ((H.gat hG).rd (i := 3) (s := 3) (q := 2) rfl) rfl ta83 ts83 (by decide) (by decide)) ?_
  refine s_eff (e_alloc (w_none rfl) rfl rfl [.int .u8 0, .int .i64 0, .int .u64 0] tz83 H ?_)
  clear H; intro g7_2 W H
  refine s_eff (e_sto (w_none rfl) rfl rfl rfl rfl rfl ts83 rfl H rfl ?_)
  clear H; intro W H
  refine l_nil ?_
  refine k_seq ?_
  refine k_region ?_
  refine s_run (w_none rfl) rfl (mv_i rfl rfl) ?_
  refine s_run (w_none rfl) rfl (d_fa rfl rfl tf83_2) ?_
  refine s_run (w_none rfl) rfl (d_ld rfl H rfl ta81 rfl) ?_
  refine s_run (w_none rfl) rfl (d_ge rfl rfl rfl) ?_
  refine l_nil ?_
  refine k_condF rfl (by first | (simp; done) | (simp; omega)) ?_
  refine k_skip ?_
  refine k_nil ?_
  refine b_end ?_
  refine k_region ?_
  refine s_run (w_none rfl) rfl (d_add rfl rfl rfl (by omega)) ?_
  refine s_run (w_none rfl) rfl (mv_i rfl rfl) ?_
  refine l_nil ?_
  refine k_nil ?_
  refine k_next (hd_of (k_one ?_))
  refine k_seq ?_
  refine k_region ?_
  refine s_run (w_none rfl) rfl (d_lt rfl rfl rfl) ?_
  refine l_nil ?_
  refine k_seq ?_
  refine k_condF rfl (by first | (simp; done) | (simp; omega)) ?_
  refine k_exit ?_
  refine x_then (x_then ?_)
  refine x_hit ?_
  refine k_seq ?_
  refine k_region ?_
  refine s_run (w_none rfl) rfl (mv_s rfl rfl) ?_
  refine s_run (w_none rfl) rfl (d_fa rfl rfl tf83_0) ?_
  refine s_run (w_none rfl) rfl (d_ld rfl H rfl ta5 rfl) ?_
  refine s_eff (e_bsl (xs := [.tmp 39]) (vals := [.int .u8 _]) (vs := [.int .u8 _]) (w_none rfl) rfl rfl rfl rfl rfl rfl tu29 ts5 ty5 rfl rfl rfl H ?_)
  clear H; intro g11_3 W H
  refine s_eff (e_call (w_none rfl) rfl rfl Tryd.func37 rfl rfl rfl (behind _ (H.bs hb0) (Bs.mk (l := [254]) (rd_blk H.blk rfl) (by omega) (by omega)) (by simp; omega)) ?_)
  rintro _ W ⟨A1, c1, rfl, hc1, hd1, hn⟩
  replace H := H.new hn
  clear hn
  refine s_run (w_none rfl) rfl (as_s rfl rfl) ?_
  refine l_nil ?_
  refine k_seq ?_
  refine k_seq ?_
  refine k_region ?_
  refine s_run (w_none rfl) rfl (d_fa rfl rfl tf83_1) ?_
  refine s_run (w_none rfl) rfl (d_ld rfl H rfl ta3 rfl) ?_
  refine s_run (w_none rfl) rfl (mv_i rfl rfl) ?_
  refine l_nil ?_
  replace H := H.sub (L' := [_]) (.cons_cons _ (List.nil_sublist _))
  refine k_block ?_
  refine k_loop 44 [9, 10] (fun mm sl W => ∃ k : Nat, ∃ B : Option Addr, ∃ d : Nat, 4 - k = mm ∧ sl = [(44, .int .i64 (k : Int)), (9, .slice B (b.length + 1 + k) d)] ∧ (k ≤ 4) ∧ (b.length + 1 + k ≤ d ∧ d ≤ 9223372036854775807) ∧ St nT w W [Fact.row 5 1 (.slice B (b.length + 1 + k) d) (b.length + 1 + k) ((b ++ 254 :: Pk.le u k).map u8v)]) _ _ ⟨0, A1, c1, rfl, rfl, by omega, ⟨by simpa using hc1, hd1⟩, by simpa [Pk.le] using H⟩ ⟨rfl, sl_eq (by simp), trivial⟩ (fun mm sl ρv W hJ => ?_)
  clear H; obtain ⟨k, B, d, rfl, rfl, hk, hd, H⟩ := hJ
  refine k_one ?_
  refine k_seq ?_
  refine k_region ?_
  refine s_run (w_none rfl) rfl (d_lt rfl rfl rfl) ?_
  refine l_nil ?_
  refine k_seq ?_
  refine k_cond rfl (fun hc45 => ?_) (fun hc45 => ?_)
  · first | (replace hc45 := of_decide_eq_true hc45) | simp at hc45
    refine k_skip ?_
    refine k_seq ?_
    refine k_block ?_
    refine k_seq ?_
    refine k_region ?_
    refine s_run (w_none rfl) rfl (mv_i rfl rfl) ?_
    refine s_run (w_none rfl) rfl (as_i rfl rfl) ?_
    refine l_nil ?_
    refine k_region ?_
    refine s_run (w_none rfl) rfl (mv_s rfl rfl) ?_
    refine s_run (w_none rfl) rfl (mv_i rfl rfl) ?_
    refine s_run (w_none rfl) rfl (mv_i rfl rfl) ?_
    refine s_run (w_none rfl) rfl (d_mul rfl rfl rfl (by omega)) ?_
    refine s_run (w_none rfl) rfl (d_shr rfl rfl rfl (m := 8 * k) rfl (by show 8 * k ≤ 64; omega)) ?_
    refine s_run (w_none rfl) rfl (d_conv rfl rfl (by rw [tu81]; rfl) tu5 (u8_eq (shr_le u k))) ?_
    refine s_eff (e_bsl (xs := [.tmp 52]) (vals := [.int .u8 _]) (vs := [.int .u8 _]) (w_none rfl) rfl rfl rfl rfl rfl rfl tu29 ts5 ty5 rfl rfl rfl H ?_)
    clear H; intro g15_6 W H
    refine s_eff (e_app (w_none rfl) rfl rfl tu29 tx5 rfl rfl rfl H (rd_blk H.blk rfl) (rfl) (by omega) rfl ?_)
    clear H; intro A2 c2 W hc2 hd2 H
    replace H := H.drop
    refine s_run (w_none rfl) rfl (as_s rfl rfl) ?_
    refine l_nil ?_
    refine k_nil ?_
    refine b_end ?_
    refine k_region ?_
    refine s_run (w_none rfl) rfl (d_add rfl rfl rfl (by omega)) ?_
    refine s_run (w_none rfl) rfl (mv_i rfl rfl) ?_
    refine l_nil ?_
    refine k_nil ?_
    refine k_next ?_
    refine ⟨_, _, _, ?_, rfl, ?_, ?_, ⟨k + 1, A2, c2, rfl, rfl, by omega, ⟨by omega, hd2⟩, by rw [Pk.le_succ, ← List.cons_append, map_snoc]; exact H⟩⟩
    · omega
    · repeat (first | ((with_reducible refine Eqo.updl _ Eqo.ovr ?_); exact rfl) | ((with_reducible refine Eqo.updl _ (Eqo.ovr2 ?_ ?_) ?_); rotate_left; exact rfl; exact rfl) | ((with_reducible refine Eqo.upd ?_ ?_); rotate_left; exact rfl))
    · refine ⟨?_, ?_, trivial⟩
      · exact vi (by omega)
      · exact rfl
  · first | (replace hc45 := of_decide_eq_false hc45) | simp at hc45
    refine k_exit ?_
    refine x_then (x_then ?_)
    refine x_hit ?_
    refine k_seq ?_
    obtain rfl : k = 4 := by omega
    refine k_region ?_
    refine s_run (w_none rfl) rfl (mv_s rfl rfl) ?_
    refine s_run (w_none rfl) rfl (as_s rfl rfl) ?_
    refine l_nil ?_
    refine k_ret ?_
    repeat (first | refine r_then ?_ | refine r_blk ?_)
    exact q_ret (v := .slice _ _ _) rfl rfl ⟨_, rfl, H.newB (by rw [Pk.int_4 hu.1 hu.2]; simp [Pk.len_le]) (by rw [Pk.int_4 hu.1 hu.2]) hd.1 hd.2⟩

theorem packInt8 {S : Nat → Prop} {v : Value} {b : List UInt8} (n : Int) (w : World) (hG : Gat w 0 formsC) (hb : Bs w S v b) (hl : b.length ≤ 500000000000) (hu : 4294967296 ≤ Pk.toU n) :
    Calls Tryd.prog 16 [v, .int .i64 n].toArray w (Ret (NewB 5 w (b ++ Pk.int (Pk.toU n)))) := by
  have hc := u64_wrap n
  have hcast := Pk.toU_cast n
  have hlt := Pk.toU_lt n
  generalize Pk.toU n = u at *
  have hb0 := hb
  obtain ⟨A, c, rfl, _, _, _⟩ := hb.op
  refine k_enter (l := [_, _]) Tryd.func16 rfl rfl ?_
  have H := St.start nT w
  refine k_seq ?_
  refine k_region ?_
  refine s_run (w_none rfl) rfl (as_s rfl rfl) ?_
  refine l_nil ?_
  refine k_seq ?_
  refine k_region ?_
  refine s_run (w_none rfl) rfl (mv_i rfl rfl) ?_
  refine s_run (w_none rfl) rfl (d_conv rfl rfl (by rw [tu3]; rfl) tu81 hc) ?_
  refine s_run (w_none rfl) rfl (as_i rfl rfl) ?_
  refine l_nil ?_
  refine k_seq ?_
  refine k_seq ?_
  refine k_region ?_
  refine s_run (w_none rfl) rfl (mv_i rfl rfl) ?_
  refine s_run (w_none rfl) rfl (d_iaA rfl rfl rfl (q := 0) rfl tu84 (by omega) ts83) ?_
  refine s_run (w_none rfl) rfl (d_fa rfl rfl tf83_2) ?_
  refine s_run (w_none rfl) rfl (d_ldG rfl (H.gat hG) rfl ta81 rfl) ?_
  refine s_run (w_none rfl) rfl (d_lt rfl rfl rfl) ?_
  refine l_nil ?_
  refine k_condF rfl (by first | (simp; done) | (simp; omega)) ?_
  refine k_skip ?_
  refine k_seq ?_
  refine k_region ?_
  refine s_run (w_none rfl) rfl (d_iaA rfl rfl rfl (q := 0) rfl tu84 (by omega) ts83) ?_
  refine s_run (w_none rfl) rfl (d_ldmG rfl (H.gat hG) rfl ta83 ts83 rfl) ?_
  refine s_eff (e_alloc (w_none rfl) rfl rfl [.int .u8 0, .int .i64 0, .int .u64 0] tz83 H ?_)
  clear H; intro g4_2 W H
  refine s_eff (e_sto (w_none rfl) rfl rfl rfl rfl rfl ts83 rfl H rfl ?_)
  clear H; intro W H
  refine l_nil ?_
  refine k_seq ?_
  refine k_seq ?_
  refine k_region ?_
  refine s_run (w_none rfl) rfl (d_arrS rfl rfl rfl (l := 1) rfl tu84 (by omega) ts83) ?_
  refine s_run (w_none rfl) rfl (d_len rfl rfl tu86) ?_
  refine s_run (w_none rfl) rfl (mv_i rfl rfl) ?_
  refine l_nil ?_
  refine k_block ?_
  refine k_unr (k_one ?_)
  refine k_seq ?_
  refine k_region ?_
  refine s_run (w_none rfl) rfl (d_lt rfl rfl rfl) ?_
  refine l_nil ?_
  refine k_seq ?_
  refine k_condT rfl (by first | (simp; done) | (simp; omega)) ?_
  refine k_skip ?_
  refine k_seq ?_
  refine k_block ?_
  refine k_seq ?_
  refine k_region ?_
  refine s_run (w_none rfl) rfl (d_iaS rfl ((H.gat hG).rd (i := 3) (s := 3) (q := 2) rfl) rfl rfl (q := 0) rfl (by decide) tu86 ts83) ?_
  refine s_run (w_none rfl) rfl (d_ldmR (q := 0) rfl ((H.gat hG).rd (i := 3) (s := 3) (q := 2) rfl) rfl ta83 ts83 (by decide) (by decide)) ?_
  refine s_eff (e_alloc (w_none rfl) rfl rfl [.int .u8 0, .int .i64 0, .int .u64 0] tz83 H ?_)
  clear H; intro g7_2 W H
  refine s_eff (e_sto (w_none rfl) rfl rfl rfl rfl rfl ts83 rfl H rfl ?_)
  clear H; intro W H
  refine l_nil ?_
  refine k_seq ?_
  refine k_region ?_
  refine s_run (w_none rfl) rfl (mv_i rfl rfl) ?_
  refine s_run (w_none rfl) rfl (d_fa rfl rfl tf83_2) ?_
  refine s_run (w_none rfl) rfl (d_ld rfl H rfl ta81 rfl) ?_
  refine s_run (w_none rfl) rfl (d_ge rfl rfl rfl) ?_
  refine l_nil ?_
  refine k_condT rfl (by first | (simp; done) | (simp; omega)) ?_
  refine k_region ?_
  refine s_run (w_none rfl) rfl (d_ldm rfl H rfl ta83 ts83 rfl) ?_
  refine s_eff (e_sto (w_none rfl) rfl rfl rfl rfl rfl ts83 rfl H rfl ?_)
  clear H; intro W H
  refine l_nil ?_
  refine k_nil ?_
  refine b_end ?_
  refine k_region ?_
  refine s_run (w_none rfl) rfl (d_add rfl rfl rfl (by omega)) ?_
  refine s_run (w_none rfl) rfl (mv_i rfl rfl) ?_
  refine l_nil ?_
  refine k_nil ?_
  refine k_next (hd_of (k_one ?_))
  refine k_seq ?_
  refine k_region ?_
  refine s_run (w_none rfl) rfl (d_lt rfl rfl rfl) ?_
  refine l_nil ?_
  refine k_seq ?_
  refine k_condT rfl (by first | (simp; done) | (simp; omega)) ?_
  refine k_skip ?_
  refine k_seq ?_
  refine k_block ?_
  refine k_seq ?_
  refine k_region ?_
  refine s_run (w_none rfl) rfl (d_iaS rfl ((H.gat hG).rd (i := 3) (s := 3) (q := 2) rfl) rfl rfl (q := 1) (by omega) (by decide) tu86 ts83) ?_
  refine s_run (w_none rfl) rfl (d_ldmR (q := 1) rfl ((H.gat hG).rd (i := 3) (s := 3) (q := 2) rfl) rfl ta83 ts83 (by decide) (by decide)) ?_
  refine s_eff (e_alloc (w_none rfl) rfl rfl [.int .u8 0, .int .i64 0, .int .u64 0] tz83 H ?_)
  clear H; intro g7_2 W H
  refine s_eff (e_sto (w_none rfl) rfl rfl rfl rfl rfl ts83 rfl H rfl ?_)
  clear H; intro W H
  refine l_nil ?_
  refine k_seq ?_
  refine k_region ?_
  refine s_run (w_none rfl) rfl (mv_i rfl rfl) ?_
  refine s_run (w_none rfl) rfl (d_fa rfl rfl tf83_2) ?_
  refine s_run (w_none rfl) rfl (d_ld rfl H rfl ta81 rfl) ?_
  refine s_run (w_none rfl) rfl (d_ge rfl rfl rfl) ?_
  refine l_nil ?_
  refine k_condT rfl (by first | (simp; done) | (simp; omega)) ?_
  refine k_region ?_
  refine s_run (w_none rfl) rfl (d_ldm rfl H rfl ta83 ts83 rfl) ?_
  refine s_eff (e_sto (w_none rfl) rfl rfl rfl rfl rfl ts83 rfl H rfl ?_)
  clear H; intro W H
  refine l_nil ?_
  refine k_nil ?_
  refine b_end ?_
  refine k_region ?_
  refine s_run (w_none rfl) rfl (d_add rfl rfl rfl (by omega)) ?_
  refine s_run (w_none rfl) rfl (mv_i rfl rfl) ?_
  refine l_nil ?_
  refine k_nil ?_
  refine k_next (hd_of (k_one ?_))
  refine k_seq ?_
  refine k_region ?_
  refine s_run (w_none rfl) rfl (d_lt rfl rfl rfl) ?_
  refine l_nil ?_
  refine k_seq ?_
  refine k_condF rfl (by first | (simp; done) | (simp; omega)) ?_
  refine k_exit ?_
  refine x_then (x_then ?_)
  refine x_hit ?_
  refine k_seq ?_
  refine k_region ?_
  refine s_run (w_none rfl) rfl (mv_s rfl rfl) ?_
  refine s_run (w_none rfl) rfl (d_fa rfl rfl tf83_0) ?_
  refine s_run (w_none rfl) rfl (d_ld rfl H rfl ta5 rfl) ?_
  refine s_eff (e_bsl (xs := [.tmp 39]) (vals := [.int .u8 _]) (vs := [.int .u8 _]) (w_none rfl) rfl rfl rfl rfl rfl rfl tu29 ts5 ty5 rfl rfl rfl H ?_)
  clear H; intro g11_3 W H
  refine s_eff (e_call (w_none rfl) rfl rfl Tryd.func37 rfl rfl rfl (behind _ (H.bs hb0) (Bs.mk (l := [255]) (rd_blk H.blk rfl) (by omega) (by omega)) (by simp; omega)) ?_)
  rintro _ W ⟨A1, c1, rfl, hc1, hd1, hn⟩
  replace H := H.new hn
  clear hn
  refine s_run (w_none rfl) rfl (as_s rfl rfl) ?_
  refine l_nil ?_
  refine k_seq ?_
  refine k_seq ?_
  refine k_region ?_
  refine s_run (w_none rfl) rfl (d_fa rfl rfl tf83_1) ?_
  refine s_run (w_none rfl) rfl (d_ld rfl H rfl ta3 rfl) ?_
  refine s_run (w_none rfl) rfl (mv_i rfl rfl) ?_
  refine l_nil ?_
  replace H := H.sub (L' := [_]) (.cons_cons _ (List.nil_sublist _))
  refine k_block ?_
  refine k_loop 44 [9, 10] (fun mm sl W => ∃ k : Nat, ∃ B : Option Addr, ∃ d : Nat, 8 - k = mm ∧ sl = [(44, .int .i64 (k : Int)), (9, .slice B (b.length + 1 + k) d)] ∧ (k ≤ 8) ∧ (b.length + 1 + k ≤ d ∧ d ≤ 9223372036854775807) ∧ St nT w W [Fact.row 5 1 (.slice B (b.length + 1 + k) d) (b.length + 1 + k) ((b ++ 255 :: Pk.le u k).map u8v)]) _ _ ⟨0, A1, c1, rfl, rfl, by omega, ⟨by simpa using hc1, hd1⟩, by simpa [Pk.le] using H⟩ ⟨rfl, sl_eq (by simp), trivial⟩ (fun mm sl ρv W hJ => ?_)
  clear H; obtain ⟨k, B, d, rfl, rfl, hk, hd, H⟩ := hJ
  refine k_one ?_
  refine k_seq ?_
  refine k_region ?_
  refine s_run (w_none rfl) rfl (d_lt rfl rfl rfl) ?_
  refine l_nil ?_
  refine k_seq ?_
  refine k_cond rfl (fun hc45 => ?_) (fun hc45 => ?_)
  · first | (replace hc45 := of_decide_eq_true hc45) | simp at hc45
    refine k_skip ?_
    refine k_seq ?_
    refine k_block ?_
    refine k_seq ?_
    refine k_region ?_
    refine s_run (w_none rfl) rfl (mv_i rfl rfl) ?_
    refine s_run (w_none rfl) rfl (as_i rfl rfl) ?_
    refine l_nil ?_
    refine k_region ?_
    refine s_run (w_none rfl) rfl (mv_s rfl rfl) ?_
    refine s_run (w_none rfl) rfl (mv_i rfl rfl) ?_
    refine s_run (w_none rfl) rfl (mv_i rfl rfl) ?_
    refine s_run (w_none rfl) rfl (d_mul rfl rfl rfl (by omega)) ?_
    refine s_run (w_none rfl) rfl (d_shr rfl rfl rfl (m := 8 * k) rfl (by show 8 * k ≤ 64; omega)) ?_
    refine s_run (w_none rfl) rfl (d_conv rfl rfl (by rw [tu81]; rfl) tu5 (u8_eq (shr_le u k))) ?_
    refine s_eff (e_bsl (xs := [.tmp 52]) (vals := [.int .u8 _]) (vs := [.int .u8 _]) (w_none rfl) rfl rfl rfl rfl rfl rfl tu29 ts5 ty5 rfl rfl rfl H ?_)
    clear H; intro g15_6 W H
    refine s_eff (e_app (w_none rfl) rfl rfl tu29 tx5 rfl rfl rfl H (rd_blk H.blk rfl) (rfl) (by omega) rfl ?_)
    clear H; intro A2 c2 W hc2 hd2 H
    replace H := H.drop
    refine s_run (w_none rfl) rfl (as_s rfl rfl) ?_
    refine l_nil ?_
    refine k_nil ?_
    refine b_end ?_
    refine k_region ?_
    refine s_run (w_none rfl) rfl (d_add rfl rfl rfl (by omega)) ?_
    refine s_run (w_none rfl) rfl (mv_i rfl rfl) ?_
    refine l_nil ?_
    refine k_nil ?_
    refine k_next ?_
    refine ⟨_, _, _, ?_, rfl, ?_, ?_, ⟨k + 1, A2, c2, rfl, rfl, by omega, ⟨by omega, hd2⟩, by rw [Pk.le_succ, ← List.cons_append, map_snoc]; exact H⟩⟩
    · omega
    · repeat (first | ((with_reducible refine Eqo.updl _ Eqo.ovr ?_); exact rfl) | ((with_reducible refine Eqo.updl _ (Eqo.ovr2 ?_ ?_) ?_); rotate_left; exact rfl; exact rfl) | ((with_reducible refine Eqo.upd ?_ ?_); rotate_left; exact rfl))
    · refine ⟨?_, ?_, trivial⟩
      · exact vi (by omega)
      · exact rfl
  · first | (replace hc45 := of_decide_eq_false hc45) | simp at hc45
    refine k_exit ?_
    refine x_then (x_then ?_)
    refine x_hit ?_
    refine k_seq ?_
    obtain rfl : k = 8 := by omega
    refine k_region ?_
    refine s_run (w_none rfl) rfl (mv_s rfl rfl) ?_
    refine s_run (w_none rfl) rfl (as_s rfl rfl) ?_
    refine l_nil ?_
    refine k_ret ?_
    repeat (first | refine r_then ?_ | refine r_blk ?_)
    exact q_ret (v := .slice _ _ _) rfl rfl ⟨_, rfl, H.newB (by rw [Pk.int_8 hu]; simp [Pk.len_le]) (by rw [Pk.int_8 hu]) hd.1 hd.2⟩

theorem packInt {S : Nat → Prop} {v : Value} {b : List UInt8} (n : Int) (w : World) (hG : Gat w 0 formsC) (hb : Bs w S v b) (hn : -9223372036854775808 ≤ n ∧ n ≤ 9223372036854775807) (hl : b.length ≤ 500000000000) :
    Calls Tryd.prog 16 [v, .int .i64 n].toArray w (Ret (NewB 5 w (b ++ Pk.int (Pk.toU n)))) := by
  rcases Nat.lt_or_ge (Pk.toU n) 253 with h | h
  · exact packInt1 n w hG hb hn hl h
  rcases Nat.lt_or_ge (Pk.toU n) 65536 with h2 | h2
  · exact packInt2 n w hG hb hl ⟨h, h2⟩
  rcases Nat.lt_or_ge (Pk.toU n) 4294967296 with h4 | h4
  · exact packInt4 n w hG hb hl ⟨h2, h4⟩
  · exact packInt8 n w hG hb hl h4

theorem packBlob {S S1 : Nat → Prop} {v u : Value} {b p : List UInt8} (w : World) (hG : Gat w 0 formsC) (hb : Bs w S v b) (hl : b.length ≤ 400000000000) (hp : Bs w S1 u p) (hl2 : p.length ≤ 400000000000) :
    Calls Tryd.prog 28 [v, u].toArray w (Ret (NewB 5 w (b ++ (Pk.int p.length ++ p)))) := by
  have hb0 := hb
  obtain ⟨A, c, rfl, _, _, hb⟩ := hb.op
  have hp0 := hp
  obtain ⟨B, d, rfl, _, _, hp⟩ := hp.op
  have hi := Pk.len_int p.length
  refine k_enter (l := [_, _]) Tryd.func28 rfl rfl ?_
  have H := St.start nT w
  refine k_seq ?_
  refine k_region ?_
  refine s_run (w_none rfl) rfl (as_s rfl rfl) ?_
  refine l_nil ?_
  refine k_seq ?_
  refine k_region ?_
  refine s_run (w_none rfl) rfl (mv_s rfl rfl) ?_
  refine s_run (w_none rfl) rfl (mv_s rfl rfl) ?_
  refine s_run (w_none rfl) rfl (d_len rfl rfl tu29) ?_
  refine s_eff (e_call (w_none rfl) rfl rfl Tryd.func16 rfl rfl rfl (packInt _ _ (H.gat hG) (H.bs hb0) (by omega) (by omega)) ?_)
  rw [Pk.toU_pos _ (by omega) (by omega), Int.toNat_natCast]
  rintro _ W ⟨A1, c1, rfl, hc1, hd1, hn⟩
  replace H := H.new hn
  clear hn
  refine s_run (w_none rfl) rfl (mv_s rfl rfl) ?_
  refine s_eff (e_app (w_none rfl) rfl rfl tu29 tx5 rfl rfl rfl H (H.rd hp) (all_u8L _) (by rw [List.length_append]; omega) rfl ?_)
  clear H; intro A2 c2 W hc2 hd2 H
  refine s_run (w_none rfl) rfl (as_s rfl rfl) ?_
  refine l_nil ?_
  refine k_ret ?_
  repeat (first | refine r_then ?_ | refine r_blk ?_)
  exact q_ret (v := .slice _ _ _) rfl rfl ⟨_, rfl, H.newB (by simp; omega) (by simp) hc2 hd2⟩

theorem packHash {S : Nat → Prop} {v : Value} {b h : List UInt8} (w : World) (hb : Bs w S v b) (hl : b.length ≤ 400000000000) (hh : h.length = 32) :
    Calls Tryd.prog 46 [v, .agg (h.map u8v).toArray].toArray w (Ret (NewB 5 w (b ++ h))) := by
  have hb0 := hb
  obtain ⟨A, c, rfl, _, _, hb⟩ := hb.op
  refine k_enter (l := [_, _]) Tryd.func46 rfl rfl ?_
  have H := St.start nT w
  refine k_seq ?_
  refine k_region ?_
  refine s_eff (e_box (w_none rfl) rfl rfl rfl rfl H ?_)
  clear H; intro g0_0 W H
  refine s_run (w_none rfl) rfl (as_s rfl rfl) ?_
  refine l_nil ?_
  refine k_seq ?_
  refine k_region ?_
  refine s_run (w_none rfl) rfl (mv_s rfl rfl) ?_
  refine s_run (w_none rfl) rfl (d_arrA rfl rfl tu23 ts5) ?_
  refine s_eff (e_call (w_none rfl) rfl rfl Tryd.func37 rfl rfl rfl (behind _ (H.bs hb0) (Bs.mk (l := h) (rd_blk H.blk (by simp; omega)) (by omega) (by omega)) (by omega)) ?_)
  rintro _ W ⟨A1, c1, rfl, hc1, hd1, hn⟩
  replace H := H.new hn
  clear hn
  refine s_run (w_none rfl) rfl (as_s rfl rfl) ?_
  refine l_nil ?_
  refine k_ret ?_
  repeat (first | refine r_then ?_ | refine r_blk ?_)
  exact q_ret (v := .slice _ _ _) rfl rfl ⟨_, rfl, H.newB rfl rfl hc1 hd1⟩

end Go.Proofs.YtobcihaameofhaaDoor
