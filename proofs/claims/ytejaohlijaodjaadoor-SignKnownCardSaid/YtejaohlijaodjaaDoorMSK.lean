/- Texts of this claim, laid together: VL, K35, F8. -/
import Derived.Test.YtejaohlijaodjaaDoorMV
import Derived.Laws.MakeOwn
import Derived.Laws.OwnMore
import Derived.Test.YtejaohlijaodjaaDoorMS
import Derived.Test.YtejaohlijaodjaaDoorMC
set_option linter.unusedVariables false
set_option linter.unusedSimpArgs false

namespace Go.Proofs.YtejaohlijaodjaaDoor
open Go Go.RowKit

section
variable {P : Program} {ops : Array Oper} {Q : Exit → Act → World → Prop} {o : Oper} {n : Nat} {ρ : Nat → Value} {ds : List Deferred} {W w0 : World} {K : Act → World → Prop} {T : Nat → Prop} {L : List Fact} {x y : Operand} {t e : TypeId} {d : Tmp}
theorem e_mks {m : Nat} {a : Int} {kl kc : IntKind} (hw : Region.wanted o (yielded ops (st n ρ ds).tmps) = true) (hd : o.dst = some d) (ho : o.op = .makeSlice t x y) (hx : ev n ρ x = .int kl a) (hy : ev n ρ y = .int kc a) (ha : a = (m : Int)) (hm : m ≤ 100000000000) (hu : P.underlying t = some (.slice e)) (hz : ((P.info? e).bind (·.zero)).map (·.cells) = some #[.int .u8 0]) (hi : (P.info? e).map (fun i => (i.zero.map (·.cells.size), i.size, i.bytes)) = some (some 1, 1, 1)) (H : St T w0 W L)
    (k : ∀ g W', St T w0 W' (Fact.blk g ((List.replicate m (0 : UInt8)).map u8v) e :: L) → K (st n (upd ρ d (.slice (some ⟨g, 0, none⟩) m m)) ds) W') : Step P ops Q o (st n ρ ds) W K := by
  subst ha
  cases hI : P.info? e with
  | none => rw [hI] at hz; cases hz
  | some i =>
    rw [hI] at hz hi
    cases hzz : i.zero with
    | none => simp [hzz] at hz
    | some z =>
      simp [hzz] at hz hi
      have hr := run_make (P := P) W t e i z hu hI hzz kl kc (m : Int) (m : Int) (by omega) (Int.le_refl _) (by rw [hi.2.2]; omega) (by omega)
      rw [hi.2.1, Nat.mul_one, Int.toNat_natCast, hz] at hr
      have hc : madeCells #[Value.int .u8 0] m = ((List.replicate m (0 : UInt8)).map u8v).toArray := by
        rw [List.map_replicate]
        apply Array.toList_inj.1
        rw [toList_madeCells_one]
        rfl
      rw [hc] at hr
      refine e_run hw hd (v := .slice (some ⟨W.heap.size, 0, none⟩) m m) (W' := W.alloc (.cells ((List.replicate m (0 : UInt8)).map u8v).toArray e)) ?_ (k _ _ (H.alloc _ e))
      unfold Runs execOp
      simp [ho, hx, hy, hr]
end
end Go.Proofs.YtejaohlijaodjaaDoor

namespace Go.Proofs.YtejaohlijaodjaaDoor
open Go Go.RowKit
attribute [local irreducible] wpList

namespace Sg
def ks : List Int := [-9223372036854775808, -1, 0, 1, 2, 31, 32, 33, 256, 9223372036854775807]
theorem ks_get {i : Nat} (h : i < 10) : (ks.map (Value.int .i64))[i * 1]? = some (.int .i64 (ks.getD i 0)) := by
  rw [Nat.mul_one, List.getElem?_map, List.getD_eq_getElem?_getD]
  have : i < ks.length := h
  rw [List.getElem?_eq_getElem this]; rfl
end Sg

set_option maxHeartbeats 4000000 in
theorem signKnown (w : World) (hG : Gat w 0 formsC) (hL : Old.Gl w) : Calls Tryd.prog 12 [].toArray w (Ret (Is w (.bool true))) := by
  refine k_enter (l := []) Tryd.func12 rfl rfl ?_
  have H := St.start nT w
  refine k_seq ?_
  refine k_region ?_
  refine s_run (w_none rfl) rfl (as_b rfl rfl) ?_
  refine l_nil ?_
  refine k_seq ?_
  refine k_region ?_
  refine s_eff (e_bsl (xs := [.const (.int .i64 (-9223372036854775808)), .const (.int .i64 (-1)), .const (.int .i64 0), .const (.int .i64 1), .const (.int .i64 2), .const (.int .i64 31), .const (.int .i64 32), .const (.int .i64 33), .const (.int .i64 256), .const (.int .i64 9223372036854775807)]) (vals := [.int .i64 _, .int .i64 _, .int .i64 _, .int .i64 _, .int .i64 _, .int .i64 _, .int .i64 _, .int .i64 _, .int .i64 _, .int .i64 _]) (vs := [.int .i64 _, .int .i64 _, .int .i64 _, .int .i64 _, .int .i64 _, .int .i64 _, .int .i64 _, .int .i64 _, .int .i64 _, .int .i64 _]) (w_none rfl) rfl rfl rfl rfl rfl rfl tu24 ts3 ty3 rfl rfl rfl H ?_)
  clear H; intro gn W H
  replace H : St nT w W [Fact.blk gn (Sg.ks.map (Value.int .i64)) 3] := H
  refine s_run (w_none rfl) rfl (as_s rfl rfl) ?_
  refine l_nil ?_
  refine k_seq ?_
  refine k_seq ?_
  refine k_region ?_
  refine s_run (w_none rfl) rfl (as_i rfl rfl) ?_
  refine l_nil ?_
  refine k_block ?_
  refine k_loop 6 [0, 2, 3, 4] (fun mm sl W => ∃ i : Nat, 10 - i = mm ∧ sl = [(2, .int .i64 (i : Int))] ∧ (i ≤ 10) ∧ St nT w W [Fact.blk gn (Sg.ks.map (Value.int .i64)) 3]) _ _ ⟨0, rfl, rfl, Nat.zero_le _, H⟩ ⟨rfl, trivial⟩ (fun mm sl ρv W hJ => ?_)
  clear H; obtain ⟨i, rfl, rfl, hi, H⟩ := hJ
  refine k_one ?_
  refine k_seq ?_
  refine k_seq ?_
  refine k_region ?_
  refine s_run (w_none rfl) rfl (mv_i rfl rfl) ?_
  refine s_run (w_none rfl) rfl (mv_s rfl rfl) ?_
  refine s_run (w_none rfl) rfl (d_len rfl rfl tu24) ?_
  refine s_run (w_none rfl) rfl (d_lt rfl rfl rfl) ?_
  refine l_nil ?_
  refine k_cond rfl (fun hc9 => ?_) (fun hc9 => ?_)
  · replace hc9 := of_decide_eq_true hc9
    have hi10 : i < 10 := by omega
    refine k_skip ?_
    refine k_seq ?_
    refine k_block ?_
    refine k_seq ?_
    refine k_region ?_
    refine s_run (w_none rfl) rfl (as_i rfl rfl) ?_
    refine l_nil ?_
    refine k_block ?_
    refine k_loop 12 [0, 3, 4] (fun mm sl W => ∃ j : Nat, 100 - j = mm ∧ sl = [(3, .int .i64 (j : Int))] ∧ (j ≤ 92) ∧ St nT w W [Fact.blk gn (Sg.ks.map (Value.int .i64)) 3]) _ _ ⟨0, rfl, rfl, Nat.zero_le _, H⟩ ⟨rfl, trivial⟩ (fun mm sl ρv W hJ => ?_)
    clear H; obtain ⟨j, rfl, rfl, hj, H⟩ := hJ
    refine k_one ?_
    refine k_seq ?_
    refine k_seq ?_
    refine k_region ?_
    refine s_run (w_none rfl) rfl (mv_i rfl rfl) ?_
    refine s_run (w_none rfl) rfl (d_lt rfl rfl rfl) ?_
    refine l_nil ?_
    refine k_cond rfl (fun hc13 => ?_) (fun hc13 => ?_)
    · replace hc13 := of_decide_eq_true hc13
      have hj70 : j < 70 := by omega
      have hsl : (List.replicate j (0 : UInt8)).length ≤ 4096 := by rw [List.length_replicate]; omega
      refine k_skip ?_
      refine k_seq ?_
      refine k_block ?_
      refine k_seq ?_
      refine k_region ?_
      refine s_run (w_none rfl) rfl (mv_i rfl rfl) ?_
      refine s_eff (e_mks (w_none rfl) rfl rfl rfl rfl (m := j) rfl (by omega) tu23 tz5 tx5 H ?_)
      clear H; intro g4 W H
      refine s_run (w_none rfl) rfl (as_s rfl rfl) ?_
      refine l_nil ?_
      refine k_seq ?_
      refine k_draw [(0, true), (1, true), (2, true), (3, true), (4, true), (5, true), (6, true), (7, true), (8, true), (9, false), (10, true), (11, true), (12, true), (13, true), (14, true), (15, true), (16, true), (17, true), (18, true), (19, true), (20, true), (21, true), (22, true), (23, true), (24, true), (25, true), (26, true), (27, true), (28, true), (29, true), (30, false), (31, true), (32, true), (33, true), (34, true), (35, true), (36, true), (37, true), (38, true), (39, true), (40, true), (41, true), (42, false), (43, true), (44, true)] _ (by kernel_rfl) (by kernel_rfl) H (.refl _) ?_
      clear H; intro W H
      refine c_run rfl (w_none rfl) rfl (fun W H => mv_s rfl rfl) ?_
      refine c_run rfl (w_none rfl) rfl (fun W H => mv_s rfl rfl) ?_
      refine c_run rfl (w_none rfl) rfl (fun W H => mv_i rfl rfl) ?_
      refine c_run rfl (w_none rfl) rfl (fun W H => d_iaS rfl (rd_blk (m := 10) (H.blk (g := gn)) rfl) rfl rfl (q := i) rfl hi10 tu24 ts3) ?_
      refine c_run rfl (w_none rfl) rfl (fun W H => d_ldR0 rfl (rd_blk (m := 10) (H.blk (g := gn)) rfl) rfl ta3 (Sg.ks_get hi10)) ?_
      refine c_run rfl (w_none rfl) rfl (fun W H => mv_i rfl rfl) ?_
      refine c_run rfl (w_none rfl) rfl (fun W H => d_conv rfl rfl (by rw [tu3]; rfl) tu5 (u8_eq (n := i) rfl)) ?_
      refine c_run rfl (w_none rfl) rfl (fun W H => d_build (vs := (UInt8.ofNat i :: List.replicate 31 0).map u8v) rfl (by kernel_rfl)) ?_
      refine c_run rfl (w_none rfl) rfl (fun W H => d_build (vs := (List.replicate 16 (0 : UInt8)).map u8v) rfl (by kernel_rfl)) ?_
      refine c_eff rfl (e_call (w_none rfl) rfl rfl Tryd.func10 rfl rfl rfl (signAnswersB (h := (UInt8.ofNat i :: List.replicate 31 0)) (t := (List.replicate 16 (0 : UInt8))) _ (H.gat hG) (H.gl hL) (Bs.mk (S := (· = g4)) (l := List.replicate j 0) (rd_blk (H.blk (g := g4)) (by simp)) (Nat.le_refl _) (by omega)) rfl rfl hsl) ?_)
      rintro _ W ⟨rfl, hb⟩
      replace H := H.below hb
      clear hb
      refine ⟨H.sub (by repeat (first | exact List.Sublist.refl _ | exact List.nil_sublist _ | refine List.Sublist.cons_cons _ ?_ | refine List.Sublist.cons _ ?_)), ?_⟩
      refine c_run rfl (w_none rfl) rfl (fun W H => d_not rfl rfl) ?_
      refine c_run rfl (w_none rfl) rfl (fun W H => mv_bx (c := false) rfl rfl (rfl)) ?_
      refine c_run rfl (w_g rfl rfl rfl rfl) rfl (fun W H => mv_s rfl rfl) ?_
      refine c_run rfl (w_g rfl rfl rfl rfl) rfl (fun W H => mv_s rfl rfl) ?_
      refine c_run rfl (w_g rfl rfl rfl rfl) rfl (fun W H => mv_i rfl rfl) ?_
      refine c_run rfl (w_g rfl rfl rfl rfl) rfl (fun W H => d_iaS rfl (rd_blk (m := 10) (H.blk (g := gn)) rfl) rfl rfl (q := i) rfl hi10 tu24 ts3) ?_
      refine c_run rfl (w_g rfl rfl rfl rfl) rfl (fun W H => d_ldR0 rfl (rd_blk (m := 10) (H.blk (g := gn)) rfl) rfl ta3 (Sg.ks_get hi10)) ?_
      refine c_run rfl (w_g rfl rfl rfl rfl) rfl (fun W H => mv_s rfl rfl) ?_
      refine c_run rfl (w_g rfl rfl rfl rfl) rfl (fun W H => mv_i rfl rfl) ?_
      refine c_run rfl (w_g rfl rfl rfl rfl) rfl (fun W H => d_add rfl rfl rfl (by omega)) ?_
      refine c_run rfl (w_g rfl rfl rfl rfl) rfl (fun W H => mv_s rfl rfl) ?_
      refine c_run rfl (w_g rfl rfl rfl rfl) rfl (fun W H => d_len rfl rfl tu24) ?_
      refine c_run rfl (w_g rfl rfl rfl rfl) rfl (fun W H => d_rem rfl rfl rfl ⟨by omega, by decide⟩) ?_
      refine c_run rfl (w_g rfl rfl rfl rfl) rfl (fun W H => d_iaS rfl (rd_blk (m := 10) (H.blk (g := gn)) rfl) rfl rfl (q := (i + 1) % 10) (by omega) (show (i + 1) % 10 < 10 by omega) tu24 ts3) ?_
      refine c_run rfl (w_g rfl rfl rfl rfl) rfl (fun W H => d_ldR0 rfl (rd_blk (m := 10) (H.blk (g := gn)) rfl) rfl ta3 (Sg.ks_get (show (i + 1) % 10 < 10 by omega))) ?_
      refine c_run rfl (w_g rfl rfl rfl rfl) rfl (fun W H => mv_i rfl rfl) ?_
      refine c_run rfl (w_g rfl rfl rfl rfl) rfl (fun W H => d_conv rfl rfl (by rw [tu3]; rfl) tu5 (u8_eq (n := i) rfl)) ?_
      refine c_run rfl (w_g rfl rfl rfl rfl) rfl (fun W H => d_build (vs := (UInt8.ofNat i :: List.replicate 31 0).map u8v) rfl (by kernel_rfl)) ?_
      refine c_run rfl (w_g rfl rfl rfl rfl) rfl (fun W H => d_build (vs := (List.replicate 32 (0 : UInt8)).map u8v) rfl (by kernel_rfl)) ?_
      refine c_run rfl (w_g rfl rfl rfl rfl) rfl (fun W H => d_build (vs := (List.replicate 15 (0 : UInt8) ++ [1]).map u8v) rfl (by kernel_rfl)) ?_
      refine c_eff rfl (e_call (w_g rfl rfl rfl rfl) rfl rfl Tryd.func11 rfl rfl rfl (signOwnB (h := (UInt8.ofNat i :: List.replicate 31 0)) (q := (List.replicate 32 (0 : UInt8))) (t := (List.replicate 15 (0 : UInt8) ++ [1])) _ (H.gat hG) (H.gl hL) (Bs.mk (S := (· = g4)) (l := List.replicate j 0) (rd_blk (H.blk (g := g4)) (by simp)) (Nat.le_refl _) (by omega)) rfl rfl rfl hsl) ?_)
      rintro _ W ⟨rfl, hb⟩
      replace H := H.below hb
      clear hb
      refine ⟨H.sub (by repeat (first | exact List.Sublist.refl _ | exact List.nil_sublist _ | refine List.Sublist.cons_cons _ ?_ | refine List.Sublist.cons _ ?_)), ?_⟩
      refine c_run rfl (w_g rfl rfl rfl rfl) rfl (fun W H => d_not rfl rfl) ?_
      refine c_run rfl (w_none rfl) rfl (fun W H => d_pickF rfl rfl rfl) ?_
      refine c_run rfl (w_none rfl) rfl (fun W H => mv_bx (c := false) rfl rfl (rfl)) ?_
      refine c_run rfl (w_g rfl rfl rfl rfl) rfl (fun W H => mv_s rfl rfl) ?_
      refine c_run rfl (w_g rfl rfl rfl rfl) rfl (fun W H => mv_s rfl rfl) ?_
      refine c_run rfl (w_g rfl rfl rfl rfl) rfl (fun W H => mv_i rfl rfl) ?_
      refine c_run rfl (w_g rfl rfl rfl rfl) rfl (fun W H => d_iaS rfl (rd_blk (m := 10) (H.blk (g := gn)) rfl) rfl rfl (q := i) rfl hi10 tu24 ts3) ?_
      refine c_run rfl (w_g rfl rfl rfl rfl) rfl (fun W H => d_ldR0 rfl (rd_blk (m := 10) (H.blk (g := gn)) rfl) rfl ta3 (Sg.ks_get hi10)) ?_
      refine c_run rfl (w_g rfl rfl rfl rfl) rfl (fun W H => d_build (vs := (List.replicate 32 (0 : UInt8)).map u8v) rfl (by kernel_rfl)) ?_
      refine c_run rfl (w_g rfl rfl rfl rfl) rfl (fun W H => d_build (vs := (List.replicate 32 (0 : UInt8)).map u8v) rfl (by kernel_rfl)) ?_
      refine c_run rfl (w_g rfl rfl rfl rfl) rfl (fun W H => d_build (vs := (List.replicate 16 (0 : UInt8)).map u8v) rfl (by kernel_rfl)) ?_
      refine c_eff rfl (e_call (w_g rfl rfl rfl rfl) rfl rfl Tryd.func11 rfl rfl rfl (signOwnB (h := (List.replicate 32 (0 : UInt8))) (q := (List.replicate 32 (0 : UInt8))) (t := (List.replicate 16 (0 : UInt8))) _ (H.gat hG) (H.gl hL) (Bs.mk (S := (· = g4)) (l := List.replicate j 0) (rd_blk (H.blk (g := g4)) (by simp)) (Nat.le_refl _) (by omega)) rfl rfl rfl hsl) ?_)
      rintro _ W ⟨rfl, hb⟩
      replace H := H.below hb
      clear hb
      refine ⟨H.sub (by repeat (first | exact List.Sublist.refl _ | exact List.nil_sublist _ | refine List.Sublist.cons_cons _ ?_ | refine List.Sublist.cons _ ?_)), ?_⟩
      refine c_run rfl (w_g rfl rfl rfl rfl) rfl (fun W H => d_not rfl rfl) ?_
      refine c_run rfl (w_none rfl) rfl (fun W H => d_pickF rfl rfl rfl) ?_
      refine c_nil ?_
      refine k_condF rfl rfl ?_
      refine k_skip ?_
      refine k_nil ?_
      refine b_end ?_
      refine k_region ?_
      refine s_run (w_none rfl) rfl (mv_i rfl rfl) ?_
      refine s_run (w_none rfl) rfl (d_add rfl rfl rfl (by omega)) ?_
      refine s_run (w_none rfl) rfl (as_i rfl rfl) ?_
      refine l_nil ?_
      refine k_nil ?_
      refine k_next ?_
      refine ⟨_, _, _, ?_, rfl, ?_, ?_, ⟨j + 23, rfl, rfl, by omega, H.sub (by repeat (first | exact List.Sublist.refl _ | exact List.nil_sublist _ | refine List.Sublist.cons_cons _ ?_ | refine List.Sublist.cons _ ?_))⟩⟩
      · omega
      · repeat (first | ((with_reducible refine Eqo.updl _ Eqo.ovr ?_); exact rfl) | ((with_reducible refine Eqo.updl _ (Eqo.ovr2 ?_ ?_) ?_); rotate_left; exact rfl; exact rfl) | ((with_reducible refine Eqo.upd ?_ ?_); rotate_left; exact rfl))
      · refine ⟨?_, trivial⟩
        · exact vi (by omega)
    · skip
      refine k_exit ?_
      refine x_then (x_then ?_)
      refine x_hit ?_
      refine k_nil ?_
      refine b_end ?_
      refine k_region ?_
      refine s_run (w_none rfl) rfl (mv_i rfl rfl) ?_
      refine s_run (w_none rfl) rfl (d_add rfl rfl rfl (by omega)) ?_
      refine s_run (w_none rfl) rfl (as_i rfl rfl) ?_
      refine l_nil ?_
      refine k_nil ?_
      refine k_next ?_
      refine ⟨_, _, _, ?_, rfl, ?_, ?_, ⟨i + 1, rfl, rfl, by omega, H.sub (by repeat (first | exact List.Sublist.refl _ | exact List.nil_sublist _ | refine List.Sublist.cons_cons _ ?_ | refine List.Sublist.cons _ ?_))⟩⟩
      · omega
      · repeat (first | ((with_reducible refine Eqo.updl _ Eqo.ovr ?_); exact rfl) | ((with_reducible refine Eqo.updl _ (Eqo.ovr2 ?_ ?_) ?_); rotate_left; exact rfl; exact rfl) | ((with_reducible refine Eqo.upd ?_ ?_); rotate_left; exact rfl))
      · refine ⟨?_, trivial⟩
        · exact vi (by omega)
  · skip
    refine k_exit ?_
    refine x_then (x_then ?_)
    refine x_hit ?_
    refine k_seq ?_
    refine k_region ?_
    refine s_eff (e_call (w_none rfl) rfl rfl Tryd.func50 rfl rfl rfl (works05 _ (H.gat hG) (H.gl hL)) ?_)
    rintro _ W ⟨rfl, hb⟩
    replace H := H.below hb
    clear hb
    refine s_run (w_none rfl) rfl (as_b rfl rfl) ?_
    refine l_nil ?_
    refine k_ret ?_
    repeat (first | refine r_then ?_ | refine r_blk ?_)
    exact q_ret (v := .bool _) rfl rfl ⟨_, rfl, rfl, H.under⟩
end Go.Proofs.YtejaohlijaodjaaDoor

namespace Go.Proofs.YtejaohlijaodjaaDoor
open Go Go.RowKit

theorem signKnown_any (w : World) (hg : Gat w 0 formsC ∧ Old.Gl w) :
    Calls Tryd.prog 12 #[] w (fun e w' => e = .returned (.bool true) ∧ Below w.heap.size w w') := of_is5 (signKnown w hg.1 hg.2)
end Go.Proofs.YtejaohlijaodjaaDoor
