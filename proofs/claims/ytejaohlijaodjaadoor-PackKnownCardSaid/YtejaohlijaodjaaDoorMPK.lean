/- Texts of this claim, laid together: K36, F9. -/
import Derived.Test.YtejaohlijaodjaaDoorMC
import Derived.Test.YtejaohlijaodjaaDoorMV
set_option linter.unusedVariables false
set_option linter.unusedSimpArgs false

namespace Go.Proofs.YtejaohlijaodjaaDoor
open Go Go.RowKit
attribute [local irreducible] wpList

namespace Pn
def ks : List Int := [-9223372036854775808, -1, 0, 1, 2, 252, 253, 254, 255, 256, 65535, 65536, 4294967295, 4294967296, 4611686018427387909, 9223372036854775807]
theorem ks_get {i : Nat} (h : i < 16) : (ks.map (Value.int .i64))[i * 1]? = some (.int .i64 (ks.getD i 0)) := by
  rw [Nat.mul_one, List.getElem?_map, List.getD_eq_getElem?_getD]
  have : i < ks.length := h
  rw [List.getElem?_eq_getElem this]; rfl
theorem ks_ok {i : Nat} (h : i < 16) : -9223372036854775808 ≤ ks.getD i 0 ∧ ks.getD i 0 ≤ 9223372036854775807 := by
  have : ∀ i : Fin 16, -9223372036854775808 ≤ ks.getD i.1 0 ∧ ks.getD i.1 0 ≤ 9223372036854775807 := by decide
  exact this ⟨i, h⟩
abbrev hi (i : Nat) : List UInt8 := UInt8.ofNat i :: (List.replicate 30 0 ++ [9])
abbrev t3 : List UInt8 := List.replicate 15 0 ++ [3]
abbrev TC (y : DThing × Option Addr × Nat) : List Value := thingC y.1.kind y.1.n y.2.1 y.1.b.length y.2.2 y.1.h y.1.t
theorem rl_lit {W : World} {gl t : Nat} {ts : List (DThing × Option Addr × Nat)} (h : W.heap[gl]? = some (.cells (ts.map TC).flatten.toArray t (0, 0))) (hok : ∀ y ∈ ts, Th.Ok y.1 ∧ Bs W (0 ≤ ·) (.slice y.2.1 y.1.b.length y.2.2) y.1.b) (hm : ts.length ≤ 9223372036854775807) :
    RL 51 RThing W (fun g => g < W.heap.size) [.slice (some ⟨gl, 0, none⟩) ts.length ts.length] (ts.map (·.1)) := by
  have hall : ∀ c ∈ ts.map TC, c.length = 51 := fun c hc => by
    obtain ⟨y, hy, rfl⟩ := List.mem_map.1 hc
    exact len_thing (hok y hy).1.2.2.1 (hok y hy).1.2.2.2
  refine ⟨some ⟨gl, 0, none⟩, ts.length, (ts.map TC).flatten, by rw [List.length_map], by rw [List.length_map]; exact Nat.le_refl _, hm, ?_, fun i x hx => ?_⟩
  · rw [List.length_map]
    exact (rd_blk (m := ts.length) h (by rw [len_flat _ hall, List.length_map])).mono (fun g hg _ => hg)
  · rw [List.getElem?_map] at hx
    obtain ⟨y, hy, rfl⟩ := Option.map_eq_some_iff.1 hx
    have hk := hok y (List.mem_of_getElem? hy)
    rw [sub_flat _ i (TC y) hall (by rw [List.getElem?_map, hy]; rfl)]
    exact ⟨[_], [_], [_], _, _, rfl, ⟨rfl, hk.1.1⟩, ⟨rfl, hk.1.2.1⟩, ⟨_, rfl, hk.2.mono (fun g hg _ => hg)⟩, ⟨rfl, hk.1.2.2.1⟩, ⟨rfl, hk.1.2.2.2⟩⟩
theorem mkOk {k n : Int} {b h t : List UInt8} (hk : -9223372036854775808 ≤ k ∧ k ≤ 9223372036854775807) (hn : -9223372036854775808 ≤ n ∧ n ≤ 9223372036854775807) (hh : h.length = 32) (ht : t.length = 16) : Th.Ok ⟨k, n, b, h, t⟩ := ⟨hk, hn, hh, ht⟩
theorem nilB {W : World} : Bs W (0 ≤ ·) (.slice none ([] : List UInt8).length 0) [] := Bs.nil
end Pn

set_option maxHeartbeats 4000000 in
theorem packKnown (w : World) (hG : Gat w 0 formsC) : Calls Tryd.prog 9 [].toArray w (Ret (Is w (.bool true))) := by
  refine k_enter (l := []) Tryd.func9 rfl rfl ?_
  have H := St.start nT w
  refine k_seq ?_
  refine k_region ?_
  refine s_run (w_none rfl) rfl (as_b rfl rfl) ?_
  refine l_nil ?_
  refine k_seq ?_
  refine k_region ?_
  refine s_eff (e_bsl (xs := [.const (.int .i64 (-9223372036854775808)), .const (.int .i64 (-1)), .const (.int .i64 0), .const (.int .i64 1), .const (.int .i64 2), .const (.int .i64 252), .const (.int .i64 253), .const (.int .i64 254), .const (.int .i64 255), .const (.int .i64 256), .const (.int .i64 65535), .const (.int .i64 65536), .const (.int .i64 4294967295), .const (.int .i64 4294967296), .const (.int .i64 4611686018427387909), .const (.int .i64 9223372036854775807)]) (vals := [.int .i64 _, .int .i64 _, .int .i64 _, .int .i64 _, .int .i64 _, .int .i64 _, .int .i64 _, .int .i64 _, .int .i64 _, .int .i64 _, .int .i64 _, .int .i64 _, .int .i64 _, .int .i64 _, .int .i64 _, .int .i64 _]) (vs := [.int .i64 _, .int .i64 _, .int .i64 _, .int .i64 _, .int .i64 _, .int .i64 _, .int .i64 _, .int .i64 _, .int .i64 _, .int .i64 _, .int .i64 _, .int .i64 _, .int .i64 _, .int .i64 _, .int .i64 _, .int .i64 _]) (w_none rfl) rfl rfl rfl rfl rfl rfl tu24 ts3 ty3 rfl rfl rfl H ?_)
  clear H; intro gn W H
  replace H : St nT w W [Fact.blk gn (Pn.ks.map (Value.int .i64)) 3] := H
  refine s_run (w_none rfl) rfl (as_s rfl rfl) ?_
  refine l_nil ?_
  refine k_seq ?_
  refine k_seq ?_
  refine k_region ?_
  refine s_run (w_none rfl) rfl (as_i rfl rfl) ?_
  refine l_nil ?_
  refine k_block ?_
  refine k_loop 8 [0, 2, 3, 4, 5] (fun mm sl W => ∃ i : Nat, 16 - i = mm ∧ sl = [(2, .int .i64 (i : Int))] ∧ (i ≤ 16) ∧ St nT w W [Fact.blk gn (Pn.ks.map (Value.int .i64)) 3]) _ _ ⟨0, rfl, rfl, Nat.zero_le _, H⟩ ⟨rfl, trivial⟩ (fun mm sl ρv W hJ => ?_)
  clear H; obtain ⟨i, rfl, rfl, hi, H⟩ := hJ
  refine k_one ?_
  refine k_seq ?_
  refine k_seq ?_
  refine k_region ?_
  refine s_run (w_none rfl) rfl (mv_i rfl rfl) ?_
  refine s_run (w_none rfl) rfl (mv_s rfl rfl) ?_
  refine s_run (w_none rfl) rfl (d_len rfl rfl tu24) ?_
  refine s_run (w_none rfl) rfl (d_lt rfl rfl rfl) ?_
  refine l_nil ?_
  refine k_cond rfl (fun hc11 => ?_) (fun hc11 => ?_)
  · replace hc11 := of_decide_eq_true hc11
    have hi16 : i < 16 := by omega
    have hks := Pn.ks_ok hi16
    have ok0 : Th.Ok (⟨0, (Pn.ks.getD i 0), (rowL (i * 18)), Pn.hi i, Pn.t3⟩ : DThing) := Pn.mkOk ⟨by decide, by decide⟩ hks rfl rfl
    have ok4 : Th.Ok (⟨4, (Pn.ks.getD i 0), [], (List.replicate 32 (0 : UInt8)), (List.replicate 16 (0 : UInt8))⟩ : DThing) := Pn.mkOk ⟨by decide, by decide⟩ hks rfl rfl
    have ok1 : Th.Ok (⟨1, 0, (rowL (i * 18)), (List.replicate 32 (0 : UInt8)), (List.replicate 16 (0 : UInt8))⟩ : DThing) := Pn.mkOk ⟨by decide, by decide⟩ ⟨by decide, by decide⟩ rfl rfl
    have ok2 : Th.Ok (⟨2, 0, [], Pn.hi i, (List.replicate 16 (0 : UInt8))⟩ : DThing) := Pn.mkOk ⟨by decide, by decide⟩ ⟨by decide, by decide⟩ rfl rfl
    have ok3 : Th.Ok (⟨3, 0, [], (List.replicate 32 (0 : UInt8)), (List.replicate 16 (0 : UInt8))⟩ : DThing) := Pn.mkOk ⟨by decide, by decide⟩ ⟨by decide, by decide⟩ rfl rfl
    refine k_skip ?_
    refine k_seq ?_
    refine k_block ?_
    refine k_seq ?_
    refine k_cut 14 [3] (fun sl W => ∃ g3 : Nat, ∃ A5 : Option Addr, ∃ c5 : Nat, sl = [(3, .pointer (some ⟨g3, 0, none⟩))] ∧ ((rowL (i * 18)).length ≤ c5) ∧ (c5 ≤ 9223372036854775807) ∧ St nT w W [Fact.blk g3 (thingC 0 (Pn.ks.getD i 0) A5 (rowL (i * 18)).length c5 (Pn.hi i) Pn.t3) 40, Fact.row 5 1 (.slice A5 (rowL (i * 18)).length c5) (rowL (i * 18)).length ((rowL (i * 18)).map u8v), Fact.blk gn (Pn.ks.map (Value.int .i64)) 3]) ?_ (fun sl ρv W hJ => ?_)
    · skip
      refine k_drawT (.rd 0 (.rd 1 (.rd 2 (.rd 3 (.rd 4 (.rd 5 (.rd 7 (.rd 8 (.rd 9 (.rd 10 (.many 3 [6, 12] fun j => (bif Nat.beq j 6 then (.rd 11 (.ef 12 (.ef 13 .nil))) else (.ef 6 (.rd 11 (.ef 13 .nil))))))))))))))) [Fact.blk gn (Pn.ks.map (Value.int .i64)) 3] (by kernel_rfl) (by kernel_rfl) H (.refl _) ?_
      clear H; intro W H
      refine t_run rfl (w_none rfl) rfl (fun W H => mv_s rfl rfl) ?_
      refine t_run rfl (w_none rfl) rfl (fun W H => mv_i rfl rfl) ?_
      refine t_run rfl (w_none rfl) rfl (fun W H => d_iaS rfl (rd_blk (m := 16) (H.blk (g := gn)) rfl) rfl rfl (q := i) rfl hi16 tu24 ts3) ?_
      refine t_run rfl (w_none rfl) rfl (fun W H => d_ldR0 rfl (rd_blk (m := 16) (H.blk (g := gn)) rfl) rfl ta3 (Pn.ks_get hi16)) ?_
      refine t_run rfl (w_none rfl) rfl (fun W H => mv_i rfl rfl) ?_
      refine t_run rfl (w_none rfl) rfl (fun W H => d_mul rfl rfl rfl (by omega)) ?_
      refine t_run rfl (w_none rfl) rfl (fun W H => mv_i rfl rfl) ?_
      refine t_run rfl (w_none rfl) rfl (fun W H => d_conv rfl rfl (by rw [tu3]; rfl) tu5 (u8_eq (n := i) rfl)) ?_
      refine t_run rfl (w_none rfl) rfl (fun W H => d_build (vs := (Pn.hi i).map u8v) rfl (by kernel_rfl)) ?_
      refine t_run rfl (w_none rfl) rfl (fun W H => d_build (vs := Pn.t3.map u8v) rfl (by kernel_rfl)) ?_
      refine t_each ?_ ?_
      · skip
        refine t_eff rfl (e_call (w_none rfl) rfl rfl Tryd.func49 rfl rfl rfl (row_any (i * 18) _ _ (by omega) (by omega)) ?_)
        rintro _ W ⟨A5, c5, rfl, hc5, hd5, hn⟩
        replace H := H.new hn
        clear hn
        refine ⟨_, fun _ h => h, H.sub (by repeat (first | exact List.Sublist.refl _ | exact List.nil_sublist _ | refine List.Sublist.cons_cons _ ?_ | refine List.Sublist.cons _ ?_)), ?_⟩
        refine t_run rfl (w_none rfl) rfl (fun W H => d_build (vs := thingC 0 (Pn.ks.getD i 0) A5 (rowL (i * 18)).length c5 (Pn.hi i) Pn.t3) rfl (by kernel_rfl)) ?_
        refine t_eff rfl (e_alloc (w_none rfl) rfl rfl (thingC 0 0 none 0 0 (List.replicate 32 (0 : UInt8)) (List.replicate 16 (0 : UInt8))) (by kernel_rfl) H ?_)
        clear H; intro g3 W H
        refine ⟨_, fun _ h => h, H.sub (by repeat (first | exact List.Sublist.refl _ | exact List.nil_sublist _ | refine List.Sublist.cons_cons _ ?_ | refine List.Sublist.cons _ ?_)), ?_⟩
        refine t_eff rfl (e_stoK (thingC 0 (Pn.ks.getD i 0) A5 (rowL (i * 18)).length c5 (Pn.hi i) Pn.t3) (w_none rfl) rfl rfl rfl rfl rfl ts40 (len_thing rfl rfl) thing_one H (by rw [len_thing rfl rfl]; decide) (spl_all ((len_thing rfl rfl).trans (len_thing rfl rfl).symm)) ?_)
        clear H; intro W H
        refine ⟨_, fun _ h => h, H.sub (by repeat (first | exact List.Sublist.refl _ | exact List.nil_sublist _ | refine List.Sublist.cons_cons _ ?_ | refine List.Sublist.cons _ ?_)), ?_⟩
        refine t_nil ?_
        refine k_nil ?_
        refine n_then ?_
        refine ⟨_, _, rfl, ?_, ?_, ⟨g3, A5, c5, rfl, hc5, hd5, H.sub (by repeat (first | exact List.Sublist.refl _ | exact List.nil_sublist _ | refine List.Sublist.cons_cons _ ?_ | refine List.Sublist.cons _ ?_))⟩⟩
        · repeat (first | (with_reducible exact Eqo.refl) | ((with_reducible refine Eqo.updl _ (Eqo.ovr2 ?_ ?_) ?_); rotate_left; exact rfl; exact rfl) | ((with_reducible refine Eqo.upd ?_ ?_); rotate_left; exact rfl))
        · refine ⟨?_, trivial⟩
          · exact rfl
      refine t_each ?_ ?_
      · skip
        refine t_eff rfl (e_alloc (w_none rfl) rfl rfl (thingC 0 0 none 0 0 (List.replicate 32 (0 : UInt8)) (List.replicate 16 (0 : UInt8))) (by kernel_rfl) H ?_)
        clear H; intro g3 W H
        refine ⟨_, fun _ h => h, H.sub (by repeat (first | exact List.Sublist.refl _ | exact List.nil_sublist _ | refine List.Sublist.cons_cons _ ?_ | refine List.Sublist.cons _ ?_)), ?_⟩
        refine t_eff rfl (e_call (w_none rfl) rfl rfl Tryd.func49 rfl rfl rfl (row_any (i * 18) _ _ (by omega) (by omega)) ?_)
        rintro _ W ⟨A5, c5, rfl, hc5, hd5, hn⟩
        replace H := H.new hn
        clear hn
        refine ⟨_, fun _ h => h, H.sub (by repeat (first | exact List.Sublist.refl _ | exact List.nil_sublist _ | refine List.Sublist.cons_cons _ ?_ | refine List.Sublist.cons _ ?_)), ?_⟩
        refine t_run rfl (w_none rfl) rfl (fun W H => d_build (vs := thingC 0 (Pn.ks.getD i 0) A5 (rowL (i * 18)).length c5 (Pn.hi i) Pn.t3) rfl (by kernel_rfl)) ?_
        refine t_eff rfl (e_stoK (thingC 0 (Pn.ks.getD i 0) A5 (rowL (i * 18)).length c5 (Pn.hi i) Pn.t3) (w_none rfl) rfl rfl rfl rfl rfl ts40 (len_thing rfl rfl) thing_one H (by rw [len_thing rfl rfl]; decide) (spl_all ((len_thing rfl rfl).trans (len_thing rfl rfl).symm)) ?_)
        clear H; intro W H
        refine ⟨_, fun _ h => h, H.sub (by repeat (first | exact List.Sublist.refl _ | exact List.nil_sublist _ | refine List.Sublist.cons_cons _ ?_ | refine List.Sublist.cons _ ?_)), ?_⟩
        refine t_nil ?_
        refine k_nil ?_
        refine n_then ?_
        refine ⟨_, _, rfl, ?_, ?_, ⟨g3, A5, c5, rfl, hc5, hd5, H.perm (.swap _ _ _)⟩⟩
        · repeat (first | (with_reducible exact Eqo.refl) | ((with_reducible refine Eqo.updl _ (Eqo.ovr2 ?_ ?_) ?_); rotate_left; exact rfl; exact rfl) | ((with_reducible refine Eqo.upd ?_ ?_); rotate_left; exact rfl))
        · refine ⟨?_, trivial⟩
          · exact rfl
      exact t_none
    clear H; obtain ⟨g3, A5, c5, rfl, hc5, hd5, H⟩ := hJ
    refine k_seq ?_
    refine k_seq ?_
    refine k_draw [(0, true), (1, true), (3, true), (2, false), (4, false), (5, true), (6, true), (7, true), (8, true), (9, true), (10, true), (11, false), (12, true), (13, true)] _ (by kernel_rfl) (by kernel_rfl) H (.refl _) ?_
    clear H; intro W H
    refine c_run rfl (w_none rfl) rfl (fun W H => mv_i rfl rfl) ?_
    refine c_run rfl (w_none rfl) rfl (fun W H => d_rem rfl rfl rfl ⟨by omega, by decide⟩) ?_
    refine c_run rfl (w_none rfl) rfl (fun W H => d_ldXM (g := g3) (off := 0) rfl H (sub_all (len_thing rfl rfl)) (len_thing rfl rfl) rfl rfl rfl ta40 ts40) ?_
    refine c_eff rfl (e_call (w_none rfl) rfl rfl Tryd.func49 rfl rfl rfl (row_any (i % 3) _ _ (by omega) (by omega)) ?_)
    rintro _ W ⟨A6, c6, rfl, hc6, hd6, hn⟩
    replace H := H.new hn
    clear hn
    refine ⟨H.sub (by repeat (first | exact List.Sublist.refl _ | exact List.nil_sublist _ | refine List.Sublist.cons_cons _ ?_ | refine List.Sublist.cons _ ?_)), ?_⟩
    refine c_eff rfl (e_call (w_none rfl) rfl rfl Tryd.func4 rfl rfl rfl (packLaysB (b := rowL (i % 3)) (p := (rowL (i * 18))) _ (H.gat hG) (H.rowbs (A := A6) rfl) (H.rowbs (A := A5) (l := (rowL (i * 18))) rfl) rfl rfl hks ⟨by rw [rowL_len]; omega, by rw [rowL_len]; omega⟩) ?_)
    rintro _ W ⟨rfl, hb⟩
    replace H := H.below hb
    clear hb
    refine ⟨H.sub (by repeat (first | exact List.Sublist.refl _ | exact List.nil_sublist _ | refine List.Sublist.cons_cons _ ?_ | refine List.Sublist.cons _ ?_)), ?_⟩
    refine c_run rfl (w_none rfl) rfl (fun W H => d_not rfl rfl) ?_
    refine c_run rfl (w_none rfl) rfl (fun W H => mv_bx (c := false) rfl rfl (rfl)) ?_
    refine c_run rfl (w_g rfl rfl rfl rfl) rfl (fun W H => mv_s rfl rfl) ?_
    refine c_run rfl (w_g rfl rfl rfl rfl) rfl (fun W H => mv_i rfl rfl) ?_
    refine c_run rfl (w_g rfl rfl rfl rfl) rfl (fun W H => d_iaS rfl (rd_blk (m := 16) (H.blk (g := gn)) rfl) rfl rfl (q := i) rfl hi16 tu24 ts3) ?_
    refine c_run rfl (w_g rfl rfl rfl rfl) rfl (fun W H => d_ldR0 rfl (rd_blk (m := 16) (H.blk (g := gn)) rfl) rfl ta3 (Pn.ks_get hi16)) ?_
    refine c_eff rfl (e_call (w_g rfl rfl rfl rfl) rfl rfl Tryd.func3 rfl rfl rfl (packForms (Pn.ks.getD i 0) _ (H.gat hG) hks) ?_)
    rintro _ W ⟨rfl, hb⟩
    replace H := H.below hb
    clear hb
    refine ⟨H.sub (by repeat (first | exact List.Sublist.refl _ | exact List.nil_sublist _ | refine List.Sublist.cons_cons _ ?_ | refine List.Sublist.cons _ ?_)), ?_⟩
    refine c_run rfl (w_g rfl rfl rfl rfl) rfl (fun W H => d_not rfl rfl) ?_
    refine c_run rfl (w_none rfl) rfl (fun W H => d_pickF rfl rfl rfl) ?_
    refine c_nil ?_
    refine k_condF rfl rfl ?_
    refine k_skip ?_
    refine k_seq ?_
    refine k_seq ?_
    refine k_region ?_
    refine s_run (w_none rfl) rfl (as_i rfl rfl) ?_
    refine l_nil ?_
    refine k_block ?_
    refine k_loop 40 [0, 4, 5] (fun mm sl W => ∃ j : Nat, 16 - j = mm ∧ sl = [(4, .int .i64 (j : Int))] ∧ (j ≤ 16) ∧ St nT w W [Fact.blk g3 (thingC 0 (Pn.ks.getD i 0) A5 (rowL (i * 18)).length c5 (Pn.hi i) Pn.t3) 40, Fact.row 5 1 (.slice A5 (rowL (i * 18)).length c5) (rowL (i * 18)).length ((rowL (i * 18)).map u8v), Fact.blk gn (Pn.ks.map (Value.int .i64)) 3]) _ _ ⟨0, rfl, rfl, Nat.zero_le _, H.sub (by repeat (first | exact List.Sublist.refl _ | exact List.nil_sublist _ | refine List.Sublist.cons_cons _ ?_ | refine List.Sublist.cons _ ?_))⟩ ⟨rfl, trivial⟩ (fun mm sl ρv W hJ => ?_)
    clear H; obtain ⟨j, rfl, rfl, hj, H⟩ := hJ
    refine k_one ?_
    refine k_seq ?_
    refine k_seq ?_
    refine k_region ?_
    refine s_run (w_none rfl) rfl (mv_i rfl rfl) ?_
    refine s_run (w_none rfl) rfl (mv_s rfl rfl) ?_
    refine s_run (w_none rfl) rfl (d_len rfl rfl tu24) ?_
    refine s_run (w_none rfl) rfl (d_lt rfl rfl rfl) ?_
    refine l_nil ?_
    refine k_cond rfl (fun hc43 => ?_) (fun hc43 => ?_)
    · replace hc43 := of_decide_eq_true hc43
      have hj16 : j < 16 := by omega
      have hks2 := Pn.ks_ok hj16
      refine k_skip ?_
      refine k_seq ?_
      refine k_block ?_
      refine k_seq ?_
      refine k_region ?_
      refine s_run (w_none rfl) rfl (mv_s rfl rfl) ?_
      refine s_run (w_none rfl) rfl (mv_i rfl rfl) ?_
      refine s_run (w_none rfl) rfl (d_iaS rfl (rd_blk (m := 16) (H.blk (g := gn)) rfl) rfl rfl (q := i) rfl hi16 tu24 ts3) ?_
      refine s_run (w_none rfl) rfl (d_ldR0 rfl (rd_blk (m := 16) (H.blk (g := gn)) rfl) rfl ta3 (Pn.ks_get hi16)) ?_
      refine s_eff (e_call (w_none rfl) rfl rfl Tryd.func18 rfl rfl rfl (packInt (S := (0 ≤ ·)) (b := []) (Pn.ks.getD i 0) _ (H.gat hG) Bs.nil hks (by simp)) ?_)
      rintro _ W ⟨A7, c7, rfl, hc7, hd7, hn⟩
      replace H := H.new hn
      clear hn
      refine s_run (w_none rfl) rfl (mv_i rfl rfl) ?_
      refine s_run (w_none rfl) rfl (d_mul rfl rfl rfl (by omega)) ?_
      refine s_eff (e_call (w_none rfl) rfl rfl Tryd.func49 rfl rfl rfl (row_any (j * 17) _ _ (by omega) (by omega)) ?_)
      rintro _ W ⟨A8, c8, rfl, hc8, hd8, hn⟩
      replace H := H.new hn
      clear hn
      have hl9 : ([] ++ Pk.int (Pk.toU (Pn.ks.getD i 0))).length + (rowL (j * 17)).length ≤ 1099511627776 := by have := Pk.len_int (Pk.toU (Pn.ks.getD i 0)); simp only [List.length_append, List.length_nil, rowL_len]; omega
      refine s_eff (e_app (w_none rfl) rfl rfl tu23 tx5 rfl rfl rfl H (H.rowrd (A := A8)) (all_u8L _) (hl9) rfl ?_)
      clear H; intro A9 c9 W hc9 hd9 H
      refine s_run (w_none rfl) rfl (as_s rfl rfl) ?_
      refine l_nil ?_
      rw [← List.map_append] at H
      have hb9 : (([] ++ Pk.int (Pk.toU (Pn.ks.getD i 0))) ++ rowL (j * 17)).length ≤ 4096 := by have := Pk.len_int (Pk.toU (Pn.ks.getD i 0)); simp only [List.length_append, List.length_nil, rowL_len]; omega
      refine k_seq ?_
      refine k_region ?_
      refine s_run (w_none rfl) rfl (mv_s rfl rfl) ?_
      refine s_run (w_none rfl) rfl (mv_s rfl rfl) ?_
      refine s_run (w_none rfl) rfl (mv_i rfl rfl) ?_
      refine s_run (w_none rfl) rfl (d_iaS rfl (rd_blk (m := 16) (H.blk (g := gn)) rfl) rfl rfl (q := j) rfl hj16 tu24 ts3) ?_
      refine s_run (w_none rfl) rfl (d_ldR0 rfl (rd_blk (m := 16) (H.blk (g := gn)) rfl) rfl ta3 (Pn.ks_get hj16)) ?_
      refine s_run (w_none rfl) rfl (d_build (vs := [.int .i64 2, .int .i64 (Pn.ks.getD j 0)]) rfl (by kernel_rfl)) ?_
      refine s_run (w_none rfl) rfl (d_build (vs := [.int .i64 0, .int .i64 0]) rfl (by kernel_rfl)) ?_
      refine s_run (w_none rfl) rfl (d_build (vs := [.int .i64 3, .int .i64 0]) rfl (by kernel_rfl)) ?_
      refine s_eff (e_bsl (xs := [.tmp 60, .tmp 61, .tmp 62]) (vals := [.agg #[.int .i64 2, .int .i64 (Pn.ks.getD j 0)], .agg #[.int .i64 0, .int .i64 0], .agg #[.int .i64 3, .int .i64 0]]) (vs := (askC [(2, (Pn.ks.getD j 0)), (0, 0), (3, 0)])) (w_none rfl) rfl rfl rfl rfl rfl rfl tu48 ts53 ty53 rfl rfl rfl H ?_)
      clear H; intro q1 W H
      refine s_eff (e_call (w_none rfl) rfl rfl Tryd.func5 rfl rfl rfl (packReadsB (b := (([] ++ Pk.int (Pk.toU (Pn.ks.getD i 0))) ++ rowL (j * 17))) (l := [(2, (Pn.ks.getD j 0)), (0, 0), (3, 0)]) _ (H.gat hG) (H.rowbs (A := A9) (l := (([] ++ Pk.int (Pk.toU (Pn.ks.getD i 0))) ++ rowL (j * 17))) (by simp)) (rd_blk (m := 3) (H.blk (g := q1)) rfl) hb9) ?_)
      rintro _ W ⟨rfl, hb⟩
      replace H := H.below hb
      clear hb
      refine s_run (w_none rfl) rfl (d_not rfl rfl) ?_
      refine s_run (w_none rfl) rfl (mv_bx (c := false) rfl rfl (rfl)) ?_
      refine s_run (w_g rfl rfl rfl rfl) rfl (mv_s rfl rfl) ?_
      refine s_run (w_g rfl rfl rfl rfl) rfl (mv_s rfl rfl) ?_
      refine s_run (w_g rfl rfl rfl rfl) rfl (mv_i rfl rfl) ?_
      refine s_run (w_g rfl rfl rfl rfl) rfl (d_iaS rfl (rd_blk (m := 16) (H.blk (g := gn)) rfl) rfl rfl (q := j) rfl hj16 tu24 ts3) ?_
      refine s_run (w_g rfl rfl rfl rfl) rfl (d_ldR0 rfl (rd_blk (m := 16) (H.blk (g := gn)) rfl) rfl ta3 (Pn.ks_get hj16)) ?_
      refine s_run (w_g rfl rfl rfl rfl) rfl (d_build (vs := [.int .i64 1, .int .i64 (Pn.ks.getD j 0)]) rfl (by kernel_rfl)) ?_
      refine s_run (w_g rfl rfl rfl rfl) rfl (d_build (vs := [.int .i64 4, .int .i64 0]) rfl (by kernel_rfl)) ?_
      refine s_eff (e_bsl (xs := [.tmp 72, .tmp 73]) (vals := [.agg #[.int .i64 1, .int .i64 (Pn.ks.getD j 0)], .agg #[.int .i64 4, .int .i64 0]]) (vs := (askC [(1, (Pn.ks.getD j 0)), (4, 0)])) (w_g rfl rfl rfl rfl) rfl rfl rfl rfl rfl rfl tu48 ts53 ty53 rfl rfl rfl H ?_)
      clear H; intro q2 W H
      refine s_eff (e_call (w_g rfl rfl rfl rfl) rfl rfl Tryd.func5 rfl rfl rfl (packReadsB (b := (([] ++ Pk.int (Pk.toU (Pn.ks.getD i 0))) ++ rowL (j * 17))) (l := [(1, (Pn.ks.getD j 0)), (4, 0)]) _ (H.gat hG) (H.rowbs (A := A9) (l := (([] ++ Pk.int (Pk.toU (Pn.ks.getD i 0))) ++ rowL (j * 17))) (by simp)) (rd_blk (m := 2) (H.blk (g := q2)) rfl) hb9) ?_)
      rintro _ W ⟨rfl, hb⟩
      replace H := H.below hb
      clear hb
      refine s_run (w_g rfl rfl rfl rfl) rfl (d_not rfl rfl) ?_
      refine s_run (w_none rfl) rfl (d_pickF rfl rfl rfl) ?_
      refine s_run (w_none rfl) rfl (mv_bx (c := false) rfl rfl (rfl)) ?_
      refine s_run (w_g rfl rfl rfl rfl) rfl (mv_s rfl rfl) ?_
      refine s_run (w_g rfl rfl rfl rfl) rfl (d_build (vs := [.int .i64 0, .int .i64 0]) rfl (by kernel_rfl)) ?_
      refine s_run (w_g rfl rfl rfl rfl) rfl (mv_s rfl rfl) ?_
      refine s_run (w_g rfl rfl rfl rfl) rfl (mv_i rfl rfl) ?_
      refine s_run (w_g rfl rfl rfl rfl) rfl (d_iaS rfl (rd_blk (m := 16) (H.blk (g := gn)) rfl) rfl rfl (q := j) rfl hj16 tu24 ts3) ?_
      refine s_run (w_g rfl rfl rfl rfl) rfl (d_ldR0 rfl (rd_blk (m := 16) (H.blk (g := gn)) rfl) rfl ta3 (Pn.ks_get hj16)) ?_
      refine s_run (w_g rfl rfl rfl rfl) rfl (d_build (vs := [.int .i64 2, .int .i64 (Pn.ks.getD j 0)]) rfl (by kernel_rfl)) ?_
      refine s_eff (e_bsl (xs := [.tmp 80, .tmp 85]) (vals := [.agg #[.int .i64 0, .int .i64 0], .agg #[.int .i64 2, .int .i64 (Pn.ks.getD j 0)]]) (vs := (askC [(0, 0), (2, (Pn.ks.getD j 0))])) (w_g rfl rfl rfl rfl) rfl rfl rfl rfl rfl rfl tu48 ts53 ty53 rfl rfl rfl H ?_)
      clear H; intro q3 W H
      refine s_eff (e_call (w_g rfl rfl rfl rfl) rfl rfl Tryd.func8 rfl rfl rfl (packForm (b := (([] ++ Pk.int (Pk.toU (Pn.ks.getD i 0))) ++ rowL (j * 17))) (l := [(0, 0), (2, (Pn.ks.getD j 0))]) _ (H.gat hG) (H.rowbs (A := A9) (l := (([] ++ Pk.int (Pk.toU (Pn.ks.getD i 0))) ++ rowL (j * 17))) (by simp)) (rd_blk (m := 2) (H.blk (g := q3)) rfl) hb9) ?_)
      rintro _ W ⟨rfl, hb⟩
      replace H := H.below hb
      clear hb
      refine s_run (w_g rfl rfl rfl rfl) rfl (d_not rfl rfl) ?_
      refine s_run (w_none rfl) rfl (d_pickF rfl rfl rfl) ?_
      refine l_nil ?_
      refine k_condF rfl rfl ?_
      refine k_skip ?_
      refine k_nil ?_
      refine b_end ?_
      refine k_region ?_
      refine s_run (w_none rfl) rfl (mv_i rfl rfl) ?_
      refine s_run (w_none rfl) rfl (d_add rfl rfl rfl (by omega)) ?_
      refine s_run (w_none rfl) rfl (as_i rfl rfl) ?_
      refine l_nil ?_
      refine k_nil ?_
      refine k_next ?_
      refine ⟨_, _, _, ?_, rfl, ?_, ?_, ⟨j + 1, rfl, rfl, by omega, H.sub (by repeat (first | exact List.Sublist.refl _ | exact List.nil_sublist _ | refine List.Sublist.cons_cons _ ?_ | refine List.Sublist.cons _ ?_))⟩⟩
      · omega
      · repeat (first | ((with_reducible refine Eqo.updl _ Eqo.ovr ?_); exact rfl) | ((with_reducible refine Eqo.updl _ (Eqo.ovr2 ?_ ?_) ?_); rotate_left; exact rfl; exact rfl) | ((with_reducible refine Eqo.upd ?_ ?_); rotate_left; exact rfl))
      · refine ⟨?_, trivial⟩
        · exact vi (by omega)
    · skip
      refine k_exit ?_
      refine x_then (x_then ?_)
      refine x_hit ?_
      refine k_seq ?_
      refine k_draw [(0, true), (1, true), (2, true), (3, true), (4, true), (5, true), (6, true), (7, true), (8, true), (9, true), (10, true), (11, true), (12, true), (14, true), (13, false), (15, false), (16, true), (17, true), (18, true), (19, true), (20, true), (21, true), (22, true), (24, true), (25, true), (23, false), (26, false), (27, true), (28, true)] _ (by kernel_rfl) (by kernel_rfl) H (.refl _) ?_
      clear H; intro W H
      refine c_run rfl (w_none rfl) rfl (fun W H => d_ldXM (g := g3) (off := 0) rfl H (sub_all (len_thing rfl rfl)) (len_thing rfl rfl) rfl rfl rfl ta40 ts40) ?_
      refine c_run rfl (w_none rfl) rfl (fun W H => mv_s rfl rfl) ?_
      refine c_run rfl (w_none rfl) rfl (fun W H => mv_i rfl rfl) ?_
      refine c_run rfl (w_none rfl) rfl (fun W H => d_iaS rfl (rd_blk (m := 16) (H.blk (g := gn)) rfl) rfl rfl (q := i) rfl hi16 tu24 ts3) ?_
      refine c_run rfl (w_none rfl) rfl (fun W H => d_ldR0 rfl (rd_blk (m := 16) (H.blk (g := gn)) rfl) rfl ta3 (Pn.ks_get hi16)) ?_
      refine c_run rfl (w_none rfl) rfl (fun W H => d_build (vs := Pn.TC ((⟨4, (Pn.ks.getD i 0), [], (List.replicate 32 (0 : UInt8)), (List.replicate 16 (0 : UInt8))⟩ : DThing), none, 0)) rfl (by kernel_rfl)) ?_
      refine c_run rfl (w_none rfl) rfl (fun W H => d_fa rfl rfl tf40_2) ?_
      refine c_run rfl (w_none rfl) rfl (fun W H => d_ldX (g := g3) (off := 2) rfl H rfl rfl rfl ta23) ?_
      refine c_run rfl (w_none rfl) rfl (fun W H => d_build (vs := Pn.TC ((⟨1, 0, (rowL (i * 18)), (List.replicate 32 (0 : UInt8)), (List.replicate 16 (0 : UInt8))⟩ : DThing), A5, c5)) rfl (by kernel_rfl)) ?_
      refine c_run rfl (w_none rfl) rfl (fun W H => d_fa rfl rfl tf40_3) ?_
      refine c_run rfl (w_none rfl) rfl (fun W H => d_ldXM (g := g3) (off := 3) rfl H (thing_h rfl) rfl rfl rfl rfl ta36 ts36) ?_
      refine c_run rfl (w_none rfl) rfl (fun W H => d_build (vs := Pn.TC ((⟨2, 0, [], Pn.hi i, (List.replicate 16 (0 : UInt8))⟩ : DThing), none, 0)) rfl (by kernel_rfl)) ?_
      refine c_run rfl (w_none rfl) rfl (fun W H => d_build (vs := Pn.TC ((⟨3, 0, [], (List.replicate 32 (0 : UInt8)), (List.replicate 16 (0 : UInt8))⟩ : DThing), none, 0)) rfl (by kernel_rfl)) ?_
      refine c_run rfl (w_none rfl) rfl (fun W H => mv_i rfl rfl) ?_
      refine c_eff rfl (e_bsl (xs := [.tmp 90, .tmp 95, .tmp 98, .tmp 101, .tmp 102]) (vals := [.agg (Pn.TC ((⟨0, (Pn.ks.getD i 0), (rowL (i * 18)), Pn.hi i, Pn.t3⟩ : DThing), A5, c5)).toArray, .agg (Pn.TC ((⟨4, (Pn.ks.getD i 0), [], (List.replicate 32 (0 : UInt8)), (List.replicate 16 (0 : UInt8))⟩ : DThing), none, 0)).toArray, .agg (Pn.TC ((⟨1, 0, (rowL (i * 18)), (List.replicate 32 (0 : UInt8)), (List.replicate 16 (0 : UInt8))⟩ : DThing), A5, c5)).toArray, .agg (Pn.TC ((⟨2, 0, [], Pn.hi i, (List.replicate 16 (0 : UInt8))⟩ : DThing), none, 0)).toArray, .agg (Pn.TC ((⟨3, 0, [], (List.replicate 32 (0 : UInt8)), (List.replicate 16 (0 : UInt8))⟩ : DThing), none, 0)).toArray]) (vs := ([((⟨0, (Pn.ks.getD i 0), (rowL (i * 18)), Pn.hi i, Pn.t3⟩ : DThing), A5, c5), ((⟨4, (Pn.ks.getD i 0), [], (List.replicate 32 (0 : UInt8)), (List.replicate 16 (0 : UInt8))⟩ : DThing), none, 0), ((⟨1, 0, (rowL (i * 18)), (List.replicate 32 (0 : UInt8)), (List.replicate 16 (0 : UInt8))⟩ : DThing), A5, c5), ((⟨2, 0, [], Pn.hi i, (List.replicate 16 (0 : UInt8))⟩ : DThing), none, 0), ((⟨3, 0, [], (List.replicate 32 (0 : UInt8)), (List.replicate 16 (0 : UInt8))⟩ : DThing), none, 0)].map Pn.TC).flatten) (w_none rfl) rfl rfl rfl rfl rfl rfl tu55 ts40 ty40 rfl (by simp [Value.cells, thingC]) (by simp [Value.cells]) H ?_)
      clear H; intro gb5 W H
      refine ⟨H.sub (by repeat (first | exact List.Sublist.refl _ | exact List.nil_sublist _ | refine List.Sublist.cons_cons _ ?_ | refine List.Sublist.cons _ ?_)), ?_⟩
      refine c_eff rfl (e_call (w_none rfl) rfl rfl Tryd.func6 rfl rfl rfl (packBack (l := [((⟨0, (Pn.ks.getD i 0), (rowL (i * 18)), Pn.hi i, Pn.t3⟩ : DThing), A5, c5), ((⟨4, (Pn.ks.getD i 0), [], (List.replicate 32 (0 : UInt8)), (List.replicate 16 (0 : UInt8))⟩ : DThing), none, 0), ((⟨1, 0, (rowL (i * 18)), (List.replicate 32 (0 : UInt8)), (List.replicate 16 (0 : UInt8))⟩ : DThing), A5, c5), ((⟨2, 0, [], Pn.hi i, (List.replicate 16 (0 : UInt8))⟩ : DThing), none, 0), ((⟨3, 0, [], (List.replicate 32 (0 : UInt8)), (List.replicate 16 (0 : UInt8))⟩ : DThing), none, 0)].map (·.1)) (S1 := (0 ≤ ·)) (m := []) _ (H.gat hG) (Pn.rl_lit (ts := [((⟨0, (Pn.ks.getD i 0), (rowL (i * 18)), Pn.hi i, Pn.t3⟩ : DThing), A5, c5), ((⟨4, (Pn.ks.getD i 0), [], (List.replicate 32 (0 : UInt8)), (List.replicate 16 (0 : UInt8))⟩ : DThing), none, 0), ((⟨1, 0, (rowL (i * 18)), (List.replicate 32 (0 : UInt8)), (List.replicate 16 (0 : UInt8))⟩ : DThing), A5, c5), ((⟨2, 0, [], Pn.hi i, (List.replicate 16 (0 : UInt8))⟩ : DThing), none, 0), ((⟨3, 0, [], (List.replicate 32 (0 : UInt8)), (List.replicate 16 (0 : UInt8))⟩ : DThing), none, 0)]) (H.blk (g := gb5)) (by
          intro y hy
          simp only [List.mem_cons, List.not_mem_nil, or_false] at hy
          rcases hy with rfl | rfl | rfl | rfl | rfl
          · exact ⟨ok0, (H.rowbs (A := A5) (l := (rowL (i * 18))) rfl)⟩
          · exact ⟨ok4, Pn.nilB⟩
          · exact ⟨ok1, (H.rowbs (A := A5) (l := (rowL (i * 18))) rfl)⟩
          · exact ⟨ok2, Pn.nilB⟩
          · exact ⟨ok3, Pn.nilB⟩) (by simp)) (fun g hg => hg) Bs.nil) ?_)
      rintro _ W ⟨rfl, hb⟩
      replace H := H.below hb
      clear hb
      refine ⟨H.sub (by repeat (first | exact List.Sublist.refl _ | exact List.nil_sublist _ | refine List.Sublist.cons_cons _ ?_ | refine List.Sublist.cons _ ?_)), ?_⟩
      refine c_run rfl (w_none rfl) rfl (fun W H => d_not rfl rfl) ?_
      refine c_run rfl (w_none rfl) rfl (fun W H => mv_bx (c := false) rfl rfl (rfl)) ?_
      refine c_run rfl (w_g rfl rfl rfl rfl) rfl (fun W H => d_ldXM (g := g3) (off := 0) rfl H (sub_all (len_thing rfl rfl)) (len_thing rfl rfl) rfl rfl rfl ta40 ts40) ?_
      refine c_run rfl (w_g rfl rfl rfl rfl) rfl (fun W H => d_fa rfl rfl tf40_2) ?_
      refine c_run rfl (w_g rfl rfl rfl rfl) rfl (fun W H => d_ldX (g := g3) (off := 2) rfl H rfl rfl rfl ta23) ?_
      refine c_run rfl (w_g rfl rfl rfl rfl) rfl (fun W H => d_build (vs := Pn.TC ((⟨1, 0, (rowL (i * 18)), (List.replicate 32 (0 : UInt8)), (List.replicate 16 (0 : UInt8))⟩ : DThing), A5, c5)) rfl (by kernel_rfl)) ?_
      refine c_run rfl (w_g rfl rfl rfl rfl) rfl (fun W H => d_build (vs := Pn.TC ((⟨3, 0, [], (List.replicate 32 (0 : UInt8)), (List.replicate 16 (0 : UInt8))⟩ : DThing), none, 0)) rfl (by kernel_rfl)) ?_
      refine c_run rfl (w_g rfl rfl rfl rfl) rfl (fun W H => mv_i rfl rfl) ?_
      refine c_run rfl (w_g rfl rfl rfl rfl) rfl (fun W H => d_mul rfl rfl rfl (by omega)) ?_
      refine c_eff rfl (e_bsl (xs := [.tmp 108, .tmp 111, .tmp 112]) (vals := [.agg (Pn.TC ((⟨0, (Pn.ks.getD i 0), (rowL (i * 18)), Pn.hi i, Pn.t3⟩ : DThing), A5, c5)).toArray, .agg (Pn.TC ((⟨1, 0, (rowL (i * 18)), (List.replicate 32 (0 : UInt8)), (List.replicate 16 (0 : UInt8))⟩ : DThing), A5, c5)).toArray, .agg (Pn.TC ((⟨3, 0, [], (List.replicate 32 (0 : UInt8)), (List.replicate 16 (0 : UInt8))⟩ : DThing), none, 0)).toArray]) (vs := ([((⟨0, (Pn.ks.getD i 0), (rowL (i * 18)), Pn.hi i, Pn.t3⟩ : DThing), A5, c5), ((⟨1, 0, (rowL (i * 18)), (List.replicate 32 (0 : UInt8)), (List.replicate 16 (0 : UInt8))⟩ : DThing), A5, c5), ((⟨3, 0, [], (List.replicate 32 (0 : UInt8)), (List.replicate 16 (0 : UInt8))⟩ : DThing), none, 0)].map Pn.TC).flatten) (w_g rfl rfl rfl rfl) rfl rfl rfl rfl rfl rfl tu55 ts40 ty40 rfl (by simp [Value.cells, thingC]) (by simp [Value.cells]) H ?_)
      clear H; intro gb3 W H
      refine ⟨H.sub (by repeat (first | exact List.Sublist.refl _ | exact List.nil_sublist _ | refine List.Sublist.cons_cons _ ?_ | refine List.Sublist.cons _ ?_)), ?_⟩
      refine c_eff rfl (e_call (w_g rfl rfl rfl rfl) rfl rfl Tryd.func7 rfl rfl rfl (packCut (l := [((⟨0, (Pn.ks.getD i 0), (rowL (i * 18)), Pn.hi i, Pn.t3⟩ : DThing), A5, c5), ((⟨1, 0, (rowL (i * 18)), (List.replicate 32 (0 : UInt8)), (List.replicate 16 (0 : UInt8))⟩ : DThing), A5, c5), ((⟨3, 0, [], (List.replicate 32 (0 : UInt8)), (List.replicate 16 (0 : UInt8))⟩ : DThing), none, 0)].map (·.1)) _ (H.gat hG) (Pn.rl_lit (ts := [((⟨0, (Pn.ks.getD i 0), (rowL (i * 18)), Pn.hi i, Pn.t3⟩ : DThing), A5, c5), ((⟨1, 0, (rowL (i * 18)), (List.replicate 32 (0 : UInt8)), (List.replicate 16 (0 : UInt8))⟩ : DThing), A5, c5), ((⟨3, 0, [], (List.replicate 32 (0 : UInt8)), (List.replicate 16 (0 : UInt8))⟩ : DThing), none, 0)]) (H.blk (g := gb3)) (by
          intro y hy
          simp only [List.mem_cons, List.not_mem_nil, or_false] at hy
          rcases hy with rfl | rfl | rfl
          · exact ⟨ok0, (H.rowbs (A := A5) (l := (rowL (i * 18))) rfl)⟩
          · exact ⟨ok1, (H.rowbs (A := A5) (l := (rowL (i * 18))) rfl)⟩
          · exact ⟨ok3, Pn.nilB⟩) (by simp)) (fun g hg => hg)) ?_)
      rintro _ W ⟨rfl, hb⟩
      replace H := H.below hb
      clear hb
      refine ⟨H.sub (by repeat (first | exact List.Sublist.refl _ | exact List.nil_sublist _ | refine List.Sublist.cons_cons _ ?_ | refine List.Sublist.cons _ ?_)), ?_⟩
      refine c_run rfl (w_g rfl rfl rfl rfl) rfl (fun W H => d_not rfl rfl) ?_
      refine c_run rfl (w_none rfl) rfl (fun W H => d_pickF rfl rfl rfl) ?_
      refine c_nil ?_
      refine k_condF rfl rfl ?_
      refine k_skip ?_
      refine k_nil ?_
      refine b_end ?_
      refine k_region ?_
      refine s_run (w_none rfl) rfl (mv_i rfl rfl) ?_
      refine s_run (w_none rfl) rfl (d_add rfl rfl rfl (by omega)) ?_
      refine s_run (w_none rfl) rfl (as_i rfl rfl) ?_
      refine l_nil ?_
      refine k_nil ?_
      refine k_next ?_
      refine ⟨_, _, _, ?_, rfl, ?_, ?_, ⟨i + 1, rfl, rfl, by omega, H.sub (by repeat (first | exact List.Sublist.refl _ | exact List.nil_sublist _ | refine List.Sublist.cons_cons _ ?_ | refine List.Sublist.cons _ ?_))⟩⟩
      · omega
      · repeat (first | ((with_reducible refine Eqo.updl _ Eqo.ovr ?_); exact rfl) | ((with_reducible refine Eqo.updl _ (Eqo.ovr2 ?_ ?_) ?_); rotate_left; exact rfl; exact rfl) | ((with_reducible refine Eqo.upd ?_ ?_); rotate_left; exact rfl))
      · refine ⟨?_, trivial⟩
        · exact vi (by omega)
  · skip
    refine k_exit ?_
    refine x_then (x_then ?_)
    refine x_hit ?_
    refine k_seq ?_
    refine k_region ?_
    refine s_eff (e_call (w_none rfl) rfl rfl Tryd.func19 rfl rfl rfl (prgRead (l := []) (S := (0 ≤ ·)) _ Bs.nil (by simp)) ?_)
    rintro _ W ⟨r3, A3, c3, rfl, hS3⟩
    replace H := H.add hS3
    clear hS3
    simp only [List.cons_append, List.nil_append] at H
    refine s_run (w_none rfl) rfl (as_p rfl rfl) ?_
    refine l_nil ?_
    refine k_seq ?_
    refine k_region ?_
    refine s_run (w_none rfl) rfl (mv_p rfl rfl) ?_
    refine s_eff (e_call (w_none rfl) rfl rfl Tryd.func21 rfl rfl rfl (prgEnd _ (H.get (f := RdP 5 96 r3 A3 ([] : List UInt8).length c3 ([], 0)))) ?_)
    rintro _ W ⟨rfl, hb⟩
    replace H := H.below hb
    clear hb
    refine s_run (w_none rfl) rfl (d_eq rfl rfl rfl) ?_
    refine s_run (w_none rfl) rfl (mv_bx (c := true) rfl rfl (by decide)) ?_
    refine s_run (w_g rfl rfl rfl rfl) rfl (mv_p rfl rfl) ?_
    refine s_eff (e_call (w_g rfl rfl rfl rfl) rfl rfl Tryd.func20 rfl rfl rfl (prgInt _ (H.get (f := RdP 5 96 r3 A3 ([] : List UInt8).length c3 ([], 0))) ⟨fun h => absurd rfl h, by decide, by decide⟩ (H.gat hG) (H.away (f := RdP 5 96 r3 A3 ([] : List UInt8).length c3 ([], 0)) hG.1)) ?_)
    rw [show Pk.rInt ([], 0) = (0, ([], 4)) by decide]
    rintro _ W ⟨rfl, hp, hf⟩
    replace H := H.mut (f := RdP 5 96 r3 A3 ([] : List UInt8).length c3 ([], 0)) (f' := RdP 5 96 r3 A3 ([] : List UInt8).length c3 ([], 4)) hf hp (fun _ h => h)
    clear hp hf
    refine s_run (w_g rfl rfl rfl rfl) rfl (d_eq rfl rfl rfl) ?_
    refine s_run (w_none rfl) rfl (d_pickT rfl rfl rfl) ?_
    refine s_run (w_none rfl) rfl (mv_bx (c := true) rfl rfl (by decide)) ?_
    refine s_run (w_g rfl rfl rfl rfl) rfl (mv_p rfl rfl) ?_
    refine s_eff (e_call (w_g rfl rfl rfl rfl) rfl rfl Tryd.func21 rfl rfl rfl (prgEnd _ (H.get (f := RdP 5 96 r3 A3 ([] : List UInt8).length c3 ([], 4)))) ?_)
    rintro _ W ⟨rfl, hb⟩
    replace H := H.below hb
    clear hb
    refine s_run (w_g rfl rfl rfl rfl) rfl (d_eq rfl rfl rfl) ?_
    refine s_run (w_none rfl) rfl (d_pickT rfl rfl rfl) ?_
    refine s_run (w_none rfl) rfl (mv_bx (c := true) rfl rfl (by decide)) ?_
    refine s_eff (e_call (w_g rfl rfl rfl rfl) rfl rfl Tryd.func23 rfl rfl rfl (works03 _ (H.gat hG)) ?_)
    rintro _ W ⟨rfl, hb⟩
    replace H := H.below hb
    clear hb
    refine s_run (w_none rfl) rfl (d_pickT rfl rfl rfl) ?_
    refine s_run (w_none rfl) rfl (as_b rfl rfl) ?_
    refine l_nil ?_
    refine k_ret ?_
    repeat (first | refine r_then ?_ | refine r_blk ?_)
    exact q_ret (v := .bool _) rfl rfl ⟨_, rfl, rfl, H.under⟩
end Go.Proofs.YtejaohlijaodjaaDoor

namespace Go.Proofs.YtejaohlijaodjaaDoor
open Go Go.RowKit

theorem packKnown_any (w : World) (hG : Gat w 0 formsC) :
    Calls Tryd.prog 9 #[] w (fun e w' => e = .returned (.bool true) ∧ Below w.heap.size w w') := of_is (packKnown w hG)
end Go.Proofs.YtejaohlijaodjaaDoor
