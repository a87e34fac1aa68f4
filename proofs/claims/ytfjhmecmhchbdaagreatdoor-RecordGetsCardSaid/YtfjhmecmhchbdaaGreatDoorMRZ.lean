/- Texts of this claim, laid together: K69, K70, K71, F18. -/
import Derived.Test.YtfjhmecmhchbdaaGreatDoorMRQ
import Derived.Test.YtfjhmecmhchbdaaGreatDoorMRG
import Derived.Test.YtfjhmecmhchbdaaGreatDoorMB
import Derived.Test.YtfjhmecmhchbdaaGreatDoorMF
set_option linter.unusedVariables false
set_option linter.unusedSimpArgs false

namespace Go.Proofs.YtfjhmecmhchbdaaGreatDoor
open Go Go.RowKit
attribute [local irreducible] wpList

/-- What a call of record.Get leaves: read, and to be written over. -/
def GotRecZ (w : World) (b : List UInt8) (v : Value) (w' : World) : Prop := ∃ S A c B d, v = .tuple #[.agg (recC (Rc.get b).1 (txC A (Rc.get b).1.tx.ins.length c B (Rc.get b).1.tx.outs.length d (Rc.get b).1.tx.lock)).toArray, .int .i64 (Rc.get b).2] ∧ St nT w w' [Fact.z 56 58 S A c B d (Rc.get b).1.tx]
attribute [local irreducible] Rc.rBody Tx.get Rc.get Rc.chk Pk.rInt

set_option maxHeartbeats 4000000 in
theorem getRZ {S : Nat → Prop} {v : Value} {b : List UInt8} (w : World) (hb : Bs w S v b) (hbl : b.length ≤ 1000000000000) (hG : Gat w 0 formsC) : Calls Tryz.prog 17 [v].toArray w (Ret (GotRecZ w b)) := by
  have hb0 := hb
  obtain ⟨Ab, cb, rfl, _, _, _⟩ := hb.op
  have hok0 : Pk.Ok (b, 0) := ⟨fun h => absurd rfl h, (show (0 : Int) ≤ 0 by decide), (show (0 : Int) ≤ 24 by decide)⟩
  have hok1 : Pk.Ok (Rc.hS1 b) := Pk.ok_rInt hok0
  have hok2 : Pk.Ok (Rc.hS2 b) := Pk.ok_rInt hok1
  refine k_enter (l := [_]) Tryz.func17 rfl rfl ?_
  have H := St.start nT w
  refine k_seq ?_
  refine k_region ?_
  refine s_eff (e_alloc (w_none rfl) rfl rfl (recC Rc.zero zt) tz33 H ?_)
  clear H; intro go W H
  refine s_run (w_none rfl) rfl (as_i rfl rfl) ?_
  refine l_nil ?_
  refine k_seq ?_
  refine k_region ?_
  refine s_run (w_none rfl) rfl (mv_s rfl rfl) ?_
  refine s_eff (e_call (w_none rfl) rfl rfl Tryz.func42 rfl rfl rfl (prgReadY _ (H.bs hb0) hbl) ?_)
  rintro _ W ⟨r, A0, c0, rfl, hn⟩
  replace H := H.add1 hn
  clear hn
  have h0 : ¬ RdT r A0 b.length c0 0 := H.away (f := RdYP 5 102 r A0 b.length c0 (· = b) (b, 0)) hG.1
  refine s_run (w_none rfl) rfl (as_p rfl rfl) ?_
  refine l_nil ?_
  refine k_seq ?_
  refine k_region ?_
  refine s_run (w_none rfl) rfl (mv_p rfl rfl) ?_
  refine s_eff (e_call (w_none rfl) rfl rfl Tryz.func43 rfl rfl rfl (prgInt _ (H.get (f := RdYP 5 102 r A0 b.length c0 (· = b) (b, 0))) hok0 (H.gat hG) h0) ?_)
  rintro _ W ⟨rfl, hp_, hf_⟩
  replace H := H.mut (f := RdYP 5 102 r A0 b.length c0 (· = b) (b, 0)) (f' := RdYP 5 102 r A0 b.length c0 (· = b) (Pk.rInt (b, 0)).2) hf_ hp_ (fun _ h => h)
  clear hp_ hf_
  refine s_run (w_none rfl) rfl (d_build (vs := recC (Rc.start (Rc.hK b) 0) zt) rfl (built_fields (places := [(0, 1), (1, 1), (2, 41), (43, 32), (75, 1), (76, 1), (77, 3)]) tz33 (by kernel_rfl) (by kernel_rfl) (fill_next (vs := [.int .i64 (Rc.hK b)]) (.int .i64 (Rc.hK b)) rfl rfl rfl rfl (Nat.le_of_ble_eq_true rfl) (fill_end (by rfl))))) ?_
  refine s_eff (e_alloc (w_none rfl) rfl rfl (recC Rc.zero zt) tz33 H ?_)
  clear H; intro rr W H
  refine s_eff (e_stoK (recC (Rc.start (Rc.hK b) 0) zt) (w_none rfl) rfl rfl rfl rfl rfl ts33 (len_rec rfl rfl rfl) (rec_one rfl) H (by rw [len_rec rfl rfl rfl]; decide) (spl_all ((len_rec rfl rfl rfl).trans (len_rec rfl rfl rfl).symm)) ?_)
  clear H; intro W H
  refine l_nil ?_
  refine k_seq ?_
  refine k_region ?_
  refine s_run (w_none rfl) rfl (mv_p rfl rfl) ?_
  refine s_eff (e_call (w_none rfl) rfl rfl Tryz.func43 rfl rfl rfl (prgInt _ (H.get (f := RdYP 5 102 r A0 b.length c0 (· = b) (Rc.hS1 b))) hok1 (H.gat hG) h0) ?_)
  rintro _ W ⟨rfl, hp_, hf_⟩
  replace H := H.mut (f := RdYP 5 102 r A0 b.length c0 (· = b) (Rc.hS1 b)) (f' := RdYP 5 102 r A0 b.length c0 (· = b) (Pk.rInt (Rc.hS1 b)).2) hf_ hp_ (fun _ h => h)
  clear hp_ hf_
  refine s_run (w_none rfl) rfl (d_fa rfl rfl tf33_1) ?_
  refine s_eff (e_stoK (v := .int .i64 (Rc.hI b)) (vs := [.int .i64 (Rc.hI b)]) (recC (Rc.start (Rc.hK b) (Rc.hI b)) zt) (w_none rfl) rfl rfl rfl rfl rfl ts3 rfl rfl H (rec_le rfl rfl rfl (by decide)) spl_r_id ?_)
  clear H; intro W H
  refine l_nil ?_
  refine k_seq ?_
  refine k_block ?_
  refine k_seq ?_
  refine k_region ?_
  refine s_run (w_none rfl) rfl (mv_p rfl rfl) ?_
  refine s_eff (e_call (w_none rfl) rfl rfl Tryz.func44 rfl rfl rfl (prgBad _ (H.get (f := RdYP 5 102 r A0 b.length c0 (· = b) (Rc.hS2 b)))) ?_)
  rintro _ W ⟨rfl, hb⟩
  replace H := H.below hb
  clear hb
  refine s_run (w_none rfl) rfl (as_b rfl rfl) ?_
  refine l_nil ?_
  refine k_cond rfl (fun hc16 => ?_) (fun hc16 => ?_)
  · have he2 : (Rc.hS2 b).2 ≠ 0 := by simpa using hc16
    refine k_seq ?_
    refine k_region ?_
    refine s_run (w_none rfl) rfl (d_build (vs := recC Rc.zero zt) rfl (by kernel_rfl)) ?_
    refine s_run (w_none rfl) rfl (mv_p rfl rfl) ?_
    refine s_eff (e_call (w_none rfl) rfl rfl Tryz.func45 rfl rfl rfl (prgEnd _ (H.get (f := RdYP 5 102 r A0 b.length c0 (· = b) (Rc.hS2 b)))) ?_)
    rintro _ W ⟨rfl, hb⟩
    replace H := H.below hb
    clear hb
    refine s_eff (e_stoK (recC Rc.zero zt) (w_none rfl) rfl rfl rfl rfl rfl ts33 (len_rec rfl rfl rfl) (rec_one rfl) H (by rw [len_rec rfl rfl rfl]; decide) (spl_all ((len_rec rfl rfl rfl).trans (len_rec rfl rfl rfl).symm)) ?_)
    clear H; intro W H
    refine s_run (w_none rfl) rfl (as_i rfl rfl) ?_
    refine l_nil ?_
    refine k_ret ?_
    repeat (first | refine r_then ?_ | refine r_blk ?_)
    have hge : Rc.get b = (Rc.zero, (Rc.hS2 b).2) := Rc.get_e1 he2
    have hre := Rc.rEnd_bad hok2 he2
    rw [← hre] at hge
    exact q_cell2 rfl (c := recC Rc.zero zt) (g := go) (v := .int .i64 (Pk.rEnd (Rc.hS2 b))) H rfl ta33 (by rw [len_rec rfl rfl rfl]; exact ts33) rfl ⟨_, rfl, (fun _ => False), none, 0, none, 0, by rw [hge]; rfl, by rw [hge]; exact ((H.addz (eI := 56) (eO := 58)).sub (L' := [_]) (.cons_cons _ (List.nil_sublist _)))⟩
  · have he2 : (Rc.hS2 b).2 = 0 := by simpa using hc16
    refine k_seq ?_
    refine k_region ?_
    refine s_run (w_none rfl) rfl (d_fa rfl rfl tf33_0) ?_
    refine s_run (w_none rfl) rfl (d_ldX (g := rr) (off := 0) rfl H rfl rfl rfl ta3) ?_
    refine s_eff (e_call (w_none rfl) rfl rfl Tryz.func33 rfl rfl rfl (withinR _) ?_)
    rintro _ W ⟨rfl, hb⟩
    replace H := H.below hb
    clear hb
    refine s_run (w_none rfl) rfl (d_not rfl rfl) ?_
    refine s_run (w_none rfl) rfl (as_b rfl rfl) ?_
    refine l_nil ?_
    refine k_cond rfl (fun hc22 => ?_) (fun hc22 => ?_)
    · have hkb : Rc.hK b < 1 ∨ 4 < Rc.hK b := by simp at hc22; omega
      refine k_seq ?_
      refine k_region ?_
      refine s_run (w_none rfl) rfl (d_build (vs := recC Rc.zero zt) rfl (by kernel_rfl)) ?_
      refine s_eff (e_stoK (recC Rc.zero zt) (w_none rfl) rfl rfl rfl rfl rfl ts33 (len_rec rfl rfl rfl) (rec_one rfl) H (by rw [len_rec rfl rfl rfl]; decide) (spl_all ((len_rec rfl rfl rfl).trans (len_rec rfl rfl rfl).symm)) ?_)
      clear H; intro W H
      refine s_run (w_none rfl) rfl (as_i rfl rfl) ?_
      refine l_nil ?_
      refine k_ret ?_
      repeat (first | refine r_then ?_ | refine r_blk ?_)
      have hge : Rc.get b = (Rc.zero, 2) := Rc.get_e2 he2 hkb
      exact q_cell2 rfl (c := recC Rc.zero zt) (g := go) (v := .int .i64 (2)) H rfl ta33 (by rw [len_rec rfl rfl rfl]; exact ts33) rfl ⟨_, rfl, (fun _ => False), none, 0, none, 0, by rw [hge]; rfl, by rw [hge]; exact ((H.addz (eI := 56) (eO := 58)).sub (L' := [_]) (.cons_cons _ (List.nil_sublist _)))⟩
    · have hkb : 1 ≤ Rc.hK b ∧ Rc.hK b ≤ 4 := by simpa using hc22
      refine k_skip ?_
      refine k_nil ?_
      refine b_end ?_
      refine k_seq ?_
      replace H := H.perm (.swap _ _ _)
      have hap := (List.pairwise_cons.1 H.apart).1 _ (.head _)
      have hox : Rc.Ok (Rc.hB b).1.1 := Rc.ok_body Tx.int_ok Tx.int_ok
      have hxt : (Rc.hB b).1.1.tx = Tx.zero := Rc.body_tx
      have hxd : (Rc.hB b).1.1.deal.hash.length = 32 := hox.2.2.1.2.2.2.2.1
      have hxs : (Rc.hB b).1.1.secret.length = 32 := hox.2.2.2.1
      refine k_region ?_
      refine s_run (w_none rfl) rfl (mv_p rfl rfl) ?_
      refine s_eff (e_call (w_none rfl) rfl rfl Tryz.func46 rfl rfl rfl (restRd (k := Rc.hK b) (i := Rc.hI b) (rr := rr) (s := (Rc.hS2 b)) _ (H.get (f := RdYP 5 102 r A0 b.length c0 (· = b) (Rc.hS2 b))) (H.get (f := Fact.blk rr (recC (Rc.start (Rc.hK b) (Rc.hI b)) zt) 33)) (fun hg => hap rr hg rfl) hok2 (H.gat hG) h0 (fun e => H.away (f := Fact.blk rr (recC (Rc.start (Rc.hK b) (Rc.hI b)) zt) 33) hG.1 e) hkb) ?_)
      rintro _ W ⟨B1, d1, rfl, hH, hK⟩
      replace H := H.mutT hK rfl rfl
      clear hK
      have eB : Rc.rBody (Rc.hK b) (Rc.hI b) (Rc.hS2 b) = Rc.hB b := rfl
      rw [eB] at hH H ⊢
      refine s_run (w_none rfl) rfl (as_s rfl rfl) ?_
      refine l_nil ?_
      refine k_seq ?_
      refine k_region ?_
      refine s_run (w_none rfl) rfl (mv_p rfl rfl) ?_
      refine s_eff (e_call (w_none rfl) rfl rfl Tryz.func45 rfl rfl rfl (prgEnd _ (H.get (f := RdYP 5 102 r A0 b.length c0 (· = b) (Rc.hB b).2))) ?_)
      rintro _ W ⟨rfl, hb⟩
      replace H := H.below hb
      clear hb
      refine s_run (w_none rfl) rfl (as_i rfl rfl) ?_
      refine l_nil ?_
      refine k_seq ?_
      refine k_seq ?_
      rcases (show Pk.rEnd (Rc.hB b).2 ≠ 0 ∨ (Pk.rEnd (Rc.hB b).2 = 0 ∧ (Rc.hB b).1.2.length = 0) ∨ (Pk.rEnd (Rc.hB b).2 = 0 ∧ ¬ ((Rc.hB b).1.2.length = 0)) by omega) with h1 | h1 | h1
      · skip
        refine k_region ?_
        refine s_run (w_none rfl) rfl (mv_i rfl rfl) ?_
        refine s_run (w_none rfl) rfl (d_eq rfl rfl rfl) ?_
        refine s_run (w_none rfl) rfl (mv_bx (c := false) rfl rfl (by first | (simp [h1]; done) | (simp; omega) | simp_all)) ?_
        refine s_skip (w_gno rfl rfl rfl rfl rfl) rfl ?_
        refine s_skip (w_gno rfl rfl rfl rfl rfl) rfl ?_
        refine s_skip (w_gno rfl rfl rfl rfl rfl) rfl ?_
        refine s_run (w_none rfl) rfl (d_pickF rfl rfl rfl) ?_
        refine l_nil ?_
        refine k_condF rfl (by first | rfl | (simp; omega) | (simp; done) | simp_all) ?_
        refine k_skip ?_
        refine k_seq ?_
        refine k_seq ?_
        refine k_region ?_
        refine s_run (w_none rfl) rfl (mv_i rfl rfl) ?_
        refine s_run (w_none rfl) rfl (d_eq rfl rfl rfl) ?_
        refine l_nil ?_
        refine k_condF rfl (by simpa using h1) ?_
        refine k_skip ?_
        refine k_seq ?_
        refine k_seq ?_
        refine k_region ?_
        refine s_run (w_none rfl) rfl (mv_i rfl rfl) ?_
        refine s_run (w_none rfl) rfl (d_eq rfl rfl rfl) ?_
        refine s_run (w_none rfl) rfl (mv_bx (c := false) rfl rfl (by first | (simp [h2]; done) | (simp [h1]; done) | (simp [hge0]; done) | (simp; omega) | simp_all)) ?_
        refine s_skip (w_gno rfl rfl rfl rfl rfl) rfl ?_
        refine s_skip (w_gno rfl rfl rfl rfl rfl) rfl ?_
        refine s_skip (w_gno rfl rfl rfl rfl rfl) rfl ?_
        refine s_run (w_none rfl) rfl (d_pickF rfl rfl rfl) ?_
        refine l_nil ?_
        refine k_condF rfl rfl ?_
        refine k_skip ?_
        refine k_seq ?_
        refine k_seq ?_
        refine k_region ?_
        refine s_run (w_none rfl) rfl (mv_i rfl rfl) ?_
        refine s_run (w_none rfl) rfl (d_ne rfl rfl rfl) ?_
        refine l_nil ?_
        refine k_condT rfl (by first | rfl | (simp [h2]; done) | (simp [h1]; done) | (simp [hge0]; done) | (simp; omega) | simp_all) ?_
        refine k_seq ?_
        refine k_region ?_
        refine s_run (w_none rfl) rfl (d_build (vs := recC Rc.zero zt) rfl (by kernel_rfl)) ?_
        refine s_run (w_none rfl) rfl (mv_i rfl rfl) ?_
        refine s_eff (e_stoK (recC Rc.zero zt) (w_none rfl) rfl rfl rfl rfl rfl ts33 (len_rec rfl rfl rfl) (rec_one rfl) H (by rw [len_rec rfl rfl rfl]; decide) (spl_all ((len_rec rfl rfl rfl).trans (len_rec rfl rfl rfl).symm)) ?_)
        clear H; intro W H
        refine s_run (w_none rfl) rfl (as_i rfl rfl) ?_
        refine l_nil ?_
        refine k_ret ?_
        repeat (first | refine r_then ?_ | refine r_blk ?_)
        have hge : Rc.get b = (Rc.zero, Pk.rEnd (Rc.hB b).2) := (Rc.get_e3 he2 hkb).trans (Rc.fin_e1 h1)
        exact q_cell2 rfl (c := recC Rc.zero zt) (g := go) (v := .int .i64 (Pk.rEnd (Rc.hB b).2)) H rfl ta33 (by rw [len_rec rfl rfl rfl]; exact ts33) rfl ⟨_, rfl, (fun _ => False), none, 0, none, 0, by rw [hge]; rfl, by rw [hge]; exact ((H.addz (eI := 56) (eO := 58)).sub (L' := [_]) (.cons_cons _ (List.nil_sublist _)))⟩
      · skip
        refine k_region ?_
        refine s_run (w_none rfl) rfl (mv_i rfl rfl) ?_
        refine s_run (w_none rfl) rfl (d_eq rfl rfl rfl) ?_
        refine s_run (w_none rfl) rfl (mv_bx (c := true) rfl rfl (by first | (simp [h1]; done) | (simp; omega) | simp_all)) ?_
        refine s_run (w_g rfl rfl rfl rfl) rfl (mv_s rfl rfl) ?_
        refine s_run (w_g rfl rfl rfl rfl) rfl (d_len rfl rfl tu37) ?_
        refine s_run (w_g rfl rfl rfl rfl) rfl (d_gt rfl rfl rfl) ?_
        refine s_run (w_none rfl) rfl (d_pickT rfl rfl rfl) ?_
        refine l_nil ?_
        refine k_condF rfl (by first | rfl | (simp; omega) | (simp; done) | simp_all) ?_
        refine k_skip ?_
        refine k_seq ?_
        refine k_seq ?_
        refine k_region ?_
        refine s_run (w_none rfl) rfl (mv_i rfl rfl) ?_
        refine s_run (w_none rfl) rfl (d_eq rfl rfl rfl) ?_
        refine l_nil ?_
        refine k_condT rfl (by simp [h1.1]) ?_
        refine k_region ?_
        refine s_run (w_none rfl) rfl (d_ldXM (g := rr) (off := 0) rfl H (sub_all (len_rec hxd hxs rfl)) (len_rec hxd hxs rfl) rfl rfl rfl ta33 ts33) ?_
        refine s_eff (e_call (w_none rfl) rfl rfl Tryz.func12 rfl rfl rfl (checkRT (r := (Rc.hB b).1.1) (ct := zt) (S := nT) _ hox (tx_zero hxt)) ?_)
        rintro _ W ⟨rfl, hb⟩
        replace H := H.below hb
        clear hb
        refine s_run (w_none rfl) rfl (as_i rfl rfl) ?_
        refine l_nil ?_
        refine k_seq ?_
        refine k_seq ?_
        rcases Decidable.em (Rc.chk (Rc.hB b).1.1 = 0) with h2 | h2
        · skip
          refine k_region ?_
          refine s_run (w_none rfl) rfl (mv_i rfl rfl) ?_
          refine s_run (w_none rfl) rfl (d_eq rfl rfl rfl) ?_
          refine s_run (w_none rfl) rfl (mv_bx (c := true) rfl rfl (by first | (simp [h2]; done) | (simp [h1]; done) | (simp [hge0]; done) | (simp; omega) | simp_all)) ?_
          refine s_run (w_g rfl rfl rfl rfl) rfl (mv_s rfl rfl) ?_
          refine s_run (w_g rfl rfl rfl rfl) rfl (d_len rfl rfl tu37) ?_
          refine s_run (w_g rfl rfl rfl rfl) rfl (d_gt rfl rfl rfl) ?_
          refine s_run (w_none rfl) rfl (d_pickT rfl rfl rfl) ?_
          refine l_nil ?_
          refine k_cond rfl (fun hc55 => ?_) (fun hc55 => ?_)
          · have hlong : 400 < b.length := by simp at hc55; omega
            refine k_region ?_
            refine s_run (w_none rfl) rfl (as_i rfl rfl) ?_
            refine l_nil ?_
            refine k_seq ?_
            refine k_seq ?_
            refine k_region ?_
            refine s_run (w_none rfl) rfl (mv_i rfl rfl) ?_
            refine s_run (w_none rfl) rfl (d_ne rfl rfl rfl) ?_
            refine l_nil ?_
            refine k_condT rfl (by first | rfl | (simp [h2]; done) | (simp [h1]; done) | (simp [hge0]; done) | (simp; omega) | simp_all) ?_
            refine k_seq ?_
            refine k_region ?_
            refine s_run (w_none rfl) rfl (d_build (vs := recC Rc.zero zt) rfl (by kernel_rfl)) ?_
            refine s_run (w_none rfl) rfl (mv_i rfl rfl) ?_
            refine s_eff (e_stoK (recC Rc.zero zt) (w_none rfl) rfl rfl rfl rfl rfl ts33 (len_rec rfl rfl rfl) (rec_one rfl) H (by rw [len_rec rfl rfl rfl]; decide) (spl_all ((len_rec rfl rfl rfl).trans (len_rec rfl rfl rfl).symm)) ?_)
            clear H; intro W H
            refine s_run (w_none rfl) rfl (as_i rfl rfl) ?_
            refine l_nil ?_
            refine k_ret ?_
            repeat (first | refine r_then ?_ | refine r_blk ?_)
            have hge : Rc.get b = (Rc.zero, 5) := (((Rc.get_e3 he2 hkb).trans (Rc.fin_e2 h1.1 (List.eq_nil_of_length_eq_zero h1.2))).trans (Rc.fin2_e2 h2 hlong))
            exact q_cell2 rfl (c := recC Rc.zero zt) (g := go) (v := .int .i64 (5)) H rfl ta33 (by rw [len_rec rfl rfl rfl]; exact ts33) rfl ⟨_, rfl, (fun _ => False), none, 0, none, 0, by rw [hge]; rfl, by rw [hge]; exact ((H.addz (eI := 56) (eO := 58)).sub (L' := [_]) (.cons_cons _ (List.nil_sublist _)))⟩
          · have hlong : ¬ 400 < b.length := by simp at hc55; omega
            refine k_skip ?_
            refine k_seq ?_
            refine k_seq ?_
            refine k_region ?_
            refine s_run (w_none rfl) rfl (mv_i rfl rfl) ?_
            refine s_run (w_none rfl) rfl (d_ne rfl rfl rfl) ?_
            refine l_nil ?_
            refine k_condF rfl (by simp [h2]) ?_
            refine k_skip ?_
            refine k_seq ?_
            refine k_region ?_
            refine s_run (w_none rfl) rfl (d_ldXM (g := rr) (off := 0) rfl H (sub_all (len_rec hxd hxs rfl)) (len_rec hxd hxs rfl) rfl rfl rfl ta33 ts33) ?_
            refine s_eff (e_stoK (recC (Rc.hB b).1.1 zt) (w_none rfl) rfl rfl rfl rfl rfl ts33 (len_rec hxd hxs rfl) (rec_one rfl) H (by rw [len_rec rfl rfl rfl]; decide) (spl_all ((len_rec hxd hxs rfl).trans (len_rec rfl rfl rfl).symm)) ?_)
            clear H; intro W H
            refine s_run (w_none rfl) rfl (as_i rfl rfl) ?_
            refine l_nil ?_
            refine k_ret ?_
            repeat (first | refine r_then ?_ | refine r_blk ?_)
            have hge : Rc.get b = ((Rc.hB b).1.1, 0) := (((Rc.get_e3 he2 hkb).trans (Rc.fin_e2 h1.1 (List.eq_nil_of_length_eq_zero h1.2))).trans (Rc.fin2_e3 h2 hlong))
            exact q_cell2 rfl (c := recC (Rc.hB b).1.1 (zt)) (g := go) (v := .int .i64 0) H rfl ta33 (by rw [len_rec (r := (Rc.hB b).1.1) hxd hxs rfl]; exact ts33) rfl ⟨_, rfl, (fun _ => False), none, 0, none, 0, by rw [hge]; dsimp only; rw [hxt]; rfl, by rw [hge]; dsimp only; rw [hxt]; exact ((H.addz (eI := 56) (eO := 58)).sub (L' := [_]) (.cons_cons _ (List.nil_sublist _)))⟩
        · skip
          refine k_region ?_
          refine s_run (w_none rfl) rfl (mv_i rfl rfl) ?_
          refine s_run (w_none rfl) rfl (d_eq rfl rfl rfl) ?_
          refine s_run (w_none rfl) rfl (mv_bx (c := false) rfl rfl (by first | (simp [h2]; done) | (simp [h1]; done) | (simp [hge0]; done) | (simp; omega) | simp_all)) ?_
          refine s_skip (w_gno rfl rfl rfl rfl rfl) rfl ?_
          refine s_skip (w_gno rfl rfl rfl rfl rfl) rfl ?_
          refine s_skip (w_gno rfl rfl rfl rfl rfl) rfl ?_
          refine s_run (w_none rfl) rfl (d_pickF rfl rfl rfl) ?_
          refine l_nil ?_
          refine k_condF rfl rfl ?_
          refine k_skip ?_
          refine k_seq ?_
          refine k_seq ?_
          refine k_region ?_
          refine s_run (w_none rfl) rfl (mv_i rfl rfl) ?_
          refine s_run (w_none rfl) rfl (d_ne rfl rfl rfl) ?_
          refine l_nil ?_
          refine k_condT rfl (by first | rfl | (simp [h2]; done) | (simp [h1]; done) | (simp [hge0]; done) | (simp; omega) | simp_all) ?_
          refine k_seq ?_
          refine k_region ?_
          refine s_run (w_none rfl) rfl (d_build (vs := recC Rc.zero zt) rfl (by kernel_rfl)) ?_
          refine s_run (w_none rfl) rfl (mv_i rfl rfl) ?_
          refine s_eff (e_stoK (recC Rc.zero zt) (w_none rfl) rfl rfl rfl rfl rfl ts33 (len_rec rfl rfl rfl) (rec_one rfl) H (by rw [len_rec rfl rfl rfl]; decide) (spl_all ((len_rec rfl rfl rfl).trans (len_rec rfl rfl rfl).symm)) ?_)
          clear H; intro W H
          refine s_run (w_none rfl) rfl (as_i rfl rfl) ?_
          refine l_nil ?_
          refine k_ret ?_
          repeat (first | refine r_then ?_ | refine r_blk ?_)
          have hge : Rc.get b = (Rc.zero, Rc.chk (Rc.hB b).1.1) := (((Rc.get_e3 he2 hkb).trans (Rc.fin_e2 h1.1 (List.eq_nil_of_length_eq_zero h1.2))).trans (Rc.fin2_e1 h2))
          exact q_cell2 rfl (c := recC Rc.zero zt) (g := go) (v := .int .i64 (Rc.chk (Rc.hB b).1.1)) H rfl ta33 (by rw [len_rec rfl rfl rfl]; exact ts33) rfl ⟨_, rfl, (fun _ => False), none, 0, none, 0, by rw [hge]; rfl, by rw [hge]; exact ((H.addz (eI := 56) (eO := 58)).sub (L' := [_]) (.cons_cons _ (List.nil_sublist _)))⟩
      · skip
        refine k_region ?_
        refine s_run (w_none rfl) rfl (mv_i rfl rfl) ?_
        refine s_run (w_none rfl) rfl (d_eq rfl rfl rfl) ?_
        refine s_run (w_none rfl) rfl (mv_bx (c := true) rfl rfl (by first | (simp [h1]; done) | (simp; omega) | simp_all)) ?_
        refine s_run (w_g rfl rfl rfl rfl) rfl (mv_s rfl rfl) ?_
        refine s_run (w_g rfl rfl rfl rfl) rfl (d_len rfl rfl tu37) ?_
        refine s_run (w_g rfl rfl rfl rfl) rfl (d_gt rfl rfl rfl) ?_
        refine s_run (w_none rfl) rfl (d_pickT rfl rfl rfl) ?_
        refine l_nil ?_
        refine k_condT rfl (by first | rfl | (simp; omega) | (simp; done) | simp_all) ?_
        refine k_region ?_
        refine s_run (w_none rfl) rfl (mv_s rfl rfl) ?_
        refine s_eff (e_call (w_none rfl) rfl rfl Tryz.func47 rfl rfl rfl (getTP (b := (Rc.hB b).1.2) _ (held_own (H.get (f := RdYP 5 102 r A0 b.length c0 (· = b) (Rc.hB b).2)) hH) (by obtain ⟨_, _, q9, _, _, _, _, h9, _⟩ := hH; omega) (H.gat hG)) ?_)
        rintro _ W hs_
        obtain ⟨Sg, Ag, cg, Bg, dg, rfl, H1_⟩ := GotTx.z hs_ H (by obtain ⟨_, _, q9, _, _, _, _, h9, _⟩ := hH; omega)
        clear H hs_
        have H := H1_
        clear H1_
        refine s_run (w_none rfl) rfl (mv_t rfl rfl) ?_
        refine s_run (w_none rfl) rfl (d_ext rfl rfl rfl) ?_
        refine s_run (w_none rfl) rfl (d_ext rfl rfl rfl) ?_
        refine s_run (w_none rfl) rfl (d_fa rfl rfl tf33_6) ?_
        refine s_eff (e_stoK (recC (Rc.setTx (Rc.hB b).1.1 (Tx.get (Rc.hB b).1.2).1) (txC Ag (Tx.get (Rc.hB b).1.2).1.ins.length cg Bg (Tx.get (Rc.hB b).1.2).1.outs.length dg (Tx.get (Rc.hB b).1.2).1.lock)) (w_none rfl) rfl rfl rfl rfl rfl ts31 rfl rfl H (rec_le hxd hxs rfl (by decide)) (spl_r_tx (ct := zt) hxd hxs rfl) ?_)
        clear H; intro W H
        refine s_run (w_none rfl) rfl (as_i rfl rfl) ?_
        refine l_nil ?_
        refine k_seq ?_
        refine k_seq ?_
        refine k_region ?_
        refine s_run (w_none rfl) rfl (mv_i rfl rfl) ?_
        refine s_run (w_none rfl) rfl (d_eq rfl rfl rfl) ?_
        refine l_nil ?_
        refine k_cond rfl (fun hc46 => ?_) (fun hc46 => ?_)
        · have hge0 : (Tx.get (Rc.hB b).1.2).2 = 0 := by simpa using hc46
          refine k_region ?_
          refine s_run (w_none rfl) rfl (d_ldXM (g := rr) (off := 0) rfl H (sub_all (len_rec hxd hxs rfl)) (len_rec hxd hxs rfl) rfl rfl rfl ta33 ts33) ?_
          refine s_eff (e_call (w_none rfl) rfl rfl Tryz.func12 rfl rfl rfl (checkRT (r := (Rc.setTx (Rc.hB b).1.1 (Tx.get (Rc.hB b).1.2).1)) _ (Rc.ok_set hox Tx.ok_get) (z_rep (eI := 56) (eO := 58) (S := Sg) (A := Ag) (c := cg) (B := Bg) (d := dg) (t := (Tx.get (Rc.hB b).1.2).1) H)) ?_)
          rintro _ W ⟨rfl, hb⟩
          replace H := H.below hb
          clear hb
          refine s_run (w_none rfl) rfl (as_i rfl rfl) ?_
          refine l_nil ?_
          refine k_seq ?_
          refine k_seq ?_
          rcases Decidable.em (Rc.chk (Rc.setTx (Rc.hB b).1.1 (Tx.get (Rc.hB b).1.2).1) = 0) with h2 | h2
          · skip
            refine k_region ?_
            refine s_run (w_none rfl) rfl (mv_i rfl rfl) ?_
            refine s_run (w_none rfl) rfl (d_eq rfl rfl rfl) ?_
            refine s_run (w_none rfl) rfl (mv_bx (c := true) rfl rfl (by first | (simp [h2]; done) | (simp [h1]; done) | (simp [hge0]; done) | (simp; omega) | simp_all)) ?_
            refine s_run (w_g rfl rfl rfl rfl) rfl (mv_s rfl rfl) ?_
            refine s_run (w_g rfl rfl rfl rfl) rfl (d_len rfl rfl tu37) ?_
            refine s_run (w_g rfl rfl rfl rfl) rfl (d_gt rfl rfl rfl) ?_
            refine s_run (w_none rfl) rfl (d_pickT rfl rfl rfl) ?_
            refine l_nil ?_
            refine k_cond rfl (fun hc55 => ?_) (fun hc55 => ?_)
            · have hlong : 400 < b.length := by simp at hc55; omega
              refine k_region ?_
              refine s_run (w_none rfl) rfl (as_i rfl rfl) ?_
              refine l_nil ?_
              refine k_seq ?_
              refine k_seq ?_
              refine k_region ?_
              refine s_run (w_none rfl) rfl (mv_i rfl rfl) ?_
              refine s_run (w_none rfl) rfl (d_ne rfl rfl rfl) ?_
              refine l_nil ?_
              refine k_condT rfl (by first | rfl | (simp [h2]; done) | (simp [h1]; done) | (simp [hge0]; done) | (simp; omega) | simp_all) ?_
              refine k_seq ?_
              refine k_region ?_
              refine s_run (w_none rfl) rfl (d_build (vs := recC Rc.zero zt) rfl (by kernel_rfl)) ?_
              refine s_run (w_none rfl) rfl (mv_i rfl rfl) ?_
              refine s_eff (e_stoK (recC Rc.zero zt) (w_none rfl) rfl rfl rfl rfl rfl ts33 (len_rec rfl rfl rfl) (rec_one rfl) H (by rw [len_rec rfl rfl rfl]; decide) (spl_all ((len_rec rfl rfl rfl).trans (len_rec rfl rfl rfl).symm)) ?_)
              clear H; intro W H
              refine s_run (w_none rfl) rfl (as_i rfl rfl) ?_
              refine l_nil ?_
              refine k_ret ?_
              repeat (first | refine r_then ?_ | refine r_blk ?_)
              have hge : Rc.get b = (Rc.zero, 5) := (((Rc.get_e3 he2 hkb).trans (Rc.fin_e4 h1.1 (fun e => h1.2 (by rw [e]; rfl)) hge0)).trans (Rc.fin2_e2 h2 hlong))
              exact q_cell2 rfl (c := recC Rc.zero zt) (g := go) (v := .int .i64 (5)) H rfl ta33 (by rw [len_rec rfl rfl rfl]; exact ts33) rfl ⟨_, rfl, (fun _ => False), none, 0, none, 0, by rw [hge]; rfl, by rw [hge]; exact ((H.addz (eI := 56) (eO := 58)).sub (L' := [_]) (.cons_cons _ (List.nil_sublist _)))⟩
            · have hlong : ¬ 400 < b.length := by simp at hc55; omega
              refine k_skip ?_
              refine k_seq ?_
              refine k_seq ?_
              refine k_region ?_
              refine s_run (w_none rfl) rfl (mv_i rfl rfl) ?_
              refine s_run (w_none rfl) rfl (d_ne rfl rfl rfl) ?_
              refine l_nil ?_
              refine k_condF rfl (by simp [h2]) ?_
              refine k_skip ?_
              refine k_seq ?_
              refine k_region ?_
              refine s_run (w_none rfl) rfl (d_ldXM (g := rr) (off := 0) rfl H (sub_all (len_rec hxd hxs rfl)) (len_rec hxd hxs rfl) rfl rfl rfl ta33 ts33) ?_
              refine s_eff (e_stoK (recC (Rc.setTx (Rc.hB b).1.1 (Tx.get (Rc.hB b).1.2).1) (txC Ag (Tx.get (Rc.hB b).1.2).1.ins.length cg Bg (Tx.get (Rc.hB b).1.2).1.outs.length dg (Tx.get (Rc.hB b).1.2).1.lock)) (w_none rfl) rfl rfl rfl rfl rfl ts33 (len_rec hxd hxs rfl) (rec_one rfl) H (by rw [len_rec rfl rfl rfl]; decide) (spl_all ((len_rec hxd hxs rfl).trans (len_rec rfl rfl rfl).symm)) ?_)
              clear H; intro W H
              refine s_run (w_none rfl) rfl (as_i rfl rfl) ?_
              refine l_nil ?_
              refine k_ret ?_
              repeat (first | refine r_then ?_ | refine r_blk ?_)
              have hge : Rc.get b = ((Rc.setTx (Rc.hB b).1.1 (Tx.get (Rc.hB b).1.2).1), 0) := (((Rc.get_e3 he2 hkb).trans (Rc.fin_e4 h1.1 (fun e => h1.2 (by rw [e]; rfl)) hge0)).trans (Rc.fin2_e3 h2 hlong))
              exact q_cell2 rfl (c := recC (Rc.setTx (Rc.hB b).1.1 (Tx.get (Rc.hB b).1.2).1) (txC Ag (Tx.get (Rc.hB b).1.2).1.ins.length cg Bg (Tx.get (Rc.hB b).1.2).1.outs.length dg (Tx.get (Rc.hB b).1.2).1.lock)) (g := go) (v := .int .i64 0) H rfl ta33 (by rw [len_rec (r := (Rc.setTx (Rc.hB b).1.1 (Tx.get (Rc.hB b).1.2).1)) hxd hxs rfl]; exact ts33) rfl ⟨_, rfl, Sg, Ag, cg, Bg, dg, by rw [hge]; rfl, by rw [hge]; exact (H.sub (L' := [Fact.z 56 58 Sg Ag cg Bg dg (Tx.get (Rc.hB b).1.2).1]) (by repeat (first | exact List.Sublist.refl _ | exact List.nil_sublist _ | refine List.Sublist.cons_cons _ ?_ | refine List.Sublist.cons _ ?_)))⟩
          · skip
            refine k_region ?_
            refine s_run (w_none rfl) rfl (mv_i rfl rfl) ?_
            refine s_run (w_none rfl) rfl (d_eq rfl rfl rfl) ?_
            refine s_run (w_none rfl) rfl (mv_bx (c := false) rfl rfl (by first | (simp [h2]; done) | (simp [h1]; done) | (simp [hge0]; done) | (simp; omega) | simp_all)) ?_
            refine s_skip (w_gno rfl rfl rfl rfl rfl) rfl ?_
            refine s_skip (w_gno rfl rfl rfl rfl rfl) rfl ?_
            refine s_skip (w_gno rfl rfl rfl rfl rfl) rfl ?_
            refine s_run (w_none rfl) rfl (d_pickF rfl rfl rfl) ?_
            refine l_nil ?_
            refine k_condF rfl rfl ?_
            refine k_skip ?_
            refine k_seq ?_
            refine k_seq ?_
            refine k_region ?_
            refine s_run (w_none rfl) rfl (mv_i rfl rfl) ?_
            refine s_run (w_none rfl) rfl (d_ne rfl rfl rfl) ?_
            refine l_nil ?_
            refine k_condT rfl (by first | rfl | (simp [h2]; done) | (simp [h1]; done) | (simp [hge0]; done) | (simp; omega) | simp_all) ?_
            refine k_seq ?_
            refine k_region ?_
            refine s_run (w_none rfl) rfl (d_build (vs := recC Rc.zero zt) rfl (by kernel_rfl)) ?_
            refine s_run (w_none rfl) rfl (mv_i rfl rfl) ?_
            refine s_eff (e_stoK (recC Rc.zero zt) (w_none rfl) rfl rfl rfl rfl rfl ts33 (len_rec rfl rfl rfl) (rec_one rfl) H (by rw [len_rec rfl rfl rfl]; decide) (spl_all ((len_rec rfl rfl rfl).trans (len_rec rfl rfl rfl).symm)) ?_)
            clear H; intro W H
            refine s_run (w_none rfl) rfl (as_i rfl rfl) ?_
            refine l_nil ?_
            refine k_ret ?_
            repeat (first | refine r_then ?_ | refine r_blk ?_)
            have hge : Rc.get b = (Rc.zero, Rc.chk (Rc.setTx (Rc.hB b).1.1 (Tx.get (Rc.hB b).1.2).1)) := (((Rc.get_e3 he2 hkb).trans (Rc.fin_e4 h1.1 (fun e => h1.2 (by rw [e]; rfl)) hge0)).trans (Rc.fin2_e1 h2))
            exact q_cell2 rfl (c := recC Rc.zero zt) (g := go) (v := .int .i64 (Rc.chk (Rc.setTx (Rc.hB b).1.1 (Tx.get (Rc.hB b).1.2).1))) H rfl ta33 (by rw [len_rec rfl rfl rfl]; exact ts33) rfl ⟨_, rfl, (fun _ => False), none, 0, none, 0, by rw [hge]; rfl, by rw [hge]; exact ((H.addz (eI := 56) (eO := 58)).sub (L' := [_]) (.cons_cons _ (List.nil_sublist _)))⟩
        · have hge0 : (Tx.get (Rc.hB b).1.2).2 ≠ 0 := by simpa using hc46
          refine k_skip ?_
          refine k_seq ?_
          refine k_seq ?_
          refine k_region ?_
          refine s_run (w_none rfl) rfl (mv_i rfl rfl) ?_
          refine s_run (w_none rfl) rfl (d_eq rfl rfl rfl) ?_
          refine s_run (w_none rfl) rfl (mv_bx (c := false) rfl rfl (by first | (simp [h2]; done) | (simp [h1]; done) | (simp [hge0]; done) | (simp; omega) | simp_all)) ?_
          refine s_skip (w_gno rfl rfl rfl rfl rfl) rfl ?_
          refine s_skip (w_gno rfl rfl rfl rfl rfl) rfl ?_
          refine s_skip (w_gno rfl rfl rfl rfl rfl) rfl ?_
          refine s_run (w_none rfl) rfl (d_pickF rfl rfl rfl) ?_
          refine l_nil ?_
          refine k_condF rfl rfl ?_
          refine k_skip ?_
          refine k_seq ?_
          refine k_seq ?_
          refine k_region ?_
          refine s_run (w_none rfl) rfl (mv_i rfl rfl) ?_
          refine s_run (w_none rfl) rfl (d_ne rfl rfl rfl) ?_
          refine l_nil ?_
          refine k_condT rfl (by first | rfl | (simp [h2]; done) | (simp [h1]; done) | (simp [hge0]; done) | (simp; omega) | simp_all) ?_
          refine k_seq ?_
          refine k_region ?_
          refine s_run (w_none rfl) rfl (d_build (vs := recC Rc.zero zt) rfl (by kernel_rfl)) ?_
          refine s_run (w_none rfl) rfl (mv_i rfl rfl) ?_
          refine s_eff (e_stoK (recC Rc.zero zt) (w_none rfl) rfl rfl rfl rfl rfl ts33 (len_rec rfl rfl rfl) (rec_one rfl) H (by rw [len_rec rfl rfl rfl]; decide) (spl_all ((len_rec rfl rfl rfl).trans (len_rec rfl rfl rfl).symm)) ?_)
          clear H; intro W H
          refine s_run (w_none rfl) rfl (as_i rfl rfl) ?_
          refine l_nil ?_
          refine k_ret ?_
          repeat (first | refine r_then ?_ | refine r_blk ?_)
          have hge : Rc.get b = (Rc.zero, (Tx.get (Rc.hB b).1.2).2) := ((Rc.get_e3 he2 hkb).trans (Rc.fin_e3 h1.1 (fun e => h1.2 (by rw [e]; rfl)) hge0))
          exact q_cell2 rfl (c := recC Rc.zero zt) (g := go) (v := .int .i64 ((Tx.get (Rc.hB b).1.2).2)) H rfl ta33 (by rw [len_rec rfl rfl rfl]; exact ts33) rfl ⟨_, rfl, (fun _ => False), none, 0, none, 0, by rw [hge]; rfl, by rw [hge]; exact ((H.addz (eI := 56) (eO := 58)).sub (L' := [_]) (.cons_cons _ (List.nil_sublist _)))⟩

set_option maxHeartbeats 4000000 in
theorem putK (w : World) (hG : Gat w 0 formsC) : Calls Tryz.prog 8 [.agg (recC Rc.k0 zt).toArray].toArray w (Ret (fun v w' => ∃ x, v = .tuple #[x, .int .i64 0] ∧ NewB 5 w [4, 7, 2] x w')) := by
  have hck : Rc.chk Rc.k0 = 0 := by decide +kernel
  have hE : [] ++ Pk.int (Pk.toU 4) ++ Pk.int (Pk.toU 7) ++ Pk.int (Pk.toU 2) = [4, 7, 2] := by decide +kernel
  refine k_enter (l := [_]) Tryz.func8 rfl rfl ?_
  have H := St.start nT w
  refine k_seq ?_
  refine k_region ?_
  refine s_eff (e_box (vs := (recC Rc.k0 zt)) (w_none rfl) rfl rfl rfl rfl H ?_)
  clear H; intro gm W H
  refine s_run (w_none rfl) rfl (as_s rfl rfl) ?_
  refine s_run (w_none rfl) rfl (as_i rfl rfl) ?_
  refine l_nil ?_
  refine k_seq ?_
  refine k_seq ?_
  refine k_region ?_
  refine s_run (w_none rfl) rfl (d_ldXM (g := gm) (off := 0) rfl H (sub_all (len_rec rfl rfl rfl)) (len_rec rfl rfl rfl) rfl rfl rfl ta33 ts33) ?_
  refine s_eff (e_call (w_none rfl) rfl rfl Tryz.func12 rfl rfl rfl (checkRT (r := Rc.k0) (ct := zt) (S := nT) _ Rc.ok_k0 (tx_zero rfl)) ?_)
  rintro _ W ⟨rfl, hb⟩
  replace H := H.below hb
  clear hb
  refine s_run (w_none rfl) rfl (as_i rfl rfl) ?_
  refine l_nil ?_
  refine k_seq ?_
  refine k_region ?_
  refine s_run (w_none rfl) rfl (mv_i rfl rfl) ?_
  refine s_run (w_none rfl) rfl (d_ne rfl rfl rfl) ?_
  refine l_nil ?_
  refine k_condF rfl (by rw [hck]; rfl) ?_
  refine k_skip ?_
  refine k_seq ?_
  refine k_region ?_
  refine s_run (w_none rfl) rfl (d_fa rfl rfl tf33_0) ?_
  refine s_run (w_none rfl) rfl (d_ldX (g := gm) (off := 0) rfl H rfl rfl rfl ta3) ?_
  refine s_run (w_none rfl) rfl (d_fa rfl rfl tf33_1) ?_
  refine s_run (w_none rfl) rfl (d_ldX (g := gm) (off := 1) rfl H rfl rfl rfl ta3) ?_
  refine s_eff (e_bsl (xs := [.tmp 14, .tmp 16]) (vals := [.int .i64 _, .int .i64 _]) (vs := [.int .i64 _, .int .i64 _]) (w_none rfl) rfl rfl rfl rfl rfl rfl tu66 ts3 ty3 rfl rfl rfl H ?_)
  clear H; intro g1 W H
  refine s_eff (e_call (w_none rfl) rfl rfl Tryz.func23 rfl rfl rfl (ints2 (b := []) (x0 := 4) (x1 := 7) _ (H.gat hG) (Bs.nil (S := nT)) (by simp) (gat_of (H.blk (g := g1))) ⟨by decide, by decide⟩ ⟨by decide, by decide⟩) ?_)
  rintro _ W ⟨A1, c1, rfl, hc1, hd1, hn⟩
  replace H := H.new hn
  clear hn
  refine s_run (w_none rfl) rfl (as_s rfl rfl) ?_
  refine l_nil ?_
  refine k_seq ?_
  refine k_seq ?_
  refine k_region ?_
  refine s_run (w_none rfl) rfl (d_fa rfl rfl tf33_2) ?_
  refine s_run (w_none rfl) rfl (d_ldXM (g := gm) (off := 2) rfl H (sub_r_deal Rc.ok_k0) (len_deal Rc.ok_k0.2.2.1.2.2.2.2.1) rfl rfl rfl ta27 ts27) ?_
  refine s_eff (e_alloc (w_none rfl) rfl rfl [.int .i64 0, .int .i64 0, .int .i64 0, .int .i64 0, .int .i64 0, .int .i64 0, .int .i64 0, .int .i64 0, .int .u8 0, .int .u8 0, .int .u8 0, .int .u8 0, .int .u8 0, .int .u8 0, .int .u8 0, .int .u8 0, .int .u8 0, .int .u8 0, .int .u8 0, .int .u8 0, .int .u8 0, .int .u8 0, .int .u8 0, .int .u8 0, .int .u8 0, .int .u8 0, .int .u8 0, .int .u8 0, .int .u8 0, .int .u8 0, .int .u8 0, .int .u8 0, .int .u8 0, .int .u8 0, .int .u8 0, .int .u8 0, .int .u8 0, .int .u8 0, .int .u8 0, .int .u8 0, .int .i64 0] tz27 H ?_)
  clear H; intro gd W H
  refine s_eff (e_stoK (dealC Rc.zDeal) (w_none rfl) rfl rfl rfl rfl rfl ts27 (len_deal rfl) deal_one H (by decide) (spl_all (by rw [len_deal rfl]; rfl)) ?_)
  clear H; intro W H
  refine l_nil ?_
  refine k_seq ?_
  refine k_region ?_
  refine s_run (w_none rfl) rfl (d_fa rfl rfl tf33_0) ?_
  refine s_run (w_none rfl) rfl (d_ldX (g := gm) (off := 0) rfl H rfl rfl rfl ta3) ?_
  refine l_nil ?_
  refine k_block ?_
  refine k_seq ?_
  refine k_region ?_
  refine s_run (w_none rfl) rfl (d_eq rfl rfl rfl) ?_
  refine s_run (w_none rfl) rfl (as_b rfl rfl) ?_
  refine l_nil ?_
  refine k_condF rfl rfl ?_
  refine k_seq ?_
  refine k_region ?_
  refine s_run (w_none rfl) rfl (d_eq rfl rfl rfl) ?_
  refine s_run (w_none rfl) rfl (as_b rfl rfl) ?_
  refine l_nil ?_
  refine k_condF rfl rfl ?_
  refine k_seq ?_
  refine k_region ?_
  refine s_run (w_none rfl) rfl (d_eq rfl rfl rfl) ?_
  refine s_run (w_none rfl) rfl (as_b rfl rfl) ?_
  refine l_nil ?_
  refine k_condF rfl rfl ?_
  refine k_seq ?_
  refine k_region ?_
  refine s_run (w_none rfl) rfl (d_eq rfl rfl rfl) ?_
  refine s_run (w_none rfl) rfl (as_b rfl rfl) ?_
  refine l_nil ?_
  refine k_condT rfl rfl ?_
  refine k_region ?_
  refine s_run (w_none rfl) rfl (mv_s rfl rfl) ?_
  refine s_run (w_none rfl) rfl (d_fa rfl rfl tf33_5) ?_
  refine s_run (w_none rfl) rfl (d_ldX (g := gm) (off := 76) rfl H (sub_r_state Rc.ok_k0) rfl rfl ta3) ?_
  refine s_eff (e_bsl (xs := [.tmp 85]) (vals := [.int .i64 _]) (vs := [.int .i64 _]) (w_none rfl) rfl rfl rfl rfl rfl rfl tu66 ts3 ty3 rfl rfl rfl H ?_)
  clear H; intro g7 W H
  refine s_eff (e_call (w_none rfl) rfl rfl Tryz.func23 rfl rfl rfl (ints1 (b := [] ++ Pk.int (Pk.toU 4) ++ Pk.int (Pk.toU 7)) (x0 := 2) _ (H.gat hG) (H.rowbs (A := A1) rfl) (by decide +kernel) (gat_of (H.blk (g := g7))) ⟨by decide, by decide⟩) ?_)
  rintro _ W ⟨A9, c9, rfl, hc9, hd9, hn⟩
  replace H := H.new hn
  clear hn
  refine s_run (w_none rfl) rfl (as_s rfl rfl) ?_
  refine l_nil ?_
  refine k_nil ?_
  refine b_end ?_
  refine k_seq ?_
  refine k_seq ?_
  rw [hE] at hc9 H ⊢
  refine k_region ?_
  refine s_run (w_none rfl) rfl (mv_s rfl rfl) ?_
  refine s_run (w_none rfl) rfl (d_len rfl rfl tu37) ?_
  refine s_run (w_none rfl) rfl (d_gt rfl rfl rfl) ?_
  refine l_nil ?_
  refine k_condF rfl rfl ?_
  refine k_skip ?_
  refine k_seq ?_
  refine k_region ?_
  refine s_run (w_none rfl) rfl (mv_s rfl rfl) ?_
  refine s_run (w_none rfl) rfl (as_s rfl rfl) ?_
  refine s_run (w_none rfl) rfl (as_i rfl rfl) ?_
  refine l_nil ?_
  refine k_ret ?_
  repeat (first | refine r_then ?_ | refine r_blk ?_)
  exact q_ret2 (v := .slice _ _ _) (x := .int _ _) rfl rfl rfl ⟨_, rfl, _, rfl, H.newB (l := [4, 7, 2]) rfl rfl hc9 hd9⟩

set_option maxHeartbeats 4000000 in
theorem knownZ (w : World) (hG : Gat w 0 formsC) : Calls Tryz.prog 6 [].toArray w (Ret (Is w (.bool true))) := by
  have hg0 := Rc.get_k0
  refine k_enter (l := []) Tryz.func6 rfl rfl ?_
  have H := St.start nT w
  refine k_seq ?_
  refine k_region ?_
  refine s_run (w_none rfl) rfl (as_b rfl rfl) ?_
  refine l_nil ?_
  refine k_seq ?_
  refine k_region ?_
  refine s_run (w_none rfl) rfl (d_build (vs := recC Rc.k0 zt) rfl (built_fields (places := [(0, 1), (1, 1), (2, 41), (43, 32), (75, 1), (76, 1), (77, 3)]) tz33 (by kernel_rfl) (by kernel_rfl) (fill_next (vs := [.int .i64 4]) (.int .i64 4) rfl rfl rfl rfl (Nat.le_of_ble_eq_true rfl) (fill_next (vs := [.int .i64 7]) (.int .i64 7) rfl (by rfl) rfl rfl (Nat.le_of_ble_eq_true rfl) (fill_skip 74 (fill_next (vs := [.int .i64 2]) (.int .i64 2) rfl (by rfl) rfl rfl (Nat.le_of_ble_eq_true rfl) (fill_end (by rfl)))))))) ?_
  refine s_eff (e_alloc (w_none rfl) rfl rfl (recC Rc.zero zt) tz33 H ?_)
  clear H; intro g1 W H
  refine s_eff (e_stoK (recC Rc.k0 zt) (w_none rfl) rfl rfl rfl rfl rfl ts33 (len_rec rfl rfl rfl) (rec_one rfl) H (by rw [len_rec rfl rfl rfl]; decide) (spl_all ((len_rec rfl rfl rfl).trans (len_rec rfl rfl rfl).symm)) ?_)
  clear H; intro W H
  refine l_nil ?_
  refine k_seq ?_
  refine k_region ?_
  refine s_run (w_none rfl) rfl (d_ldXM (g := g1) (off := 0) rfl H (sub_all (len_rec rfl rfl rfl)) (len_rec rfl rfl rfl) rfl rfl rfl ta33 ts33) ?_
  refine s_eff (e_call (w_none rfl) rfl rfl Tryz.func8 rfl rfl rfl (putK _ (H.gat hG)) ?_)
  rintro _ W ⟨_, rfl, A1, c1, rfl, hc1, hd1, hn⟩
  replace H := H.new hn
  clear hn
  refine s_run (w_none rfl) rfl (mv_t rfl rfl) ?_
  refine s_run (w_none rfl) rfl (d_ext rfl rfl rfl) ?_
  refine s_run (w_none rfl) rfl (d_ext rfl rfl rfl) ?_
  refine s_run (w_none rfl) rfl (as_s rfl rfl) ?_
  refine s_run (w_none rfl) rfl (as_i rfl rfl) ?_
  refine l_nil ?_
  refine k_seq ?_
  refine k_region ?_
  refine s_run (w_none rfl) rfl (mv_s rfl rfl) ?_
  refine s_eff (e_call (w_none rfl) rfl rfl Tryz.func17 rfl rfl rfl (getRZ (b := ([4, 7, 2] : List UInt8)) _ (H.rowbs (A := A1) rfl) (by decide) (H.gat hG)) ?_)
  rintro _ W ⟨Sg1, Ag1, cg1, Bg1, dg1, rfl, hn_⟩
  replace H := H.add1 hn_
  clear hn_
  refine s_run (w_none rfl) rfl (mv_t rfl rfl) ?_
  refine s_run (w_none rfl) rfl (d_ext rfl rfl rfl) ?_
  refine s_run (w_none rfl) rfl (d_ext rfl rfl rfl) ?_
  refine s_eff (e_alloc (w_none rfl) rfl rfl (recC Rc.zero zt) tz33 H ?_)
  clear H; intro g4 W H
  refine s_eff (e_stoK (recC (Rc.get ([4, 7, 2] : List UInt8)).1 (txC Ag1 (Rc.get ([4, 7, 2] : List UInt8)).1.tx.ins.length cg1 Bg1 (Rc.get ([4, 7, 2] : List UInt8)).1.tx.outs.length dg1 (Rc.get ([4, 7, 2] : List UInt8)).1.tx.lock)) (w_none rfl) rfl rfl rfl rfl rfl ts33 (len_rec' Rc.ok_get rfl) (rec_one rfl) H (by rw [len_rec rfl rfl rfl]; decide) (spl_all ((len_rec' Rc.ok_get rfl).trans (len_rec rfl rfl rfl).symm)) ?_)
  clear H; intro W H
  refine s_run (w_none rfl) rfl (as_i rfl rfl) ?_
  refine l_nil ?_
  refine k_seq ?_
  refine k_region ?_
  refine s_run (w_none rfl) rfl (mv_i rfl rfl) ?_
  refine s_run (w_none rfl) rfl (d_eq rfl rfl rfl) ?_
  refine s_run (w_none rfl) rfl (mv_bx (c := true) rfl rfl (rfl)) ?_
  refine s_run (w_g rfl rfl rfl rfl) rfl (mv_i rfl rfl) ?_
  refine s_run (w_g rfl rfl rfl rfl) rfl (d_eq rfl rfl rfl) ?_
  refine s_run (w_none rfl) rfl (d_pickT rfl rfl rfl) ?_
  refine s_run (w_none rfl) rfl (mv_bx (c := true) rfl rfl (by rw [hg0]; rfl)) ?_
  refine s_run (w_g rfl rfl rfl rfl) rfl (mv_s rfl rfl) ?_
  refine s_eff (e_bsl (xs := [.const (.int .u8 4), .const (.int .u8 7), .const (.int .u8 2)]) (vals := [.int .u8 _, .int .u8 _, .int .u8 _]) (vs := [.int .u8 _, .int .u8 _, .int .u8 _]) (w_g rfl rfl rfl rfl) rfl rfl rfl rfl rfl rfl tu37 ts5 ty5 rfl rfl rfl H ?_)
  clear H; intro g5 W H
  refine s_eff (e_call (w_g rfl rfl rfl rfl) rfl rfl Tryz.func14 rfl rfl rfl (sameBytes _ _ ([4, 7, 2] : List UInt8) [4, 7, 2] _ (H.rowbs (A := A1) rfl) (Bs.mk (S := (· = g5)) (l := [4, 7, 2]) (rd_blk (H.blk (g := g5)) rfl) (by decide) (by decide))) ?_)
  rintro _ W ⟨rfl, hb⟩
  replace H := H.below hb
  clear hb
  refine s_run (w_none rfl) rfl (d_pickT rfl rfl rfl) ?_
  refine s_run (w_none rfl) rfl (mv_bx (c := true) rfl rfl (rfl)) ?_
  refine s_run (w_g rfl rfl rfl rfl) rfl (d_ldXM (g := g4) (off := 0) rfl H (sub_all (len_rec' Rc.ok_get rfl)) (len_rec' Rc.ok_get rfl) rfl rfl rfl ta33 ts33) ?_
  refine s_run (w_g rfl rfl rfl rfl) rfl (d_ldXM (g := g1) (off := 0) rfl H (sub_all (len_rec rfl rfl rfl)) (len_rec rfl rfl rfl) rfl rfl rfl ta33 ts33) ?_
  refine s_eff (e_call (w_g rfl rfl rfl rfl) rfl rfl Tryz.func15 rfl rfl rfl (sameRec (S1 := nT) (r := (Rc.get ([4, 7, 2] : List UInt8)).1) (u := Rc.k0) (cu := zt) _ Rc.ok_get (z_rep (eI := 56) (eO := 58) (S := Sg1) (t := (Rc.get ([4, 7, 2] : List UInt8)).1.tx) H) Rc.ok_k0 (tx_zero rfl)) ?_)
  rintro _ W ⟨rfl, hb⟩
  replace H := H.below hb
  clear hb
  refine s_run (w_none rfl) rfl (d_pickT rfl rfl rfl) ?_
  refine s_run (w_none rfl) rfl (mv_bx (c := true) rfl rfl (by rw [hg0]; rfl)) ?_
  refine s_run (w_g rfl rfl rfl rfl) rfl (d_build (vs := recC Rc.k5 zt) rfl (built_fields (places := [(0, 1), (1, 1), (2, 41), (43, 32), (75, 1), (76, 1), (77, 3)]) tz33 (by kernel_rfl) (by kernel_rfl) (fill_next (vs := [.int .i64 5]) (.int .i64 5) rfl rfl rfl rfl (Nat.le_of_ble_eq_true rfl) (fill_end (by rfl))))) ?_
  refine s_eff (e_call (w_g rfl rfl rfl rfl) rfl rfl Tryz.func12 rfl rfl rfl (checkRT (r := Rc.k5) (ct := zt) (S := nT) _ Rc.ok_k5 (tx_zero rfl)) ?_)
  rintro _ W ⟨rfl, hb⟩
  replace H := H.below hb
  clear hb
  refine s_run (w_g rfl rfl rfl rfl) rfl (d_eq rfl rfl rfl) ?_
  refine s_run (w_none rfl) rfl (d_pickT rfl rfl rfl) ?_
  refine s_run (w_none rfl) rfl (as_b rfl rfl) ?_
  refine l_nil ?_
  refine k_ret ?_
  repeat (first | refine r_then ?_ | refine r_blk ?_)
  exact q_ret (v := .bool _) rfl rfl ⟨_, rfl, vb (by rw [Rc.chk_k5]; rfl), H.under⟩
end Go.Proofs.YtfjhmecmhchbdaaGreatDoor

namespace Go.Proofs.YtfjhmecmhchbdaaGreatDoor
open Go Go.RowKit
attribute [local irreducible] wpList

set_option maxHeartbeats 4000000 in
theorem legRR {S : Nat → Prop} {r c : Nat} {A : Option Addr} {cur : List UInt8} {s : RS} (w : World) (hR : (RefR 113 r A c cur s).p w) (hok : Pk.Ok s) (hB : Bs w S (.slice A cur.length c) cur) (hS : ∀ g, S g → ¬ g = r) (hl : cur.length ≤ 1000000000000) : Calls Tryz.prog 52 [.pointer (some ⟨r, 0, none⟩)].toArray w (Ret (ValP 113 r A c cur w (.agg (legC (Rc.rLeg s).1).toArray) (Rc.rLeg s).2)) := by
  refine k_enter (l := [_]) Tryz.func52 rfl rfl ?_
  have H := St.begin (f := RefR 113 r A c cur s) hR (fun g hg => by cases hg; exact refR_lt hR)
  refine k_seq ?_
  refine k_region ?_
  refine s_eff (e_alloc (w_none rfl) rfl rfl [.int .i64 0, .int .i64 0, .int .i64 0] tz23 H ?_)
  clear H; intro gv W H
  refine l_nil ?_
  refine k_seq ?_
  refine k_region ?_
  refine s_run (w_none rfl) rfl (mv_p rfl rfl) ?_
  refine s_eff (e_call (w_none rfl) rfl rfl Tryz.func49 rfl rfl rfl (refRdInt _ (H.get (f := RefR 113 r A c cur s)) hok (H.bsT hB hS) hS hl) ?_)
  rintro _ W ⟨rfl, hp_, hf_⟩
  replace H := H.mut (f := RefR 113 r A c cur s) (f' := RefR 113 r A c cur (Pk.rInt s).2) hf_ hp_ (fun _ h => h)
  clear hp_ hf_
  refine s_run (w_none rfl) rfl (as_i rfl rfl) ?_
  refine l_nil ?_
  refine k_seq ?_
  refine k_region ?_
  refine s_run (w_none rfl) rfl (mv_p rfl rfl) ?_
  refine s_eff (e_call (w_none rfl) rfl rfl Tryz.func49 rfl rfl rfl (refRdInt _ (H.get (f := RefR 113 r A c cur (Pk.rInt s).2)) (Pk.ok_rInt hok) (H.bsT hB hS) hS hl) ?_)
  rintro _ W ⟨rfl, hp_, hf_⟩
  replace H := H.mut (f := RefR 113 r A c cur (Pk.rInt s).2) (f' := RefR 113 r A c cur (Pk.rInt (Pk.rInt s).2).2) hf_ hp_ (fun _ h => h)
  clear hp_ hf_
  refine s_run (w_none rfl) rfl (as_i rfl rfl) ?_
  refine l_nil ?_
  refine k_seq ?_
  refine k_region ?_
  refine s_run (w_none rfl) rfl (mv_p rfl rfl) ?_
  refine s_eff (e_call (w_none rfl) rfl rfl Tryz.func49 rfl rfl rfl (refRdInt _ (H.get (f := RefR 113 r A c cur (Pk.rInt (Pk.rInt s).2).2)) (Pk.ok_rInt (Pk.ok_rInt hok)) (H.bsT hB hS) hS hl) ?_)
  rintro _ W ⟨rfl, hp_, hf_⟩
  replace H := H.mut (f := RefR 113 r A c cur (Pk.rInt (Pk.rInt s).2).2) (f' := RefR 113 r A c cur (Pk.rInt (Pk.rInt (Pk.rInt s).2).2).2) hf_ hp_ (fun _ h => h)
  clear hp_ hf_
  refine s_run (w_none rfl) rfl (as_i rfl rfl) ?_
  refine l_nil ?_
  refine k_seq ?_
  refine k_region ?_
  refine s_run (w_none rfl) rfl (mv_i rfl rfl) ?_
  refine s_run (w_none rfl) rfl (mv_i rfl rfl) ?_
  refine s_run (w_none rfl) rfl (mv_i rfl rfl) ?_
  refine s_run (w_none rfl) rfl (d_build (vs := legC (Rc.rLeg s).1) rfl (built_fields (places := [(0, 1), (1, 1), (2, 1)]) tz23 (by kernel_rfl) (by kernel_rfl) (fill_next (vs := [.int .i64 ((Pk.rInt s).1 : Int)]) (.int .i64 ((Pk.rInt s).1 : Int)) rfl rfl rfl rfl (Nat.le_of_ble_eq_true rfl) (fill_next (vs := [.int .i64 ((Pk.rInt (Pk.rInt s).2).1 : Int)]) (.int .i64 ((Pk.rInt (Pk.rInt s).2).1 : Int)) rfl (by rfl) rfl rfl (Nat.le_of_ble_eq_true rfl) (fill_next (vs := [.int .i64 ((Pk.rInt (Pk.rInt (Pk.rInt s).2).2).1 : Int)]) (.int .i64 ((Pk.rInt (Pk.rInt (Pk.rInt s).2).2).1 : Int)) rfl (by rfl) rfl rfl (Nat.le_of_ble_eq_true rfl) (fill_end (by rfl))))))) ?_
  refine s_eff (e_stoK (legC (Rc.rLeg s).1) (w_none rfl) rfl rfl rfl rfl rfl ts23 rfl rfl H (Nat.le_of_ble_eq_true rfl) rfl ?_)
  clear H; intro W H
  refine l_nil ?_
  refine k_ret ?_
  repeat (first | refine r_then ?_ | refine r_blk ?_)
  exact q_retc (g := gv) (t' := 23) (c := legC (Rc.rLeg s).1) rfl H rfl ta23 ts23 ⟨_, rfl, H.valP' (s' := (Pk.rInt (Pk.rInt (Pk.rInt s).2).2).2)⟩

/-- What a call of the reference's Get leaves. -/
def GotRecR (w : World) (b : List UInt8) (v : Value) (w' : World) : Prop := ∃ S A c B d, v = .tuple #[.agg (recC (Rc.get b).1 (txC A (Rc.get b).1.tx.ins.length c B (Rc.get b).1.tx.outs.length d (Rc.get b).1.tx.lock)).toArray, .int .i64 (Rc.get b).2] ∧ St nT w w' [Fact.rep RTx S (txC A (Rc.get b).1.tx.ins.length c B (Rc.get b).1.tx.outs.length d (Rc.get b).1.tx.lock) (Rc.get b).1.tx]
theorem spl_r_kind {r : DRecord} {ct : List Value} {n : Int} : spl (recC r ct) 0 [.int .i64 n] = recC { r with kind := n } ct := by
  have := spl_mid (a := []) (b := [.int .i64 r.kind]) (c := [.int .i64 r.id] ++ (dealC r.deal ++ (r.secret.map u8v ++ ([.int .i64 r.move] ++ ([.int .i64 r.state] ++ ct))))) (x := [.int .i64 n]) (k := 0) rfl rfl
  simpa [recC, List.append_assoc] using this
theorem Tx.get_lens {b : List UInt8} (h : (Tx.get b).2 = 0) : (Tx.get b).1.ins.length ≤ 1000000 ∧ (Tx.get b).1.outs.length ≤ 1000000 := by
  obtain ⟨hc, _⟩ := Tx.get_back h
  obtain ⟨q1, q2, q3, q4, q5, q6, q7, q8⟩ := Tx.chk_of hc
  exact ⟨by omega, by omega⟩
attribute [local irreducible] Rc.rBody Tx.get Rc.get Rc.chk Pk.rInt

set_option maxHeartbeats 4000000 in
theorem getRR {S : Nat → Prop} {v : Value} {b : List UInt8} (w : World) (hb : Bs w S v b) (hl : b.length ≤ 1000000000000) : Calls Tryz.prog 18 [v].toArray w (Ret (GotRecR w b)) := by
  have hb0 := hb
  obtain ⟨Ab, cb, rfl, _, _, _⟩ := hb.op
  have hok0 : Pk.Ok (b, 0) := ⟨fun h => absurd rfl h, (show (0 : Int) ≤ 0 by decide), (show (0 : Int) ≤ 24 by decide)⟩
  have hok1 : Pk.Ok (Rc.hS1 b) := Pk.ok_rInt hok0
  have hok2 : Pk.Ok (Rc.hS2 b) := Pk.ok_rInt hok1
  have hoke : Pk.Ok (Rc.hB b).2 := Rc.sane_body.2 _ hok2
  refine k_enter (l := [_]) Tryz.func18 rfl rfl ?_
  have H := St.start nT w
  refine k_seq ?_
  refine k_region ?_
  refine s_eff (e_alloc (w_none rfl) rfl rfl (recC Rc.zero zt) tz33 H ?_)
  clear H; intro go W H
  refine s_run (w_none rfl) rfl (as_i rfl rfl) ?_
  refine l_nil ?_
  refine k_seq ?_
  refine k_region ?_
  refine s_run (w_none rfl) rfl (mv_s rfl rfl) ?_
  refine s_eff (e_call (w_none rfl) rfl rfl Tryz.func48 rfl rfl rfl (refRead (l := b) _ (H.bs hb0) hl) ?_)
  rintro _ W ⟨q, AR, cR, rfl, hcR1, hcR2, hS⟩
  replace H := H.add2 hS
  clear hS
  have hSS : ∀ g, (Value.slice AR b.length cR).ownBlock = some g → ¬ g = q := fun g hg ht => (List.pairwise_cons.1 H.apart).1 _ (.head _) g ht hg
  refine s_run (w_none rfl) rfl (as_p rfl rfl) ?_
  refine l_nil ?_
  refine k_seq ?_
  refine k_region ?_
  refine s_eff (e_alloc (w_none rfl) rfl rfl (recC Rc.zero zt) tz33 H ?_)
  clear H; intro rr W H
  refine l_nil ?_
  refine k_seq ?_
  refine k_region ?_
  refine s_run (w_none rfl) rfl (mv_p rfl rfl) ?_
  refine s_eff (e_call (w_none rfl) rfl rfl Tryz.func49 rfl rfl rfl (refRdInt _ (H.get (f := RefR 113 q AR cR b (b, 0))) hok0 (bs_own (H.get (f := Fact.row 5 1 (.slice AR b.length cR) b.length (b.map u8v))) rfl) hSS hl) ?_)
  rintro _ W ⟨rfl, hp_, hf_⟩
  replace H := H.mut (f := RefR 113 q AR cR b (b, 0)) (f' := RefR 113 q AR cR b (Pk.rInt (b, 0)).2) hf_ hp_ (fun _ h => h)
  clear hp_ hf_
  refine s_run (w_none rfl) rfl (d_fa rfl rfl tf33_0) ?_
  refine s_eff (e_stoK (v := .int .i64 (Rc.hK b)) (vs := [.int .i64 (Rc.hK b)]) (recC (Rc.start (Rc.hK b) 0) zt) (w_none rfl) rfl rfl rfl rfl rfl ts3 rfl rfl H (rec_le rfl rfl rfl (by decide)) spl_r_kind ?_)
  clear H; intro W H
  refine l_nil ?_
  refine k_seq ?_
  refine k_region ?_
  refine s_run (w_none rfl) rfl (mv_p rfl rfl) ?_
  refine s_eff (e_call (w_none rfl) rfl rfl Tryz.func49 rfl rfl rfl (refRdInt _ (H.get (f := RefR 113 q AR cR b (Rc.hS1 b))) hok1 (bs_own (H.get (f := Fact.row 5 1 (.slice AR b.length cR) b.length (b.map u8v))) rfl) hSS hl) ?_)
  rintro _ W ⟨rfl, hp_, hf_⟩
  replace H := H.mut (f := RefR 113 q AR cR b (Rc.hS1 b)) (f' := RefR 113 q AR cR b (Pk.rInt (Rc.hS1 b)).2) hf_ hp_ (fun _ h => h)
  clear hp_ hf_
  refine s_run (w_none rfl) rfl (d_fa rfl rfl tf33_1) ?_
  refine s_eff (e_stoK (v := .int .i64 (Rc.hI b)) (vs := [.int .i64 (Rc.hI b)]) (recC (Rc.start (Rc.hK b) (Rc.hI b)) zt) (w_none rfl) rfl rfl rfl rfl rfl ts3 rfl rfl H (rec_le rfl rfl rfl (by decide)) spl_r_id ?_)
  clear H; intro W H
  refine l_nil ?_
  refine k_seq ?_
  refine k_seq ?_
  refine k_region ?_
  refine s_run (w_none rfl) rfl (mv_p rfl rfl) ?_
  refine s_eff (e_call (w_none rfl) rfl rfl Tryz.func50 rfl rfl rfl (refBad _ (H.get (f := RefR 113 q AR cR b (Rc.hS2 b)))) ?_)
  rintro _ W ⟨rfl, hb⟩
  replace H := H.below hb
  clear hb
  refine l_nil ?_
  refine k_cond rfl (fun hc19 => ?_) (fun hc19 => ?_)
  · have he2 : (Rc.hS2 b).2 ≠ 0 := by simpa using hc19
    refine k_seq ?_
    refine k_region ?_
    refine s_run (w_none rfl) rfl (d_build (vs := recC Rc.zero zt) rfl (by kernel_rfl)) ?_
    refine s_run (w_none rfl) rfl (mv_p rfl rfl) ?_
    refine s_eff (e_call (w_none rfl) rfl rfl Tryz.func51 rfl rfl rfl (refEnd _ (H.get (f := RefR 113 q AR cR b (Rc.hS2 b))) hok2 hl) ?_)
    rintro _ W ⟨rfl, hb⟩
    replace H := H.below hb
    clear hb
    refine s_eff (e_stoK (recC Rc.zero zt) (w_none rfl) rfl rfl rfl rfl rfl ts33 (len_rec rfl rfl rfl) (rec_one rfl) H (by rw [len_rec rfl rfl rfl]; decide) (spl_all ((len_rec rfl rfl rfl).trans (len_rec rfl rfl rfl).symm)) ?_)
    clear H; intro W H
    refine s_run (w_none rfl) rfl (as_i rfl rfl) ?_
    refine l_nil ?_
    refine k_ret ?_
    repeat (first | refine r_then ?_ | refine r_blk ?_)
    have hge : Rc.get b = (Rc.zero, (Rc.hS2 b).2) := Rc.get_e1 he2
    have hre := Rc.rEnd_bad hok2 he2
    rw [← hre] at hge
    exact q_cell2 rfl (c := recC Rc.zero zt) (g := go) (v := .int .i64 (Pk.rEnd (Rc.hS2 b))) H rfl ta33 (by rw [len_rec rfl rfl rfl]; exact ts33) rfl ⟨_, rfl, (fun _ => False), none, 0, none, 0, by rw [hge]; rfl, by rw [hge]; exact ((H.flat (R := RTx) (cs := txC none 0 0 none 0 0 0) (a := Tx.zero) (tx_zero rfl)).sub (L' := [_]) (.cons_cons _ (List.nil_sublist _)))⟩
  · have he2 : (Rc.hS2 b).2 = 0 := by simpa using hc19
    refine k_skip ?_
    refine k_seq ?_
    refine k_seq ?_
    refine k_region ?_
    refine s_run (w_none rfl) rfl (d_fa rfl rfl tf33_0) ?_
    refine s_run (w_none rfl) rfl (d_ldX (g := rr) (off := 0) rfl H rfl rfl rfl ta3) ?_
    refine s_eff (e_call (w_none rfl) rfl rfl Tryz.func35 rfl rfl rfl (inR _) ?_)
    rintro _ W ⟨rfl, hb⟩
    replace H := H.below hb
    clear hb
    refine s_run (w_none rfl) rfl (d_not rfl rfl) ?_
    refine l_nil ?_
    refine k_cond rfl (fun hc26 => ?_) (fun hc26 => ?_)
    · have hkb : Rc.hK b < 1 ∨ 4 < Rc.hK b := by simp at hc26; omega
      refine k_seq ?_
      refine k_region ?_
      refine s_run (w_none rfl) rfl (d_build (vs := recC Rc.zero zt) rfl (by kernel_rfl)) ?_
      refine s_eff (e_stoK (recC Rc.zero zt) (w_none rfl) rfl rfl rfl rfl rfl ts33 (len_rec rfl rfl rfl) (rec_one rfl) H (by rw [len_rec rfl rfl rfl]; decide) (spl_all ((len_rec rfl rfl rfl).trans (len_rec rfl rfl rfl).symm)) ?_)
      clear H; intro W H
      refine s_run (w_none rfl) rfl (as_i rfl rfl) ?_
      refine l_nil ?_
      refine k_ret ?_
      repeat (first | refine r_then ?_ | refine r_blk ?_)
      have hge : Rc.get b = (Rc.zero, 2) := Rc.get_e2 he2 hkb
      exact q_cell2 rfl (c := recC Rc.zero zt) (g := go) (v := .int .i64 (2)) H rfl ta33 (by rw [len_rec rfl rfl rfl]; exact ts33) rfl ⟨_, rfl, (fun _ => False), none, 0, none, 0, by rw [hge]; rfl, by rw [hge]; exact ((H.flat (R := RTx) (cs := txC none 0 0 none 0 0 0) (a := Tx.zero) (tx_zero rfl)).sub (L' := [_]) (.cons_cons _ (List.nil_sublist _)))⟩
    · have hkb : 1 ≤ Rc.hK b ∧ Rc.hK b ≤ 4 := by simpa using hc26
      refine k_skip ?_
      refine k_seq ?_
      refine k_region ?_
      refine s_run (w_none rfl) rfl (as_s rfl rfl) ?_
      refine l_nil ?_
      refine k_seq ?_
      refine k_seq ?_
      refine k_region ?_
      refine s_run (w_none rfl) rfl (d_fa rfl rfl tf33_0) ?_
      refine s_run (w_none rfl) rfl (d_ldX (g := rr) (off := 0) rfl H rfl rfl rfl ta3) ?_
      refine l_nil ?_
      refine k_bcut 30 [6] (fun sl W => ∃ A5 : Option Addr, ∃ c5 : Nat, sl = [(6, .slice A5 (Rc.hB b).1.2.length c5)] ∧ St nT w W [Fact.row 5 1 (.slice A5 (Rc.hB b).1.2.length c5) (Rc.hB b).1.2.length ((Rc.hB b).1.2.map u8v), Fact.blk rr (recC (Rc.hB b).1.1 zt) 33, RefR 113 q AR cR b (Rc.hB b).2, Fact.row 5 1 (.slice AR b.length cR) b.length (b.map u8v), Fact.blk go (recC Rc.zero zt) 33]) ?_ (fun sl ρv W hJ => ?_)
      · skip
        refine k_seq ?_
        rcases (show Rc.hK b = 1 ∨ Rc.hK b = 2 ∨ Rc.hK b = 3 ∨ Rc.hK b = 4 by omega) with h1 | h1 | h1 | h1
        · skip
          refine k_region ?_
          refine s_run (w_none rfl) rfl (d_eq rfl rfl rfl) ?_
          refine s_run (w_none rfl) rfl (as_b rfl rfl) ?_
          refine l_nil ?_
          refine k_condT rfl (by first | rfl | (simp; omega) | (simp; done) | simp_all) ?_
          refine k_seq ?_
          refine k_region ?_
          refine s_run (w_none rfl) rfl (d_fa rfl rfl tf33_1) ?_
          refine s_run (w_none rfl) rfl (d_ldX (g := rr) (off := 1) rfl H rfl rfl rfl ta3) ?_
          refine s_run (w_none rfl) rfl (d_fa rfl rfl tf33_2) ?_
          refine s_run (w_none rfl) rfl (d_fa rfl rfl tf27_0) ?_
          refine s_eff (e_stoK (v := .int .i64 (Rc.hI b)) (vs := [.int .i64 (Rc.hI b)]) (recC ⟨Rc.hK b, Rc.hI b, ⟨Rc.hI b, 0, Rc.zLeg, Rc.zLeg, Rc.z32, 0⟩, Rc.z32, 0, 0, Tx.zero⟩ zt) (w_none rfl) rfl rfl rfl rfl rfl ts3 rfl rfl H (rec_le rfl rfl rfl (by decide)) spl_r_did ?_)
          clear H; intro W H
          refine l_nil ?_
          refine k_seq ?_
          refine k_region ?_
          refine s_run (w_none rfl) rfl (mv_p rfl rfl) ?_
          refine s_eff (e_call (w_none rfl) rfl rfl Tryz.func49 rfl rfl rfl (refRdInt _ (H.get (f := RefR 113 q AR cR b (Rc.hS2 b))) hok2 (bs_own (H.get (f := Fact.row 5 1 (.slice AR b.length cR) b.length (b.map u8v))) rfl) hSS hl) ?_)
          rintro _ W ⟨rfl, hp_, hf_⟩
          replace H := H.mut (f := RefR 113 q AR cR b (Rc.hS2 b)) (f' := RefR 113 q AR cR b (Pk.rInt (Rc.hS2 b)).2) hf_ hp_ (fun _ h => h)
          clear hp_ hf_
          refine s_run (w_none rfl) rfl (d_fa rfl rfl tf33_2) ?_
          refine s_run (w_none rfl) rfl (d_fa rfl rfl tf27_1) ?_
          refine s_eff (e_stoK (v := .int .i64 ((Pk.rInt (Rc.hS2 b)).1 : Int)) (vs := [.int .i64 ((Pk.rInt (Rc.hS2 b)).1 : Int)]) (recC ⟨Rc.hK b, Rc.hI b, ⟨Rc.hI b, ((Pk.rInt (Rc.hS2 b)).1 : Int), Rc.zLeg, Rc.zLeg, Rc.z32, 0⟩, Rc.z32, 0, 0, Tx.zero⟩ zt) (w_none rfl) rfl rfl rfl rfl rfl ts3 rfl rfl H (rec_le rfl rfl rfl (by decide)) spl_r_role ?_)
          clear H; intro W H
          refine l_nil ?_
          refine k_seq ?_
          refine k_region ?_
          refine s_run (w_none rfl) rfl (mv_p rfl rfl) ?_
          refine s_eff (e_call (w_none rfl) rfl rfl Tryz.func52 rfl rfl rfl (legRR _ (H.get (f := RefR 113 q AR cR b (Pk.rInt (Rc.hS2 b)).2)) (Pk.ok_rInt hok2) (bs_own (H.get (f := Fact.row 5 1 (.slice AR b.length cR) b.length (b.map u8v))) rfl) hSS hl) ?_)
          rintro _ W ⟨rfl, hp_, hf_⟩
          replace H := H.mut (f := RefR 113 q AR cR b (Pk.rInt (Rc.hS2 b)).2) (f' := RefR 113 q AR cR b (Rc.rLeg (Pk.rInt (Rc.hS2 b)).2).2) hf_ hp_ (fun _ h => h)
          clear hp_ hf_
          refine s_run (w_none rfl) rfl (d_fa rfl rfl tf33_2) ?_
          refine s_run (w_none rfl) rfl (d_fa rfl rfl tf27_2) ?_
          refine s_eff (e_stoK (recC ⟨Rc.hK b, Rc.hI b, ⟨Rc.hI b, ((Pk.rInt (Rc.hS2 b)).1 : Int), (Rc.rLeg (Pk.rInt (Rc.hS2 b)).2).1, Rc.zLeg, Rc.z32, 0⟩, Rc.z32, 0, 0, Tx.zero⟩ zt) (w_none rfl) rfl rfl rfl rfl rfl ts23 rfl rfl H (rec_le rfl rfl rfl (by decide)) spl_r_paid ?_)
          clear H; intro W H
          refine l_nil ?_
          refine k_seq ?_
          refine k_region ?_
          refine s_run (w_none rfl) rfl (mv_p rfl rfl) ?_
          refine s_eff (e_call (w_none rfl) rfl rfl Tryz.func52 rfl rfl rfl (legRR _ (H.get (f := RefR 113 q AR cR b (Rc.rLeg (Pk.rInt (Rc.hS2 b)).2).2)) (Rc.sane_leg.2 _ (Pk.ok_rInt hok2)) (bs_own (H.get (f := Fact.row 5 1 (.slice AR b.length cR) b.length (b.map u8v))) rfl) hSS hl) ?_)
          rintro _ W ⟨rfl, hp_, hf_⟩
          replace H := H.mut (f := RefR 113 q AR cR b (Rc.rLeg (Pk.rInt (Rc.hS2 b)).2).2) (f' := RefR 113 q AR cR b (Rc.rLeg (Rc.rLeg (Pk.rInt (Rc.hS2 b)).2).2).2) hf_ hp_ (fun _ h => h)
          clear hp_ hf_
          refine s_run (w_none rfl) rfl (d_fa rfl rfl tf33_2) ?_
          refine s_run (w_none rfl) rfl (d_fa rfl rfl tf27_3) ?_
          refine s_eff (e_stoK (recC ⟨Rc.hK b, Rc.hI b, ⟨Rc.hI b, ((Pk.rInt (Rc.hS2 b)).1 : Int), (Rc.rLeg (Pk.rInt (Rc.hS2 b)).2).1, (Rc.rLeg (Rc.rLeg (Pk.rInt (Rc.hS2 b)).2).2).1, Rc.z32, 0⟩, Rc.z32, 0, 0, Tx.zero⟩ zt) (w_none rfl) rfl rfl rfl rfl rfl ts23 rfl rfl H (rec_le rfl rfl rfl (by decide)) spl_r_got ?_)
          clear H; intro W H
          refine l_nil ?_
          refine k_seq ?_
          refine k_region ?_
          refine s_run (w_none rfl) rfl (mv_p rfl rfl) ?_
          refine s_eff (e_call (w_none rfl) rfl rfl Tryz.func53 rfl rfl rfl (refRdHash _ (H.get (f := RefR 113 q AR cR b (Rc.rLeg (Rc.rLeg (Pk.rInt (Rc.hS2 b)).2).2).2)) (Rc.sane_leg.2 _ (Rc.sane_leg.2 _ (Pk.ok_rInt hok2))) (bs_own (H.get (f := Fact.row 5 1 (.slice AR b.length cR) b.length (b.map u8v))) rfl) hSS hl) ?_)
          rintro _ W ⟨rfl, hp_, hf_⟩
          replace H := H.mut (f := RefR 113 q AR cR b (Rc.rLeg (Rc.rLeg (Pk.rInt (Rc.hS2 b)).2).2).2) (f' := RefR 113 q AR cR b (Pk.rBytes 32 (Rc.rLeg (Rc.rLeg (Pk.rInt (Rc.hS2 b)).2).2).2).2) hf_ hp_ (fun _ h => h)
          clear hp_ hf_
          refine s_run (w_none rfl) rfl (d_fa rfl rfl tf33_2) ?_
          refine s_run (w_none rfl) rfl (d_fa rfl rfl tf27_4) ?_
          refine s_eff (e_stoK (recC ⟨Rc.hK b, Rc.hI b, ⟨Rc.hI b, ((Pk.rInt (Rc.hS2 b)).1 : Int), (Rc.rLeg (Pk.rInt (Rc.hS2 b)).2).1, (Rc.rLeg (Rc.rLeg (Pk.rInt (Rc.hS2 b)).2).2).1, (Pk.rBytes 32 (Rc.rLeg (Rc.rLeg (Pk.rInt (Rc.hS2 b)).2).2).2).1, 0⟩, Rc.z32, 0, 0, Tx.zero⟩ zt) (w_none rfl) rfl rfl rfl rfl rfl ts25 (by rw [List.length_map]; exact Pk.len_rBytes) (all_u8L _) H (rec_le rfl rfl rfl (by decide)) (spl_r_hash rfl Pk.len_rBytes) ?_)
          clear H; intro W H
          refine l_nil ?_
          refine k_region ?_
          refine s_run (w_none rfl) rfl (mv_p rfl rfl) ?_
          refine s_eff (e_call (w_none rfl) rfl rfl Tryz.func49 rfl rfl rfl (refRdInt _ (H.get (f := RefR 113 q AR cR b (Pk.rBytes 32 (Rc.rLeg (Rc.rLeg (Pk.rInt (Rc.hS2 b)).2).2).2).2)) (Pk.ok_next (Rc.sane_leg.2 _ (Rc.sane_leg.2 _ (Pk.ok_rInt hok2)))) (bs_own (H.get (f := Fact.row 5 1 (.slice AR b.length cR) b.length (b.map u8v))) rfl) hSS hl) ?_)
          rintro _ W ⟨rfl, hp_, hf_⟩
          replace H := H.mut (f := RefR 113 q AR cR b (Pk.rBytes 32 (Rc.rLeg (Rc.rLeg (Pk.rInt (Rc.hS2 b)).2).2).2).2) (f' := RefR 113 q AR cR b (Pk.rInt (Pk.rBytes 32 (Rc.rLeg (Rc.rLeg (Pk.rInt (Rc.hS2 b)).2).2).2).2).2) hf_ hp_ (fun _ h => h)
          clear hp_ hf_
          refine s_run (w_none rfl) rfl (d_fa rfl rfl tf33_2) ?_
          refine s_run (w_none rfl) rfl (d_fa rfl rfl tf27_5) ?_
          refine s_eff (e_stoK (v := .int .i64 ((Pk.rInt (Pk.rBytes 32 (Rc.rLeg (Rc.rLeg (Pk.rInt (Rc.hS2 b)).2).2).2).2).1 : Int)) (vs := [.int .i64 ((Pk.rInt (Pk.rBytes 32 (Rc.rLeg (Rc.rLeg (Pk.rInt (Rc.hS2 b)).2).2).2).2).1 : Int)]) (recC ⟨Rc.hK b, Rc.hI b, ⟨Rc.hI b, ((Pk.rInt (Rc.hS2 b)).1 : Int), (Rc.rLeg (Pk.rInt (Rc.hS2 b)).2).1, (Rc.rLeg (Rc.rLeg (Pk.rInt (Rc.hS2 b)).2).2).1, (Pk.rBytes 32 (Rc.rLeg (Rc.rLeg (Pk.rInt (Rc.hS2 b)).2).2).2).1, ((Pk.rInt (Pk.rBytes 32 (Rc.rLeg (Rc.rLeg (Pk.rInt (Rc.hS2 b)).2).2).2).2).1 : Int)⟩, Rc.z32, 0, 0, Tx.zero⟩ zt) (w_none rfl) rfl rfl rfl rfl rfl ts3 rfl rfl H (rec_le Pk.len_rBytes rfl rfl (by decide)) (spl_r_peer Pk.len_rBytes) ?_)
          clear H; intro W H
          refine l_nil ?_
          refine k_nil ?_
          refine b_endc ?_
          replace H := H.nilrow 5 1
          have eJ : (Rc.hB b) = _ := Rc.body_1 h1
          try rw [eJ]
          refine ⟨_, _, rfl, ?_, ?_, ⟨none, 0, rfl, H⟩⟩
          · repeat (first | (with_reducible exact Eqo.refl) | ((with_reducible refine Eqo.updl _ (Eqo.ovr2 ?_ ?_) ?_); rotate_left; exact rfl; exact rfl) | ((with_reducible refine Eqo.upd ?_ ?_); rotate_left; exact rfl))
          · refine ⟨?_, trivial⟩
            · exact rfl
        · skip
          refine k_region ?_
          refine s_run (w_none rfl) rfl (d_eq rfl rfl rfl) ?_
          refine s_run (w_none rfl) rfl (as_b rfl rfl) ?_
          refine l_nil ?_
          refine k_condF rfl (by first | rfl | (simp; omega) | (simp; done) | simp_all) ?_
          refine k_seq ?_
          refine k_region ?_
          refine s_run (w_none rfl) rfl (d_eq rfl rfl rfl) ?_
          refine s_run (w_none rfl) rfl (as_b rfl rfl) ?_
          refine l_nil ?_
          refine k_condT rfl (by first | rfl | (simp; omega) | (simp; done) | simp_all) ?_
          refine k_region ?_
          refine s_run (w_none rfl) rfl (mv_p rfl rfl) ?_
          refine s_eff (e_call (w_none rfl) rfl rfl Tryz.func53 rfl rfl rfl (refRdHash _ (H.get (f := RefR 113 q AR cR b (Rc.hS2 b))) hok2 (bs_own (H.get (f := Fact.row 5 1 (.slice AR b.length cR) b.length (b.map u8v))) rfl) hSS hl) ?_)
          rintro _ W ⟨rfl, hp_, hf_⟩
          replace H := H.mut (f := RefR 113 q AR cR b (Rc.hS2 b)) (f' := RefR 113 q AR cR b (Pk.rBytes 32 (Rc.hS2 b)).2) hf_ hp_ (fun _ h => h)
          clear hp_ hf_
          refine s_run (w_none rfl) rfl (d_fa rfl rfl tf33_3) ?_
          refine s_eff (e_stoK (recC ⟨Rc.hK b, Rc.hI b, Rc.zDeal, (Pk.rBytes 32 (Rc.hS2 b)).1, 0, 0, Tx.zero⟩ zt) (w_none rfl) rfl rfl rfl rfl rfl ts25 (by rw [List.length_map]; exact Pk.len_rBytes) (all_u8L _) H (rec_le rfl rfl rfl (by decide)) (spl_r_secret rfl rfl Pk.len_rBytes) ?_)
          clear H; intro W H
          refine l_nil ?_
          refine k_nil ?_
          refine b_endc ?_
          replace H := H.nilrow 5 1
          have eJ : (Rc.hB b) = _ := Rc.body_2 h1
          try rw [eJ]
          refine ⟨_, _, rfl, ?_, ?_, ⟨none, 0, rfl, H⟩⟩
          · repeat (first | (with_reducible exact Eqo.refl) | ((with_reducible refine Eqo.updl _ (Eqo.ovr2 ?_ ?_) ?_); rotate_left; exact rfl; exact rfl) | ((with_reducible refine Eqo.upd ?_ ?_); rotate_left; exact rfl))
          · refine ⟨?_, trivial⟩
            · exact rfl
        · skip
          refine k_region ?_
          refine s_run (w_none rfl) rfl (d_eq rfl rfl rfl) ?_
          refine s_run (w_none rfl) rfl (as_b rfl rfl) ?_
          refine l_nil ?_
          refine k_condF rfl (by first | rfl | (simp; omega) | (simp; done) | simp_all) ?_
          refine k_seq ?_
          refine k_region ?_
          refine s_run (w_none rfl) rfl (d_eq rfl rfl rfl) ?_
          refine s_run (w_none rfl) rfl (as_b rfl rfl) ?_
          refine l_nil ?_
          refine k_condF rfl (by first | rfl | (simp; omega) | (simp; done) | simp_all) ?_
          refine k_seq ?_
          refine k_region ?_
          refine s_run (w_none rfl) rfl (d_eq rfl rfl rfl) ?_
          refine s_run (w_none rfl) rfl (as_b rfl rfl) ?_
          refine l_nil ?_
          refine k_condT rfl (by first | rfl | (simp; omega) | (simp; done) | simp_all) ?_
          refine k_seq ?_
          refine k_region ?_
          refine s_run (w_none rfl) rfl (mv_p rfl rfl) ?_
          refine s_eff (e_call (w_none rfl) rfl rfl Tryz.func49 rfl rfl rfl (refRdInt _ (H.get (f := RefR 113 q AR cR b (Rc.hS2 b))) hok2 (bs_own (H.get (f := Fact.row 5 1 (.slice AR b.length cR) b.length (b.map u8v))) rfl) hSS hl) ?_)
          rintro _ W ⟨rfl, hp_, hf_⟩
          replace H := H.mut (f := RefR 113 q AR cR b (Rc.hS2 b)) (f' := RefR 113 q AR cR b (Pk.rInt (Rc.hS2 b)).2) hf_ hp_ (fun _ h => h)
          clear hp_ hf_
          refine s_run (w_none rfl) rfl (d_fa rfl rfl tf33_4) ?_
          refine s_eff (e_stoK (v := .int .i64 ((Pk.rInt (Rc.hS2 b)).1 : Int)) (vs := [.int .i64 ((Pk.rInt (Rc.hS2 b)).1 : Int)]) (recC ⟨Rc.hK b, Rc.hI b, Rc.zDeal, Rc.z32, ((Pk.rInt (Rc.hS2 b)).1 : Int), 0, Tx.zero⟩ zt) (w_none rfl) rfl rfl rfl rfl rfl ts3 rfl rfl H (rec_le rfl rfl rfl (by decide)) (spl_r_move rfl rfl) ?_)
          clear H; intro W H
          refine l_nil ?_
          refine k_region ?_
          refine s_run (w_none rfl) rfl (mv_p rfl rfl) ?_
          refine s_eff (e_call (w_none rfl) rfl rfl Tryz.func54 rfl rfl rfl (refRdBlob (m := 400) _ (H.get (f := RefR 113 q AR cR b (Pk.rInt (Rc.hS2 b)).2)) (Pk.ok_rInt hok2) (bs_own (H.get (f := Fact.row 5 1 (.slice AR b.length cR) b.length (b.map u8v))) rfl) hSS hl) ?_)
          rintro _ W ⟨⟨A6, c6, rfl, hc6, hd6, hrow_, hown_, hfr_⟩, hp_⟩
          replace H := H.mutnew (f := RefR 113 q AR cR b (Pk.rInt (Rc.hS2 b)).2) (f' := RefR 113 q AR cR b (Pk.rBlob 400 (Pk.rInt (Rc.hS2 b)).2).2) (fn := Fact.row 5 1 (.slice A6 (Pk.rBlob 400 (Pk.rInt (Rc.hS2 b)).2).1.length c6) (Pk.rBlob 400 (Pk.rInt (Rc.hS2 b)).2).1.length ((Pk.rBlob 400 (Pk.rInt (Rc.hS2 b)).2).1.map u8v)) hfr_ hp_ (fun _ h => h) hrow_ hown_
          clear hrow_ hown_ hfr_ hp_
          refine s_run (w_none rfl) rfl (as_s rfl rfl) ?_
          refine l_nil ?_
          refine k_nil ?_
          refine b_endc ?_
          have eJ : (Rc.hB b) = _ := Rc.body_3 h1
          try rw [eJ]
          refine ⟨_, _, rfl, ?_, ?_, ⟨A6, c6, rfl, H⟩⟩
          · repeat (first | (with_reducible exact Eqo.refl) | ((with_reducible refine Eqo.updl _ (Eqo.ovr2 ?_ ?_) ?_); rotate_left; exact rfl; exact rfl) | ((with_reducible refine Eqo.upd ?_ ?_); rotate_left; exact rfl))
          · refine ⟨?_, trivial⟩
            · exact rfl
        · skip
          refine k_region ?_
          refine s_run (w_none rfl) rfl (d_eq rfl rfl rfl) ?_
          refine s_run (w_none rfl) rfl (as_b rfl rfl) ?_
          refine l_nil ?_
          refine k_condF rfl (by first | rfl | (simp; omega) | (simp; done) | simp_all) ?_
          refine k_seq ?_
          refine k_region ?_
          refine s_run (w_none rfl) rfl (d_eq rfl rfl rfl) ?_
          refine s_run (w_none rfl) rfl (as_b rfl rfl) ?_
          refine l_nil ?_
          refine k_condF rfl (by first | rfl | (simp; omega) | (simp; done) | simp_all) ?_
          refine k_seq ?_
          refine k_region ?_
          refine s_run (w_none rfl) rfl (d_eq rfl rfl rfl) ?_
          refine s_run (w_none rfl) rfl (as_b rfl rfl) ?_
          refine l_nil ?_
          refine k_condF rfl (by first | rfl | (simp; omega) | (simp; done) | simp_all) ?_
          refine k_seq ?_
          refine k_region ?_
          refine s_run (w_none rfl) rfl (d_eq rfl rfl rfl) ?_
          refine s_run (w_none rfl) rfl (as_b rfl rfl) ?_
          refine l_nil ?_
          refine k_condT rfl (by first | rfl | (simp; omega) | (simp; done) | simp_all) ?_
          refine k_region ?_
          refine s_run (w_none rfl) rfl (mv_p rfl rfl) ?_
          refine s_eff (e_call (w_none rfl) rfl rfl Tryz.func49 rfl rfl rfl (refRdInt _ (H.get (f := RefR 113 q AR cR b (Rc.hS2 b))) hok2 (bs_own (H.get (f := Fact.row 5 1 (.slice AR b.length cR) b.length (b.map u8v))) rfl) hSS hl) ?_)
          rintro _ W ⟨rfl, hp_, hf_⟩
          replace H := H.mut (f := RefR 113 q AR cR b (Rc.hS2 b)) (f' := RefR 113 q AR cR b (Pk.rInt (Rc.hS2 b)).2) hf_ hp_ (fun _ h => h)
          clear hp_ hf_
          refine s_run (w_none rfl) rfl (d_fa rfl rfl tf33_5) ?_
          refine s_eff (e_stoK (v := .int .i64 ((Pk.rInt (Rc.hS2 b)).1 : Int)) (vs := [.int .i64 ((Pk.rInt (Rc.hS2 b)).1 : Int)]) (recC ⟨Rc.hK b, Rc.hI b, Rc.zDeal, Rc.z32, 0, ((Pk.rInt (Rc.hS2 b)).1 : Int), Tx.zero⟩ zt) (w_none rfl) rfl rfl rfl rfl rfl ts3 rfl rfl H (rec_le rfl rfl rfl (by decide)) (spl_r_state rfl rfl) ?_)
          clear H; intro W H
          refine l_nil ?_
          refine k_nil ?_
          refine b_endc ?_
          replace H := H.nilrow 5 1
          have eJ : (Rc.hB b) = _ := Rc.body_4 h1
          try rw [eJ]
          refine ⟨_, _, rfl, ?_, ?_, ⟨none, 0, rfl, H⟩⟩
          · repeat (first | (with_reducible exact Eqo.refl) | ((with_reducible refine Eqo.updl _ (Eqo.ovr2 ?_ ?_) ?_); rotate_left; exact rfl; exact rfl) | ((with_reducible refine Eqo.upd ?_ ?_); rotate_left; exact rfl))
          · refine ⟨?_, trivial⟩
            · exact rfl
      clear H; obtain ⟨A5, c5, rfl, H⟩ := hJ
      refine k_seq ?_
      have hox : Rc.Ok (Rc.hB b).1.1 := Rc.ok_body Tx.int_ok Tx.int_ok
      have hxt : (Rc.hB b).1.1.tx = Tx.zero := Rc.body_tx
      have hxd : (Rc.hB b).1.1.deal.hash.length = 32 := hox.2.2.1.2.2.2.2.1
      have hxs : (Rc.hB b).1.1.secret.length = 32 := hox.2.2.2.1
      have hbl : (Rc.hB b).1.2.length ≤ 400 := Rc.body_len
      refine k_region ?_
      refine s_run (w_none rfl) rfl (mv_p rfl rfl) ?_
      refine s_eff (e_call (w_none rfl) rfl rfl Tryz.func51 rfl rfl rfl (refEnd _ (H.get (f := RefR 113 q AR cR b (Rc.hB b).2)) hoke hl) ?_)
      rintro _ W ⟨rfl, hb⟩
      replace H := H.below hb
      clear hb
      refine s_run (w_none rfl) rfl (as_i rfl rfl) ?_
      refine l_nil ?_
      refine k_seq ?_
      refine k_seq ?_
      refine k_region ?_
      refine s_run (w_none rfl) rfl (mv_i rfl rfl) ?_
      refine s_run (w_none rfl) rfl (d_ne rfl rfl rfl) ?_
      refine l_nil ?_
      refine k_cond rfl (fun hc76 => ?_) (fun hc76 => ?_)
      · have h3 : Pk.rEnd (Rc.hB b).2 ≠ 0 := by simpa using hc76
        refine k_seq ?_
        refine k_region ?_
        refine s_run (w_none rfl) rfl (d_build (vs := recC Rc.zero zt) rfl (by kernel_rfl)) ?_
        refine s_run (w_none rfl) rfl (mv_i rfl rfl) ?_
        refine s_eff (e_stoK (recC Rc.zero zt) (w_none rfl) rfl rfl rfl rfl rfl ts33 (len_rec rfl rfl rfl) (rec_one rfl) H (by rw [len_rec rfl rfl rfl]; decide) (spl_all ((len_rec rfl rfl rfl).trans (len_rec rfl rfl rfl).symm)) ?_)
        clear H; intro W H
        refine s_run (w_none rfl) rfl (as_i rfl rfl) ?_
        refine l_nil ?_
        refine k_ret ?_
        repeat (first | refine r_then ?_ | refine r_blk ?_)
        have hge : Rc.get b = (Rc.zero, Pk.rEnd (Rc.hB b).2) := (Rc.get_e3 he2 hkb).trans (Rc.fin_e1 h3)
        exact q_cell2 rfl (c := recC Rc.zero zt) (g := go) (v := .int .i64 (Pk.rEnd (Rc.hB b).2)) H rfl ta33 (by rw [len_rec rfl rfl rfl]; exact ts33) rfl ⟨_, rfl, (fun _ => False), none, 0, none, 0, by rw [hge]; rfl, by rw [hge]; exact ((H.flat (R := RTx) (cs := txC none 0 0 none 0 0 0) (a := Tx.zero) (tx_zero rfl)).sub (L' := [_]) (.cons_cons _ (List.nil_sublist _)))⟩
      · have h3 : Pk.rEnd (Rc.hB b).2 = 0 := by simpa using hc76
        refine k_skip ?_
        refine k_seq ?_
        refine k_seq ?_
        refine k_region ?_
        refine s_run (w_none rfl) rfl (mv_s rfl rfl) ?_
        refine s_run (w_none rfl) rfl (d_len rfl rfl tu37) ?_
        refine s_run (w_none rfl) rfl (d_gt rfl rfl rfl) ?_
        refine l_nil ?_
        refine k_cond rfl (fun hc81 => ?_) (fun hc81 => ?_)
        · have hte : (Rc.hB b).1.2 ≠ [] := fun e => by rw [e] at hc81; simp at hc81
          refine k_seq ?_
          refine k_region ?_
          refine s_run (w_none rfl) rfl (mv_s rfl rfl) ?_
          refine s_eff (e_call (w_none rfl) rfl rfl Tryz.func55 rfl rfl rfl (getTR _ (H.rowbs (A := A5) (l := (Rc.hB b).1.2) rfl) (by omega)) ?_)
          rintro _ W ⟨Sg, Ag, cg, Bg, dg, rfl, hn_⟩
          replace H := H.add1 hn_
          clear hn_
          refine s_run (w_none rfl) rfl (mv_t rfl rfl) ?_
          refine s_run (w_none rfl) rfl (d_ext rfl rfl rfl) ?_
          refine s_run (w_none rfl) rfl (d_ext rfl rfl rfl) ?_
          refine s_eff (e_alloc (w_none rfl) rfl rfl [.slice none 0 0, .slice none 0 0, .int .i64 0] tz31 H ?_)
          clear H; intro gt W H
          refine s_eff (e_stoK (txC Ag (Tx.get (Rc.hB b).1.2).1.ins.length cg Bg (Tx.get (Rc.hB b).1.2).1.outs.length dg (Tx.get (Rc.hB b).1.2).1.lock) (w_none rfl) rfl rfl rfl rfl rfl ts31 rfl rfl H (by decide) rfl ?_)
          clear H; intro W H
          refine s_run (w_none rfl) rfl (as_i rfl rfl) ?_
          refine l_nil ?_
          refine k_seq ?_
          refine k_seq ?_
          refine k_region ?_
          refine s_run (w_none rfl) rfl (mv_i rfl rfl) ?_
          refine s_run (w_none rfl) rfl (d_ne rfl rfl rfl) ?_
          refine l_nil ?_
          refine k_cond rfl (fun hc88 => ?_) (fun hc88 => ?_)
          · have hg0 : (Tx.get (Rc.hB b).1.2).2 ≠ 0 := by simpa using hc88
            refine k_seq ?_
            refine k_region ?_
            refine s_run (w_none rfl) rfl (d_build (vs := recC Rc.zero zt) rfl (by kernel_rfl)) ?_
            refine s_run (w_none rfl) rfl (mv_i rfl rfl) ?_
            refine s_eff (e_stoK (recC Rc.zero zt) (w_none rfl) rfl rfl rfl rfl rfl ts33 (len_rec rfl rfl rfl) (rec_one rfl) H (by rw [len_rec rfl rfl rfl]; decide) (spl_all ((len_rec rfl rfl rfl).trans (len_rec rfl rfl rfl).symm)) ?_)
            clear H; intro W H
            refine s_run (w_none rfl) rfl (as_i rfl rfl) ?_
            refine l_nil ?_
            refine k_ret ?_
            repeat (first | refine r_then ?_ | refine r_blk ?_)
            have hge : Rc.get b = (Rc.zero, (Tx.get (Rc.hB b).1.2).2) := (Rc.get_e3 he2 hkb).trans (Rc.fin_e3 h3 hte hg0)
            exact q_cell2 rfl (c := recC Rc.zero zt) (g := go) (v := .int .i64 ((Tx.get (Rc.hB b).1.2).2)) H rfl ta33 (by rw [len_rec rfl rfl rfl]; exact ts33) rfl ⟨_, rfl, (fun _ => False), none, 0, none, 0, by rw [hge]; rfl, by rw [hge]; exact ((H.flat (R := RTx) (cs := txC none 0 0 none 0 0 0) (a := Tx.zero) (tx_zero rfl)).sub (L' := [_]) (.cons_cons _ (List.nil_sublist _)))⟩
          · have hg0 : (Tx.get (Rc.hB b).1.2).2 = 0 := by simpa using hc88
            refine k_skip ?_
            refine k_region ?_
            refine s_run (w_none rfl) rfl (d_ldm0 (g := gt) rfl H rfl ta31 ts31 rfl) ?_
            refine s_run (w_none rfl) rfl (d_fa rfl rfl tf33_6) ?_
            refine s_eff (e_stoK (recC (Rc.setTx (Rc.hB b).1.1 (Tx.get (Rc.hB b).1.2).1) (txC Ag (Tx.get (Rc.hB b).1.2).1.ins.length cg Bg (Tx.get (Rc.hB b).1.2).1.outs.length dg (Tx.get (Rc.hB b).1.2).1.lock)) (w_none rfl) rfl rfl rfl rfl rfl ts31 rfl rfl H (rec_le hxd hxs rfl (by decide)) (spl_r_tx (ct := zt) hxd hxs rfl) ?_)
            clear H; intro W H
            refine l_nil ?_
            refine k_seq ?_
            refine k_region ?_
            refine s_run (w_none rfl) rfl (d_ldXM (g := rr) (off := 0) rfl H (sub_all (len_rec (r := (Rc.setTx (Rc.hB b).1.1 (Tx.get (Rc.hB b).1.2).1)) hxd hxs rfl)) (len_rec (r := (Rc.setTx (Rc.hB b).1.1 (Tx.get (Rc.hB b).1.2).1)) hxd hxs rfl) rfl rfl rfl ta33 ts33) ?_
            refine s_eff (e_call (w_none rfl) rfl rfl Tryz.func13 rfl rfl rfl (checkRR (r := (Rc.setTx (Rc.hB b).1.1 (Tx.get (Rc.hB b).1.2).1)) _ (Rc.ok_set hox Tx.ok_get) (H.rep1 (R := RTx) (S := Sg) (cs := txC Ag (Tx.get (Rc.hB b).1.2).1.ins.length cg Bg (Tx.get (Rc.hB b).1.2).1.outs.length dg (Tx.get (Rc.hB b).1.2).1.lock) (a := (Tx.get (Rc.hB b).1.2).1)) (Tx.get_lens hg0)) ?_)
            rintro _ W ⟨rfl, hb⟩
            replace H := H.below hb
            clear hb
            refine s_run (w_none rfl) rfl (as_i rfl rfl) ?_
            refine l_nil ?_
            refine k_seq ?_
            refine k_seq ?_
            refine k_region ?_
            refine s_run (w_none rfl) rfl (mv_i rfl rfl) ?_
            refine s_run (w_none rfl) rfl (d_ne rfl rfl rfl) ?_
            refine l_nil ?_
            refine k_cond rfl (fun hc96 => ?_) (fun hc96 => ?_)
            · have h5 : Rc.chk (Rc.setTx (Rc.hB b).1.1 (Tx.get (Rc.hB b).1.2).1) ≠ 0 := by simpa using hc96
              refine k_seq ?_
              refine k_region ?_
              refine s_run (w_none rfl) rfl (d_build (vs := recC Rc.zero zt) rfl (by kernel_rfl)) ?_
              refine s_run (w_none rfl) rfl (mv_i rfl rfl) ?_
              refine s_eff (e_stoK (recC Rc.zero zt) (w_none rfl) rfl rfl rfl rfl rfl ts33 (len_rec rfl rfl rfl) (rec_one rfl) H (by rw [len_rec rfl rfl rfl]; decide) (spl_all ((len_rec rfl rfl rfl).trans (len_rec rfl rfl rfl).symm)) ?_)
              clear H; intro W H
              refine s_run (w_none rfl) rfl (as_i rfl rfl) ?_
              refine l_nil ?_
              refine k_ret ?_
              repeat (first | refine r_then ?_ | refine r_blk ?_)
              have hge : Rc.get b = (Rc.zero, Rc.chk (Rc.setTx (Rc.hB b).1.1 (Tx.get (Rc.hB b).1.2).1)) := ((Rc.get_e3 he2 hkb).trans (Rc.fin_e4 h3 hte hg0)).trans (Rc.fin2_e1 h5)
              exact q_cell2 rfl (c := recC Rc.zero zt) (g := go) (v := .int .i64 (Rc.chk (Rc.setTx (Rc.hB b).1.1 (Tx.get (Rc.hB b).1.2).1))) H rfl ta33 (by rw [len_rec rfl rfl rfl]; exact ts33) rfl ⟨_, rfl, (fun _ => False), none, 0, none, 0, by rw [hge]; rfl, by rw [hge]; exact ((H.flat (R := RTx) (cs := txC none 0 0 none 0 0 0) (a := Tx.zero) (tx_zero rfl)).sub (L' := [_]) (.cons_cons _ (List.nil_sublist _)))⟩
            · have h5 : Rc.chk (Rc.setTx (Rc.hB b).1.1 (Tx.get (Rc.hB b).1.2).1) = 0 := by simpa using hc96
              refine k_skip ?_
              refine k_seq ?_
              refine k_seq ?_
              refine k_region ?_
              refine s_run (w_none rfl) rfl (mv_s rfl rfl) ?_
              refine s_run (w_none rfl) rfl (d_len rfl rfl tu37) ?_
              refine s_run (w_none rfl) rfl (d_gt rfl rfl rfl) ?_
              refine l_nil ?_
              refine k_cond rfl (fun hc101 => ?_) (fun hc101 => ?_)
              · have hlong : 400 < b.length := by simp at hc101; omega
                refine k_seq ?_
                refine k_region ?_
                refine s_run (w_none rfl) rfl (d_build (vs := recC Rc.zero zt) rfl (by kernel_rfl)) ?_
                refine s_eff (e_stoK (recC Rc.zero zt) (w_none rfl) rfl rfl rfl rfl rfl ts33 (len_rec rfl rfl rfl) (rec_one rfl) H (by rw [len_rec rfl rfl rfl]; decide) (spl_all ((len_rec rfl rfl rfl).trans (len_rec rfl rfl rfl).symm)) ?_)
                clear H; intro W H
                refine s_run (w_none rfl) rfl (as_i rfl rfl) ?_
                refine l_nil ?_
                refine k_ret ?_
                repeat (first | refine r_then ?_ | refine r_blk ?_)
                have hge : Rc.get b = (Rc.zero, 5) := ((Rc.get_e3 he2 hkb).trans (Rc.fin_e4 h3 hte hg0)).trans (Rc.fin2_e2 h5 hlong)
                exact q_cell2 rfl (c := recC Rc.zero zt) (g := go) (v := .int .i64 (5)) H rfl ta33 (by rw [len_rec rfl rfl rfl]; exact ts33) rfl ⟨_, rfl, (fun _ => False), none, 0, none, 0, by rw [hge]; rfl, by rw [hge]; exact ((H.flat (R := RTx) (cs := txC none 0 0 none 0 0 0) (a := Tx.zero) (tx_zero rfl)).sub (L' := [_]) (.cons_cons _ (List.nil_sublist _)))⟩
              · have hlong : ¬ 400 < b.length := by simp at hc101; omega
                refine k_skip ?_
                refine k_seq ?_
                refine k_region ?_
                refine s_run (w_none rfl) rfl (d_ldXM (g := rr) (off := 0) rfl H (sub_all (len_rec (r := (Rc.setTx (Rc.hB b).1.1 (Tx.get (Rc.hB b).1.2).1)) hxd hxs rfl)) (len_rec (r := (Rc.setTx (Rc.hB b).1.1 (Tx.get (Rc.hB b).1.2).1)) hxd hxs rfl) rfl rfl rfl ta33 ts33) ?_
                refine s_eff (e_stoK (recC (Rc.setTx (Rc.hB b).1.1 (Tx.get (Rc.hB b).1.2).1) (txC Ag (Tx.get (Rc.hB b).1.2).1.ins.length cg Bg (Tx.get (Rc.hB b).1.2).1.outs.length dg (Tx.get (Rc.hB b).1.2).1.lock)) (w_none rfl) rfl rfl rfl rfl rfl ts33 (len_rec hxd hxs rfl) (rec_one rfl) H (by rw [len_rec rfl rfl rfl]; decide) (spl_all ((len_rec hxd hxs rfl).trans (len_rec rfl rfl rfl).symm)) ?_)
                clear H; intro W H
                refine s_run (w_none rfl) rfl (as_i rfl rfl) ?_
                refine l_nil ?_
                refine k_ret ?_
                repeat (first | refine r_then ?_ | refine r_blk ?_)
                have hge : Rc.get b = ((Rc.setTx (Rc.hB b).1.1 (Tx.get (Rc.hB b).1.2).1), 0) := ((Rc.get_e3 he2 hkb).trans (Rc.fin_e4 h3 hte hg0)).trans (Rc.fin2_e3 h5 hlong)
                exact q_cell2 rfl (c := recC (Rc.setTx (Rc.hB b).1.1 (Tx.get (Rc.hB b).1.2).1) (txC Ag (Tx.get (Rc.hB b).1.2).1.ins.length cg Bg (Tx.get (Rc.hB b).1.2).1.outs.length dg (Tx.get (Rc.hB b).1.2).1.lock)) (g := go) (v := .int .i64 0) H rfl ta33 (by rw [len_rec (r := (Rc.setTx (Rc.hB b).1.1 (Tx.get (Rc.hB b).1.2).1)) hxd hxs rfl]; exact ts33) rfl ⟨_, rfl, Sg, Ag, cg, Bg, dg, by rw [hge]; rfl, by rw [hge]; exact (H.sub (L' := [Fact.rep RTx Sg (txC Ag (Tx.get (Rc.hB b).1.2).1.ins.length cg Bg (Tx.get (Rc.hB b).1.2).1.outs.length dg (Tx.get (Rc.hB b).1.2).1.lock) (Tx.get (Rc.hB b).1.2).1]) (by repeat (first | exact List.Sublist.refl _ | exact List.nil_sublist _ | refine List.Sublist.cons_cons _ ?_ | refine List.Sublist.cons _ ?_)))⟩
        · have hte : (Rc.hB b).1.2 = [] := by simpa using hc81
          refine k_skip ?_
          refine k_seq ?_
          refine k_region ?_
          refine s_run (w_none rfl) rfl (d_ldXM (g := rr) (off := 0) rfl H (sub_all (len_rec (r := (Rc.hB b).1.1) hxd hxs rfl)) (len_rec (r := (Rc.hB b).1.1) hxd hxs rfl) rfl rfl rfl ta33 ts33) ?_
          refine s_eff (e_call (w_none rfl) rfl rfl Tryz.func13 rfl rfl rfl (checkRR (r := (Rc.hB b).1.1) (ct := zt) (S := nT) _ hox (tx_zero hxt) (by rw [hxt]; exact ⟨by decide, by decide⟩)) ?_)
          rintro _ W ⟨rfl, hb⟩
          replace H := H.below hb
          clear hb
          refine s_run (w_none rfl) rfl (as_i rfl rfl) ?_
          refine l_nil ?_
          refine k_seq ?_
          refine k_seq ?_
          refine k_region ?_
          refine s_run (w_none rfl) rfl (mv_i rfl rfl) ?_
          refine s_run (w_none rfl) rfl (d_ne rfl rfl rfl) ?_
          refine l_nil ?_
          refine k_cond rfl (fun hc96 => ?_) (fun hc96 => ?_)
          · have h5 : Rc.chk (Rc.hB b).1.1 ≠ 0 := by simpa using hc96
            refine k_seq ?_
            refine k_region ?_
            refine s_run (w_none rfl) rfl (d_build (vs := recC Rc.zero zt) rfl (by kernel_rfl)) ?_
            refine s_run (w_none rfl) rfl (mv_i rfl rfl) ?_
            refine s_eff (e_stoK (recC Rc.zero zt) (w_none rfl) rfl rfl rfl rfl rfl ts33 (len_rec rfl rfl rfl) (rec_one rfl) H (by rw [len_rec rfl rfl rfl]; decide) (spl_all ((len_rec rfl rfl rfl).trans (len_rec rfl rfl rfl).symm)) ?_)
            clear H; intro W H
            refine s_run (w_none rfl) rfl (as_i rfl rfl) ?_
            refine l_nil ?_
            refine k_ret ?_
            repeat (first | refine r_then ?_ | refine r_blk ?_)
            have hge : Rc.get b = (Rc.zero, Rc.chk (Rc.hB b).1.1) := ((Rc.get_e3 he2 hkb).trans (Rc.fin_e2 h3 hte)).trans (Rc.fin2_e1 h5)
            exact q_cell2 rfl (c := recC Rc.zero zt) (g := go) (v := .int .i64 (Rc.chk (Rc.hB b).1.1)) H rfl ta33 (by rw [len_rec rfl rfl rfl]; exact ts33) rfl ⟨_, rfl, (fun _ => False), none, 0, none, 0, by rw [hge]; rfl, by rw [hge]; exact ((H.flat (R := RTx) (cs := txC none 0 0 none 0 0 0) (a := Tx.zero) (tx_zero rfl)).sub (L' := [_]) (.cons_cons _ (List.nil_sublist _)))⟩
          · have h5 : Rc.chk (Rc.hB b).1.1 = 0 := by simpa using hc96
            refine k_skip ?_
            refine k_seq ?_
            refine k_seq ?_
            refine k_region ?_
            refine s_run (w_none rfl) rfl (mv_s rfl rfl) ?_
            refine s_run (w_none rfl) rfl (d_len rfl rfl tu37) ?_
            refine s_run (w_none rfl) rfl (d_gt rfl rfl rfl) ?_
            refine l_nil ?_
            refine k_cond rfl (fun hc101 => ?_) (fun hc101 => ?_)
            · have hlong : 400 < b.length := by simp at hc101; omega
              refine k_seq ?_
              refine k_region ?_
              refine s_run (w_none rfl) rfl (d_build (vs := recC Rc.zero zt) rfl (by kernel_rfl)) ?_
              refine s_eff (e_stoK (recC Rc.zero zt) (w_none rfl) rfl rfl rfl rfl rfl ts33 (len_rec rfl rfl rfl) (rec_one rfl) H (by rw [len_rec rfl rfl rfl]; decide) (spl_all ((len_rec rfl rfl rfl).trans (len_rec rfl rfl rfl).symm)) ?_)
              clear H; intro W H
              refine s_run (w_none rfl) rfl (as_i rfl rfl) ?_
              refine l_nil ?_
              refine k_ret ?_
              repeat (first | refine r_then ?_ | refine r_blk ?_)
              have hge : Rc.get b = (Rc.zero, 5) := ((Rc.get_e3 he2 hkb).trans (Rc.fin_e2 h3 hte)).trans (Rc.fin2_e2 h5 hlong)
              exact q_cell2 rfl (c := recC Rc.zero zt) (g := go) (v := .int .i64 (5)) H rfl ta33 (by rw [len_rec rfl rfl rfl]; exact ts33) rfl ⟨_, rfl, (fun _ => False), none, 0, none, 0, by rw [hge]; rfl, by rw [hge]; exact ((H.flat (R := RTx) (cs := txC none 0 0 none 0 0 0) (a := Tx.zero) (tx_zero rfl)).sub (L' := [_]) (.cons_cons _ (List.nil_sublist _)))⟩
            · have hlong : ¬ 400 < b.length := by simp at hc101; omega
              refine k_skip ?_
              refine k_seq ?_
              refine k_region ?_
              refine s_run (w_none rfl) rfl (d_ldXM (g := rr) (off := 0) rfl H (sub_all (len_rec (r := (Rc.hB b).1.1) hxd hxs rfl)) (len_rec (r := (Rc.hB b).1.1) hxd hxs rfl) rfl rfl rfl ta33 ts33) ?_
              refine s_eff (e_stoK (recC (Rc.hB b).1.1 (zt)) (w_none rfl) rfl rfl rfl rfl rfl ts33 (len_rec hxd hxs rfl) (rec_one rfl) H (by rw [len_rec rfl rfl rfl]; decide) (spl_all ((len_rec hxd hxs rfl).trans (len_rec rfl rfl rfl).symm)) ?_)
              clear H; intro W H
              refine s_run (w_none rfl) rfl (as_i rfl rfl) ?_
              refine l_nil ?_
              refine k_ret ?_
              repeat (first | refine r_then ?_ | refine r_blk ?_)
              have hge : Rc.get b = ((Rc.hB b).1.1, 0) := ((Rc.get_e3 he2 hkb).trans (Rc.fin_e2 h3 hte)).trans (Rc.fin2_e3 h5 hlong)
              exact q_cell2 rfl (c := recC (Rc.hB b).1.1 (zt)) (g := go) (v := .int .i64 0) H rfl ta33 (by rw [len_rec (r := (Rc.hB b).1.1) hxd hxs rfl]; exact ts33) rfl ⟨_, rfl, (fun _ => False), none, 0, none, 0, by rw [hge]; dsimp only; rw [hxt]; rfl, by rw [hge]; dsimp only; rw [hxt]; exact ((H.flat (R := RTx) (cs := txC none 0 0 none 0 0 0) (a := Tx.zero) (tx_zero rfl)).sub (L' := [_]) (.cons_cons _ (List.nil_sublist _)))⟩
end Go.Proofs.YtfjhmecmhchbdaaGreatDoor

namespace Go.Proofs.YtfjhmecmhchbdaaGreatDoor
open Go Go.RowKit
attribute [local irreducible] wpList

attribute [local irreducible] Rc.get Rc.chk Tx.get

set_option maxHeartbeats 4000000 in
theorem recordGets {S : Nat → Prop} {v : Value} {b : List UInt8} (w : World) (hG : Gat w 0 formsC) (hb : Bs w S v b) : Calls Tryz.prog 4 [v].toArray w (Ret (Is w (.bool true))) := by
  have hb0 := hb
  obtain ⟨Ab, cb, rfl, hcb1, hcb2, _⟩ := hb.op
  refine k_enter (l := [_]) Tryz.func4 rfl rfl ?_
  have H := St.start nT w
  refine k_seq ?_
  refine k_region ?_
  refine s_run (w_none rfl) rfl (as_b rfl rfl) ?_
  refine l_nil ?_
  refine k_seq ?_
  refine k_seq ?_
  refine k_region ?_
  refine s_run (w_none rfl) rfl (mv_s rfl rfl) ?_
  refine s_run (w_none rfl) rfl (d_len rfl rfl tu37) ?_
  refine s_run (w_none rfl) rfl (d_gt rfl rfl rfl) ?_
  refine l_nil ?_
  refine k_cond rfl (fun hc11 => ?_) (fun hc11 => ?_)
  · skip
    refine k_seq ?_
    refine k_region ?_
    refine s_eff (e_call (w_none rfl) rfl rfl Tryz.func6 rfl rfl rfl (knownZ _ (H.gat hG)) ?_)
    rintro _ W ⟨rfl, hb⟩
    replace H := H.below hb
    clear hb
    refine s_run (w_none rfl) rfl (as_b rfl rfl) ?_
    refine l_nil ?_
    refine k_ret ?_
    repeat (first | refine r_then ?_ | refine r_blk ?_)
    exact q_ret (v := .bool _) rfl rfl ⟨_, rfl, rfl, H.under⟩
  · have hbl : b.length ≤ 4096 := by simp at hc11; omega
    refine k_skip ?_
    refine k_seq ?_
    refine k_region ?_
    refine s_run (w_none rfl) rfl (mv_s rfl rfl) ?_
    refine s_eff (e_call (w_none rfl) rfl rfl Tryz.func16 rfl rfl rfl (lentBytes _ _ _ (H.bs hb0) (by omega)) ?_)
    rintro _ W ⟨A1, c1, rfl, hc1, hd1, hn⟩
    replace H := H.new hn
    clear hn
    refine s_run (w_none rfl) rfl (as_s rfl rfl) ?_
    refine l_nil ?_
    refine k_seq ?_
    refine k_region ?_
    refine s_run (w_none rfl) rfl (mv_s rfl rfl) ?_
    refine s_run (w_none rfl) rfl (mv_s rfl rfl) ?_
    refine s_run (w_none rfl) rfl (d_len rfl rfl tu37) ?_
    refine s_run (w_none rfl) rfl (d_cutP rfl rfl (h := b.length) rfl (by have := hc1; rw [List.length_append] at this; omega) rfl tu37 ts5) ?_
    refine s_eff (e_call (w_none rfl) rfl rfl Tryz.func17 rfl rfl rfl (getRZ _ (lent_pre (H.rowbs (A := A1) (l := b ++ marks 5) rfl) rfl) (by omega) (H.gat hG)) ?_)
    rintro _ W ⟨Sg1, Ag1, cg1, Bg1, dg1, rfl, hn_⟩
    replace H := H.add1 hn_
    clear hn_
    refine s_run (w_none rfl) rfl (mv_t rfl rfl) ?_
    refine s_run (w_none rfl) rfl (d_ext rfl rfl rfl) ?_
    refine s_run (w_none rfl) rfl (d_ext rfl rfl rfl) ?_
    refine s_eff (e_alloc (w_none rfl) rfl rfl (recC Rc.zero zt) tz33 H ?_)
    clear H; intro g4 W H
    refine s_eff (e_stoK (recC (Rc.get b).1 (txC Ag1 (Rc.get b).1.tx.ins.length cg1 Bg1 (Rc.get b).1.tx.outs.length dg1 (Rc.get b).1.tx.lock)) (w_none rfl) rfl rfl rfl rfl rfl ts33 (len_rec' Rc.ok_get rfl) (rec_one rfl) H (by rw [len_rec rfl rfl rfl]; decide) (spl_all ((len_rec' Rc.ok_get rfl).trans (len_rec rfl rfl rfl).symm)) ?_)
    clear H; intro W H
    refine s_run (w_none rfl) rfl (as_i rfl rfl) ?_
    refine l_nil ?_
    refine k_seq ?_
    refine k_region ?_
    refine s_run (w_none rfl) rfl (mv_s rfl rfl) ?_
    refine s_eff (e_call (w_none rfl) rfl rfl Tryz.func18 rfl rfl rfl (getRR _ (H.bs hb0) (by omega)) ?_)
    rintro _ W ⟨Sg2, Ag2, cg2, Bg2, dg2, rfl, hn_⟩
    replace H := H.add1 hn_
    clear hn_
    refine s_run (w_none rfl) rfl (mv_t rfl rfl) ?_
    refine s_run (w_none rfl) rfl (d_ext rfl rfl rfl) ?_
    refine s_run (w_none rfl) rfl (d_ext rfl rfl rfl) ?_
    refine s_eff (e_alloc (w_none rfl) rfl rfl (recC Rc.zero zt) tz33 H ?_)
    clear H; intro g5 W H
    refine s_eff (e_stoK (recC (Rc.get b).1 (txC Ag2 (Rc.get b).1.tx.ins.length cg2 Bg2 (Rc.get b).1.tx.outs.length dg2 (Rc.get b).1.tx.lock)) (w_none rfl) rfl rfl rfl rfl rfl ts33 (len_rec' Rc.ok_get rfl) (rec_one rfl) H (by rw [len_rec rfl rfl rfl]; decide) (spl_all ((len_rec' Rc.ok_get rfl).trans (len_rec rfl rfl rfl).symm)) ?_)
    clear H; intro W H
    refine s_run (w_none rfl) rfl (as_i rfl rfl) ?_
    refine l_nil ?_
    refine k_seq ?_
    refine k_region ?_
    refine s_run (w_none rfl) rfl (mv_i rfl rfl) ?_
    refine s_run (w_none rfl) rfl (mv_i rfl rfl) ?_
    refine s_run (w_none rfl) rfl (d_eq rfl rfl rfl) ?_
    refine s_run (w_none rfl) rfl (mv_bx (c := true) rfl rfl (by simp)) ?_
    refine s_run (w_g rfl rfl rfl rfl) rfl (d_ldXM (g := g4) (off := 0) rfl H (sub_all (len_rec' Rc.ok_get rfl)) (len_rec' Rc.ok_get rfl) rfl rfl rfl ta33 ts33) ?_
    refine s_run (w_g rfl rfl rfl rfl) rfl (d_ldXM (g := g5) (off := 0) rfl H (sub_all (len_rec' Rc.ok_get rfl)) (len_rec' Rc.ok_get rfl) rfl rfl rfl ta33 ts33) ?_
    refine s_eff (e_call (w_g rfl rfl rfl rfl) rfl rfl Tryz.func15 rfl rfl rfl (sameRec (r := (Rc.get b).1) (u := (Rc.get b).1) _ Rc.ok_get (z_rep (eI := 56) (eO := 58) (S := Sg1) H) Rc.ok_get (H.rep1 (R := RTx) (S := Sg2) (cs := txC Ag2 (Rc.get b).1.tx.ins.length cg2 Bg2 (Rc.get b).1.tx.outs.length dg2 (Rc.get b).1.tx.lock) (a := (Rc.get b).1.tx))) ?_)
    rintro _ W ⟨rfl, hb⟩
    replace H := H.below hb
    clear hb
    refine s_run (w_none rfl) rfl (d_pickT rfl rfl rfl) ?_
    refine s_run (w_none rfl) rfl (as_b rfl rfl) ?_
    refine l_nil ?_
    refine k_seq ?_
    refine k_region ?_
    refine s_run (w_none rfl) rfl (d_fa rfl rfl tf33_6) ?_
    refine s_run (w_none rfl) rfl (d_ldXM (g := g4) (off := 77) rfl H (sub_r_tx Rc.ok_get rfl) rfl rfl rfl rfl ta31 ts31) ?_
    refine s_eff (e_call (w_none rfl) rfl rfl Tryz.func19 rfl rfl rfl (spoilTx _ (H.get (f := Fact.z 56 58 Sg1 Ag1 cg1 Bg1 dg1 (Rc.get b).1.tx)) (lt_of (f := Fact.z 56 58 Sg1 Ag1 cg1 Bg1 dg1 (Rc.get b).1.tx) H)) ?_)
    rintro _ W ⟨rfl, hf_⟩
    replace H := H.mut (f := Fact.z 56 58 Sg1 Ag1 cg1 Bg1 dg1 (Rc.get b).1.tx) (f' := Fact.gone) hf_ trivial (fun _ h => h.elim)
    clear hf_
    refine l_nil ?_
    refine k_seq ?_
    refine k_region ?_
    refine s_run (w_none rfl) rfl (mv_b rfl rfl) ?_
    refine s_run (w_none rfl) rfl (mv_bx (c := true) rfl rfl (by simp)) ?_
    refine s_run (w_g rfl rfl rfl rfl) rfl (mv_s rfl rfl) ?_
    refine s_run (w_g rfl rfl rfl rfl) rfl (mv_s rfl rfl) ?_
    refine s_eff (e_call (w_g rfl rfl rfl rfl) rfl rfl Tryz.func20 rfl rfl rfl (kept _ (H.rowbs (A := A1) (l := b ++ marks 5) rfl) (H.bs hb0) rfl (by omega)) ?_)
    rintro _ W ⟨rfl, hb⟩
    replace H := H.below hb
    clear hb
    refine s_run (w_none rfl) rfl (d_pickT rfl rfl rfl) ?_
    refine s_run (w_none rfl) rfl (mv_bx (c := true) rfl rfl (rfl)) ?_
    refine s_eff (e_call (w_g rfl rfl rfl rfl) rfl rfl Tryz.func6 rfl rfl rfl (knownZ _ (H.gat hG)) ?_)
    rintro _ W ⟨rfl, hb⟩
    replace H := H.below hb
    clear hb
    refine s_run (w_none rfl) rfl (d_pickT rfl rfl rfl) ?_
    refine s_run (w_none rfl) rfl (as_b rfl rfl) ?_
    refine l_nil ?_
    refine k_ret ?_
    repeat (first | refine r_then ?_ | refine r_blk ?_)
    exact q_ret (v := .bool _) rfl rfl ⟨_, rfl, rfl, H.under⟩
end Go.Proofs.YtfjhmecmhchbdaaGreatDoor

namespace Go.Proofs.YtfjhmecmhchbdaaGreatDoor
open Go Go.RowKit

theorem recordGets_any {S : Nat → Prop} {u : Value} {b : List UInt8} (w : World) (hG : Gat w 0 formsC) (h0 : RB w S [u] b) :
    Calls Tryz.prog 4 #[u] w (fun e w' => e = .returned (.bool true) ∧ Below w.heap.size w w') := by
  obtain ⟨v, h1, h2⟩ := h0
  cases h1
  exact Calls.mono (recordGets w hG h2) (fun e w' h => by
    obtain ⟨v, rfl, rfl, hb⟩ := h
    exact ⟨rfl, hb⟩)
end Go.Proofs.YtfjhmecmhchbdaaGreatDoor
