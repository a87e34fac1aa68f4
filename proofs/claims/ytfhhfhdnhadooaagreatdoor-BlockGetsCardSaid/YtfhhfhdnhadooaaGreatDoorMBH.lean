/- Texts of this claim, laid together: K5C. -/
import Derived.Test.YtfhhfhdnhadooaaGreatDoorMBF
import Derived.Test.YtfhhfhdnhadooaaGreatDoorMBK
import Derived.Test.YtfhhfhdnhadooaaGreatDoorMBG
set_option linter.unusedVariables false
set_option linter.unusedSimpArgs false

namespace Go.Proofs.YtfhhfhdnhadooaaGreatDoor
open Go Go.RowKit
attribute [local irreducible] wpList

theorem got_few (b : List UInt8) : (Bk.get BTG b).1.txs.length ≤ 1000000 := by
 by_cases h : (Bk.get BTG b).2 = 0
 ·obtain ⟨h1, -⟩ := Bk.get_back h
  have := (Bk.chk_of h1).2.1
  omega
 ·rw [Bk.get_zero h]; decide

set_option maxHeartbeats 4000000 in
theorem blockGetsB {S : Nat → Prop} {v : Value} {b : List UInt8} (w : World) (hG : Gat w 0 formsC) (hB : Old.Gl w) (hb : Bs w S v b) : Calls Tryz.prog 5 [v].toArray w (Ret (Is w (.bool true))) := by
 have hb0 := hb
 obtain ⟨Ab, cb, rfl, hcb1, hcb2, _⟩ := hb.op
 refine k_enter (l := [_]) Tryz.func5 rfl rfl ?_
 have H := St.start nT w
 refine k_seq (k_region (sAb rfl rfl rfl rfl (l_nil (k_seq (k_seq (k_region (sMs rfl rfl rfl rfl (sR rfl rfl (d_len rfl rfl tu41) (sR rfl rfl (d_gt rfl rfl rfl) (l_nil ?_))))))))))
 refine k_cond rfl (fun hc12 => ?_) (fun hc12 => ?_)
 ·skip
  refine k_seq (k_region (sC rfl rfl rfl Tryz.func14 rfl rfl rfl (works09 _ (H.gat hG) (H.gl hB)) ?_))
  rintro _ W ⟨rfl, hb⟩
  replace H := H.below hb
  clear hb
  refine sAb rfl rfl rfl rfl (l_nil (k_ret ?_))
  repeat (first | refine r_then ?_ | refine r_blk ?_)
  exact q_ret (v := .bool _) rfl rfl ⟨_, rfl, rfl, H.under⟩
 ·have hbl : b.length ≤ 32768 := by simp at hc12; omega
  refine k_skip (k_seq (k_region (sMs rfl rfl rfl rfl (sC rfl rfl rfl Tryz.func28 rfl rfl rfl (lentBytes _ _ _ (H.bs hb0) (by omega)) ?_))))
  rintro _ W ⟨A1, c1, rfl, hc1, hd1, hn⟩
  replace H := H.new hn
  clear hn
  refine sAs rfl rfl rfl rfl (l_nil (k_seq (k_region (sMs rfl rfl rfl rfl (sMs rfl rfl rfl rfl (sR rfl rfl (d_len rfl rfl tu41) (sR rfl rfl (d_cutP rfl rfl (h := b.length) rfl (by have := hc1; rw [List.length_append] at this; omega) rfl tu41 ts5) ?_)))))))
  refine sC rfl rfl rfl Tryz.func29 rfl rfl rfl (getBZ _ (lent_pre (H.rowbs (A := A1) (l := b ++ marks 5) rfl) rfl) (by omega) (H.gat hG) (H.gl hB)) ?_
  rintro _ W ⟨Sz, Az, cz, zl, rfl, hzt, hn_⟩
  replace H := H.add1 hn_
  clear hn_
  have hzn : zl.length = (Bk.get BTG b).1.txs.length := by rw [← hzt, List.length_map]
  refine sR rfl rfl (mv_t rfl rfl) (sR rfl rfl (d_ext rfl rfl rfl) (sR rfl rfl (d_ext rfl rfl rfl) (s_eff (e_alloc (w_none rfl) rfl rfl (blkC zHd none 0 0) tz28 H ?_))))
  clear H; intro g4 W H
  refine s_eff (e_stoK (blkC (Bk.get BTG b).1.header Az (Bk.get BTG b).1.txs.length cz) (w_none rfl) rfl rfl rfl rfl rfl ts28 (len_blk (Bk.ok_get (TG := BTG) (b := b)).1) blk_one H (by rw [len_blk zHd_ok]; decide) (spl_all ((len_blk (Bk.ok_get (TG := BTG) (b := b)).1).trans (len_blk zHd_ok).symm)) ?_)
  clear H; intro W H
  refine sAi rfl rfl rfl rfl (l_nil (k_seq (k_region (sMs rfl rfl rfl rfl (sMs rfl rfl rfl rfl (sR rfl rfl (d_len rfl rfl tu41) (sR rfl rfl (d_cutP rfl rfl (h := b.length) rfl (by have := hc1; rw [List.length_append] at this; omega) rfl tu41 ts5) ?_)))))))
  refine sC rfl rfl rfl Tryz.func29 rfl rfl rfl (getBZ _ (lent_pre (H.rowbs (A := A1) (l := b ++ marks 5) rfl) rfl) (by omega) (H.gat hG) (H.gl hB)) ?_
  rintro _ W ⟨Sy, Ay, cy, yl, rfl, hyt, hn_⟩
  replace H := H.add1 hn_
  clear hn_
  have hyn : yl.length = (Bk.get BTG b).1.txs.length := by rw [← hyt, List.length_map]
  refine sR rfl rfl (mv_t rfl rfl) (sR rfl rfl (d_ext rfl rfl rfl) (sR rfl rfl (d_ext rfl rfl rfl) (s_eff (e_alloc (w_none rfl) rfl rfl (blkC zHd none 0 0) tz28 H ?_))))
  clear H; intro g5 W H
  refine s_eff (e_stoK (blkC (Bk.get BTG b).1.header Ay (Bk.get BTG b).1.txs.length cy) (w_none rfl) rfl rfl rfl rfl rfl ts28 (len_blk (Bk.ok_get (TG := BTG) (b := b)).1) blk_one H (by rw [len_blk zHd_ok]; decide) (spl_all ((len_blk (Bk.ok_get (TG := BTG) (b := b)).1).trans (len_blk zHd_ok).symm)) ?_)
  clear H; intro W H
  refine sAi rfl rfl rfl rfl (l_nil (k_seq (k_region (sMs rfl rfl rfl rfl (sC rfl rfl rfl Tryz.func30 rfl rfl rfl (getBR _ (H.bs hb0) (by omega)) ?_)))))
  rintro _ W ⟨Sb3, Ab3, cb3, rfl, hn⟩
  replace H := H.add1 hn
  clear hn
  refine sR rfl rfl (mv_t rfl rfl) (sR rfl rfl (d_ext rfl rfl rfl) (sR rfl rfl (d_ext rfl rfl rfl) (s_eff (e_alloc (w_none rfl) rfl rfl (blkC zHd none 0 0) tz28 H ?_))))
  clear H; intro g6 W H
  refine s_eff (e_stoK (blkC (Bk.get BTG b).1.header Ab3 (Bk.get BTG b).1.txs.length cb3) (w_none rfl) rfl rfl rfl rfl rfl ts28 (len_blk (Bk.ok_get (TG := BTG) (b := b)).1) blk_one H (by rw [len_blk zHd_ok]; decide) (spl_all ((len_blk (Bk.ok_get (TG := BTG) (b := b)).1).trans (len_blk zHd_ok).symm)) ?_)
  clear H; intro W H
  refine sAi rfl rfl rfl rfl (l_nil (k_seq (k_seq (k_region (sMi rfl rfl rfl rfl (sMi rfl rfl rfl rfl (sR rfl rfl (d_ne rfl rfl rfl) (sR rfl rfl (mv_bx (c := false) rfl rfl (by simp)) ?_))))))))
  refine s_run (w_g rfl rfl rfl rfl) rfl (mv_i rfl rfl) (s_run (w_g rfl rfl rfl rfl) rfl (mv_i rfl rfl) (s_run (w_g rfl rfl rfl rfl) rfl (d_ne rfl rfl rfl) (sR rfl rfl (d_pickF rfl rfl rfl) (sR rfl rfl (mv_bx (c := false) rfl rfl (by simp)) ?_))))
  refine s_run (w_g rfl rfl rfl rfl) rfl (d_ldXM (g := g4) (off := 0) rfl H (sub_all (a := blkC (Bk.get BTG b).1.header Az (Bk.get BTG b).1.txs.length cz) (len_blk (Bk.ok_get (TG := BTG) (b := b)).1)) (len_blk (Bk.ok_get (TG := BTG) (b := b)).1) rfl rfl rfl ta28 ts28) (s_run (w_g rfl rfl rfl rfl) rfl (d_ldXM (g := g6) (off := 0) rfl H (sub_all (a := blkC (Bk.get BTG b).1.header Ab3 (Bk.get BTG b).1.txs.length cb3) (len_blk (Bk.ok_get (TG := BTG) (b := b)).1)) (len_blk (Bk.ok_get (TG := BTG) (b := b)).1) rfl rfl rfl ta28 ts28) (s_eff (e_call (w_g rfl rfl rfl rfl) rfl rfl Tryz.func25 rfl rfl rfl (sameBlock (a := (Bk.get BTG b).1) (b := (Bk.get BTG b).1) _ (zb_rl (e := 34) (eI := 64) (eO := 66) (H.get (f := Fact.zb 34 64 66 Sz Az (Bk.get BTG b).1.txs.length cz zl)) hzn hzt) (H.rep1 (R := RL 3 RTx) (S := Sb3) (cs := [.slice Ab3 (Bk.get BTG b).1.txs.length cb3]) (a := (Bk.get BTG b).1.txs)) (Bk.ok_get (TG := BTG) (b := b)).1 (Bk.ok_get (TG := BTG) (b := b)).1) ?_)))
  rintro _ W ⟨rfl, hb⟩
  replace H := H.below hb
  clear hb
  refine s_run (w_g rfl rfl rfl rfl) rfl (d_not rfl rfl) (sR rfl rfl (d_pickF rfl rfl rfl) (l_nil (k_condF rfl (by simp) ?_)))
  refine k_skip (k_seq (k_region (sR rfl rfl (d_ldXM (g := g4) (off := 0) rfl H (sub_all (a := blkC (Bk.get BTG b).1.header Az (Bk.get BTG b).1.txs.length cz) (len_blk (Bk.ok_get (TG := BTG) (b := b)).1)) (len_blk (Bk.ok_get (TG := BTG) (b := b)).1) rfl rfl rfl ta28 ts28) (sC rfl rfl rfl Tryz.func27 rfl rfl rfl (spoilBlock _ (Bk.ok_get (TG := BTG) (b := b)).1 (H.get (f := Fact.zb 34 64 66 Sz Az (Bk.get BTG b).1.txs.length cz zl)) (lt_ofB (f := Fact.zb 34 64 66 Sz Az (Bk.get BTG b).1.txs.length cz zl) H) hzn.symm (got_few b)) ?_))))
  rintro _ W ⟨rfl, hf_⟩
  replace H := H.mut (f := Fact.zb 34 64 66 Sz Az (Bk.get BTG b).1.txs.length cz zl) (f' := Fact.gone) hf_ trivial (fun _ h => h.elim)
  clear hf_
  refine l_nil (k_seq (k_region (sR rfl rfl (d_ldXM (g := g5) (off := 0) rfl H (sub_all (a := blkC (Bk.get BTG b).1.header Ay (Bk.get BTG b).1.txs.length cy) (len_blk (Bk.ok_get (TG := BTG) (b := b)).1)) (len_blk (Bk.ok_get (TG := BTG) (b := b)).1) rfl rfl rfl ta28 ts28) (sR rfl rfl (d_ldXM (g := g6) (off := 0) rfl H (sub_all (a := blkC (Bk.get BTG b).1.header Ab3 (Bk.get BTG b).1.txs.length cb3) (len_blk (Bk.ok_get (TG := BTG) (b := b)).1)) (len_blk (Bk.ok_get (TG := BTG) (b := b)).1) rfl rfl rfl ta28 ts28) (sC rfl rfl rfl Tryz.func25 rfl rfl rfl (sameBlock (a := (Bk.get BTG b).1) (b := (Bk.get BTG b).1) _ (zb_rl (e := 34) (eI := 64) (eO := 66) (H.get (f := Fact.zb 34 64 66 Sy Ay (Bk.get BTG b).1.txs.length cy yl)) hyn hyt) (H.rep1 (R := RL 3 RTx) (S := Sb3) (cs := [.slice Ab3 (Bk.get BTG b).1.txs.length cb3]) (a := (Bk.get BTG b).1.txs)) (Bk.ok_get (TG := BTG) (b := b)).1 (Bk.ok_get (TG := BTG) (b := b)).1) ?_)))))
  rintro _ W ⟨rfl, hb⟩
  replace H := H.below hb
  clear hb
  refine sR rfl rfl (mv_bx (c := true) rfl rfl (by simp)) ?_
  refine s_run (w_g rfl rfl rfl rfl) rfl (mv_s rfl rfl) (s_run (w_g rfl rfl rfl rfl) rfl (mv_s rfl rfl) (s_eff (e_call (w_g rfl rfl rfl rfl) rfl rfl Tryz.func31 rfl rfl rfl (kept _ (H.rowbs (A := A1) (l := b ++ marks 5) rfl) (H.bs hb0) rfl (by omega)) ?_)))
  rintro _ W ⟨rfl, hb⟩
  replace H := H.below hb
  clear hb
  refine sR rfl rfl (d_pickT rfl rfl rfl) (sR rfl rfl (mv_bx (c := true) rfl rfl (rfl)) (s_eff (e_call (w_g rfl rfl rfl rfl) rfl rfl Tryz.func14 rfl rfl rfl (works09 _ (H.gat hG) (H.gl hB)) ?_)))
  rintro _ W ⟨rfl, hb⟩
  replace H := H.below hb
  clear hb
  refine sR rfl rfl (d_pickT rfl rfl rfl) (sAb rfl rfl rfl rfl (l_nil (k_ret ?_)))
  repeat (first | refine r_then ?_ | refine r_blk ?_)
  exact q_ret (v := .bool _) rfl rfl ⟨_, rfl, rfl, H.under⟩
end Go.Proofs.YtfhhfhdnhadooaaGreatDoor
