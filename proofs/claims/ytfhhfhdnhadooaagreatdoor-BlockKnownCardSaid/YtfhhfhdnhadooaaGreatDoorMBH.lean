import Derived.Test.YtfhhfhdnhadooaaGreatDoorMBF
import Derived.Test.YtfhhfhdnhadooaaGreatDoorMBK
import Derived.Test.YtfhhfhdnhadooaaGreatDoorMBG
set_option linter.unusedVariables false
set_option linter.unusedSimpArgs false
set_option maxHeartbeats 4000000

namespace Go.Proofs.YtfhhfhdnhadooaaGreatDoor
open Go Go.RowKit
attribute [local irreducible] wpList

theorem got_few (b:List UInt8):(Bk.get BTG b).1.txs.length<=1000000:=by
 by_cases h:(Bk.get BTG b).2=0
 ·obtain ⟨h1,-⟩:=Bk.get_back h
  have:=(Bk.chk_of h1).2.1
  omega
 ·rw [Bk.get_zero h];decide

theorem blockGetsB {S:Nat->Prop} {v:Value} {b:List UInt8} (w:World) (hG:Gat w 0 formsC) (hB:Old.Gl w) (hb:Bs w S v b):Calls Tryz.prog 5 [v].toArray w (Ret (Is w (.bool true))):=by
 have hb0:=hb
 obtain ⟨Ab,cb,rfl,hcb1,hcb2,_⟩:=hb.op
 refine kE (l:=[_]) Tryz.func5 U U ?_
 have H:=St.start nT w
 refine kR (sAb U (ln (kQ (kR (sMs U (sLn U tu41 (sR (d_gt U U U) (ln (kC U (fun hc12=>?_) (fun hc12=>?_))))))))))
 ·skip
  refine kR (sf (eI Tryz.func14 U U (works09 _ (H.gat hG) (H.gl hB)) H ?_))
  clear H;intro W H
  refine sAb U (ln (kx ?_))
  exact qr (v:=.bool _) U U ⟨_,U,U,H.under⟩
 ·have hbl:b.length<=32768:=by simp at hc12;omega
  refine kS (kR (sMs U (sf (eN Tryz.func28 U U (lentBytes _ _ _ (H.bs hb0) (by omega)) H ?_))))
  clear H;intro A1 c1 W hc1 hd1 H
  refine sAs U (lkR (sMs U (sMs U (sLn U tu41 (sR (d_cutP U U (h:=b.length) U (by have:=hc1;rw [List.length_append] at this;omega) U tu41 ts5) ?_)))))
  refine sf (ecl Tryz.func29 U U (getBZ _ (lent_pre (H.rowbs (A:=A1) (l:=b++marks 5) U) U) (by omega) (H.gat hG) (H.gl hB)) ?_)
  rintro _ W ⟨Sz,Az,cz,zl,rfl,hzt,hn_⟩
  replace H:=H.add1 hn_
  clear hn_
  have hzn:zl.length=(Bk.get BTG b).1.txs.length:=by rw [←hzt,List.length_map]
  refine sMt U (sEx U U (sEx U U (sf (eal (bC zHd none 0 0) tz28 H ?_))))
  clear H;intro g4 W H
  refine sf (esk (bC (Bk.get BTG b).1.header Az (Bk.get BTG b).1.txs.length cz) U U U ts28 (lB (Bk.ok_get (TG:=BTG) (b:=b)).1) blk_one H (by rw [lB zHd_ok];decide) (spl_all ((lB (Bk.ok_get (TG:=BTG) (b:=b)).1).trans (lB zHd_ok).symm)) ?_)
  clear H;intro W H
  refine sAi U (lkR (sMs U (sMs U (sLn U tu41 (sR (d_cutP U U (h:=b.length) U (by have:=hc1;rw [List.length_append] at this;omega) U tu41 ts5) ?_)))))
  refine sf (ecl Tryz.func29 U U (getBZ _ (lent_pre (H.rowbs (A:=A1) (l:=b++marks 5) U) U) (by omega) (H.gat hG) (H.gl hB)) ?_)
  rintro _ W ⟨Sy,Ay,cy,yl,rfl,hyt,hn_⟩
  replace H:=H.add1 hn_
  clear hn_
  have hyn:yl.length=(Bk.get BTG b).1.txs.length:=by rw [←hyt,List.length_map]
  refine sMt U (sEx U U (sEx U U (sf (eal (bC zHd none 0 0) tz28 H ?_))))
  clear H;intro g5 W H
  refine sf (esk (bC (Bk.get BTG b).1.header Ay (Bk.get BTG b).1.txs.length cy) U U U ts28 (lB (Bk.ok_get (TG:=BTG) (b:=b)).1) blk_one H (by rw [lB zHd_ok];decide) (spl_all ((lB (Bk.ok_get (TG:=BTG) (b:=b)).1).trans (lB zHd_ok).symm)) ?_)
  clear H;intro W H
  refine sAi U (lkR (sMs U (sf (ecl Tryz.func30 U U (getBR _ (H.bs hb0) (by omega)) ?_))))
  rintro _ W ⟨Sb3,Ab3,cb3,rfl,hn⟩
  replace H:=H.add1 hn
  clear hn
  refine sMt U (sEx U U (sEx U U (sf (eal (bC zHd none 0 0) tz28 H ?_))))
  clear H;intro g6 W H
  refine sf (esk (bC (Bk.get BTG b).1.header Ab3 (Bk.get BTG b).1.txs.length cb3) U U U ts28 (lB (Bk.ok_get (TG:=BTG) (b:=b)).1) blk_one H (by rw [lB zHd_ok];decide) (spl_all ((lB (Bk.ok_get (TG:=BTG) (b:=b)).1).trans (lB zHd_ok).symm)) ?_)
  clear H;intro W H
  refine sAi U (ln (kQ (kR (sMi U (sMi U (sNe U U (sBf U (by simp) (sr (w_g U U U U) U (mv_i U U) (sr (w_g U U U U) U (mv_i U U) (sr (w_g U U U U) U (d_ne U U U) (sPF U U (sBf U (by simp) ?_))))))))))))
  refine sr (w_g U U U U) U (dM (g:=g4) (off:=0) U H (sa (a:=bC (Bk.get BTG b).1.header Az (Bk.get BTG b).1.txs.length cz) (lB (Bk.ok_get (TG:=BTG) (b:=b)).1)) (lB (Bk.ok_get (TG:=BTG) (b:=b)).1) U U U ta28 ts28) (sr (w_g U U U U) U (dM (g:=g6) (off:=0) U H (sa (a:=bC (Bk.get BTG b).1.header Ab3 (Bk.get BTG b).1.txs.length cb3) (lB (Bk.ok_get (TG:=BTG) (b:=b)).1)) (lB (Bk.ok_get (TG:=BTG) (b:=b)).1) U U U ta28 ts28) (sf (e_call (w_g U U U U) U U Tryz.func25 U U U (sameBlock (a:=(Bk.get BTG b).1) (b:=(Bk.get BTG b).1) _ (zb_rl (e:=34) (eI:=64) (eO:=66) (H.get (f:=Fact.zb 34 64 66 Sz Az (Bk.get BTG b).1.txs.length cz zl)) hzn hzt) (H.rep1 (R:=RL 3 RTx) (S:=Sb3) (cs:=[.slice Ab3 (Bk.get BTG b).1.txs.length cb3]) (a:=(Bk.get BTG b).1.txs)) (Bk.ok_get (TG:=BTG) (b:=b)).1 (Bk.ok_get (TG:=BTG) (b:=b)).1) ?_)))
  rintro _ W ⟨rfl,hb⟩
  replace H:=H.below hb
  clear hb
  refine sr (w_g U U U U) U (d_not U U) (sPF U U (ln (kF U (by simp) (kS (kR (sR (dM (g:=g4) (off:=0) U H (sa (a:=bC (Bk.get BTG b).1.header Az (Bk.get BTG b).1.txs.length cz) (lB (Bk.ok_get (TG:=BTG) (b:=b)).1)) (lB (Bk.ok_get (TG:=BTG) (b:=b)).1) U U U ta28 ts28) (sf (ecl Tryz.func27 U U (spoilBlock _ (Bk.ok_get (TG:=BTG) (b:=b)).1 (H.get (f:=Fact.zb 34 64 66 Sz Az (Bk.get BTG b).1.txs.length cz zl)) (lt_ofB (f:=Fact.zb 34 64 66 Sz Az (Bk.get BTG b).1.txs.length cz zl) H) hzn.symm (got_few b)) ?_))))))))
  rintro _ W ⟨rfl,hf_⟩
  replace H:=H.mut (f:=Fact.zb 34 64 66 Sz Az (Bk.get BTG b).1.txs.length cz zl) (f':=Fact.gone) hf_ trivial (fun _ h=>h.elim)
  clear hf_
  refine lkR (sR (dM (g:=g5) (off:=0) U H (sa (a:=bC (Bk.get BTG b).1.header Ay (Bk.get BTG b).1.txs.length cy) (lB (Bk.ok_get (TG:=BTG) (b:=b)).1)) (lB (Bk.ok_get (TG:=BTG) (b:=b)).1) U U U ta28 ts28) (sR (dM (g:=g6) (off:=0) U H (sa (a:=bC (Bk.get BTG b).1.header Ab3 (Bk.get BTG b).1.txs.length cb3) (lB (Bk.ok_get (TG:=BTG) (b:=b)).1)) (lB (Bk.ok_get (TG:=BTG) (b:=b)).1) U U U ta28 ts28) (sf (eI Tryz.func25 U U (sameBlock (a:=(Bk.get BTG b).1) (b:=(Bk.get BTG b).1) _ (zb_rl (e:=34) (eI:=64) (eO:=66) (H.get (f:=Fact.zb 34 64 66 Sy Ay (Bk.get BTG b).1.txs.length cy yl)) hyn hyt) (H.rep1 (R:=RL 3 RTx) (S:=Sb3) (cs:=[.slice Ab3 (Bk.get BTG b).1.txs.length cb3]) (a:=(Bk.get BTG b).1.txs)) (Bk.ok_get (TG:=BTG) (b:=b)).1 (Bk.ok_get (TG:=BTG) (b:=b)).1) H ?_))))
  clear H;intro W H
  refine sBt U (by simp) (sr (w_g U U U U) U (mv_s U U) (sr (w_g U U U U) U (mv_s U U) (sf (e_call (w_g U U U U) U U Tryz.func31 U U U (kept _ (H.rowbs (A:=A1) (l:=b++marks 5) U) (H.bs hb0) U (by omega)) ?_))))
  rintro _ W ⟨rfl,hb⟩
  replace H:=H.below hb
  clear hb
  refine sPT U U (sBt U (U) (sf (e_call (w_g U U U U) U U Tryz.func14 U U U (works09 _ (H.gat hG) (H.gl hB)) ?_)))
  rintro _ W ⟨rfl,hb⟩
  replace H:=H.below hb
  clear hb
  refine sPT U U (sAb U (ln (kx ?_)))
  exact qr (v:=.bool _) U U ⟨_,U,U,H.under⟩
end Go.Proofs.YtfhhfhdnhadooaaGreatDoor
