import Derived.Test.YtjjodibkmeefpaaGreatDoorMWH
import Derived.Test.YtjjodibkmeefpaaGreatDoorMBG
import Derived.Test.YtjjodibkmeefpaaGreatDoorMSP
import Derived.Test.YtjjodibkmeefpaaGreatDoorMB
import Derived.Test.YtjjodibkmeefpaaGreatDoorMWG
set_option linter.unusedVariables false
set_option linter.unusedSimpArgs false
set_option maxHeartbeats 4000000

namespace Go.Proofs.YtjjodibkmeefpaaGreatDoor
open Go Go.RowKit
attribute [local irreducible] wpList

theorem sameHitsP {S S1:Nat->Prop} {A B:Option Addr} {c d:Nat} {l:List WHit} (w:World) (hl:RL 36 RHt w S [.slice A l.length c] l) (hr0:RL 36 RHt w S1 [.slice B l.length d] l):Calls Tryz.prog 11 [.slice A l.length c,.slice B l.length d].toArray w (Ret (Is w (.bool true))):=by
 have hll:=rl_len hl
 obtain ⟨A_,c_,xs,hv_,-,-,hr1,hel⟩:=hl
 cases hv_
 obtain ⟨A_,c_,ys,hv_,-,-,hr2,hes⟩:=hr0
 cases hv_
 refine kE (l:=[_,_]) Tryz.func11 U U ?_
 have H:=St.start nT w
 refine kR (sAb U (ln (kQ (kR (sMs U (sLn U tu34 (sMs U (sLn U tu36 (sNe U U (ln (kF U (by simp) (kS ?_))))))))))))
 refine kQ (kR (sAi U (ln (kb (kL 11 [4,5] (fun mm sl W=>∃i:Nat,l.length - i=mm∧sl=[(5,.int .i64 (i:Int))]∧(i<=l.length)∧St nT w W []) _ _ ⟨0,U,U,Nat.zero_le _,H⟩ ⟨U,trivial⟩ (fun mm sl ρv W hJ=>?_))))))
 clear H;obtain ⟨i,rfl,rfl,hi,H⟩:=hJ
 refine ko (kQ (kR (sMi U (sMs U (sLn U tu34 (sLt U U (ln (kC U (fun hc14=>?_) (fun hc14=>?_)))))))))
 ·have hlt:i<l.length:=by simp at hc14;omega
  obtain ⟨g0,o0,rfl,-⟩:=hr1.2 (by omega)
  obtain ⟨g1,o1,rfl,-⟩:=hr2.2 (by omega)
  obtain ⟨y,hy⟩:=get_lt hlt
  obtain ⟨Ay,cy,hL,hok,hBy⟩:=hel i y hy
  obtain ⟨Az,cz,hL2,hok2,hBz⟩:=hes i y hy
  refine kS (kQ (kb (kQ (k_draw [(0,true),(1,true),(2,true),(3,true),(4,true),(5,true),(6,true),(7,true),(8,true),(9,true),(10,true),(11,true),(12,true),(13,true),(14,true),(15,true),(16,true),(17,true),(18,true),(19,true),(20,true),(21,true),(22,true),(23,true),(24,true),(25,true),(26,true),(27,true),(28,true),(29,true),(30,true),(31,true),(32,true),(33,true),(34,true),(35,true),(36,true),(37,true),(38,true),(39,true),(40,true),(41,true),(42,true),(43,true),(44,true),(45,true),(46,true),(47,true),(48,true),(49,true),(50,true),(51,true),(52,false),(53,true),(54,true)] _ (by kernel_rfl) (by kernel_rfl) H (.refl _) ?_))))
  clear H;intro W H
  refine cMs U U (cMi U U (cR U (fun W H=>dG U (H.rd hr1) U U (q:=i) U hlt tu34 ts43) (cFa U U tf43_0 (cR U (fun W H=>dN (off:=0) U (H.rd hr1) hlt hL (sub_hit_p hok) U U (by omega) ta27 ts27) (cMs U U (cMi U U (cR U (fun W H=>dG U (H.rd hr2) U U (q:=i) U hlt tu36 ts83) (cFa U U tf83_0 (cR U (fun W H=>dN (off:=0) U (H.rd hr2) hlt hL2 (sub_hit_p hok2) U U (by omega) ta27 ts27) (cR U (fun W H=>d_nest (r:=beqPoint y.point y.point) U U U (eq_Point (d:=9997) (point_rep (W:=w) (S:=nT) hok.1 hok.2.1) (point_rep (W:=w) (S:=nT) hok.1 hok.2.1)) (by kernel_rfl)) ?_))))))))))
  refine cR U (fun W H=>mv_bx (c:=false) U U (by rw [beqPoint_iff.2 U];rfl)) ?_
  refine c_run U (w_g U U U U) U (fun W H=>mv_s U U) (c_run U (w_g U U U U) U (fun W H=>mv_i U U) (c_run U (w_g U U U U) U (fun W H=>dG U (H.rd hr1) U U (q:=i) U hlt tu34 ts43) (c_run U (w_g U U U U) U (fun W H=>dF U U tf43_1) (c_run U (w_g U U U U) U (fun W H=>dF U U tf41_0) (c_run U (w_g U U U U) U (fun W H=>dE (off:=33) U (H.rd hr1) hlt hL (sub_hit_v hok) U U (by omega) ta3) (c_run U (w_g U U U U) U (fun W H=>mv_s U U) (c_run U (w_g U U U U) U (fun W H=>mv_i U U) (c_run U (w_g U U U U) U (fun W H=>dG U (H.rd hr2) U U (q:=i) U hlt tu36 ts83) (c_run U (w_g U U U U) U (fun W H=>dF U U tf83_1) (c_run U (w_g U U U U) U (fun W H=>dF U U tf41_0) (c_run U (w_g U U U U) U (fun W H=>dE (off:=33) U (H.rd hr2) hlt hL2 (sub_hit_v hok2) U U (by omega) ta3) (c_run U (w_g U U U U) U (fun W H=>d_ne U U U) ?_))))))))))))
  refine cR U (fun W H=>d_pickF U U U) (cR U (fun W H=>mv_bx (c:=false) U U (by simp)) (c_run U (w_g U U U U) U (fun W H=>mv_s U U) (c_run U (w_g U U U U) U (fun W H=>mv_i U U) (c_run U (w_g U U U U) U (fun W H=>dG U (H.rd hr1) U U (q:=i) U hlt tu34 ts43) (c_run U (w_g U U U U) U (fun W H=>dF U U tf43_2) (c_run U (w_g U U U U) U (fun W H=>dE (off:=35) U (H.rd hr1) hlt hL (sub_hit_d hok) U U (by omega) ta3) (c_run U (w_g U U U U) U (fun W H=>mv_s U U) (c_run U (w_g U U U U) U (fun W H=>mv_i U U) (c_run U (w_g U U U U) U (fun W H=>dG U (H.rd hr2) U U (q:=i) U hlt tu36 ts83) (c_run U (w_g U U U U) U (fun W H=>dF U U tf83_2) (c_run U (w_g U U U U) U (fun W H=>dE (off:=35) U (H.rd hr2) hlt hL2 (sub_hit_d hok2) U U (by omega) ta3) (c_run U (w_g U U U U) U (fun W H=>d_ne U U U) ?_))))))))))))
  refine cR U (fun W H=>d_pickF U U U) (cR U (fun W H=>mv_bx (c:=false) U U (by simp)) (c_run U (w_g U U U U) U (fun W H=>mv_s U U) (c_run U (w_g U U U U) U (fun W H=>mv_i U U) (c_run U (w_g U U U U) U (fun W H=>dG U (H.rd hr1) U U (q:=i) U hlt tu34 ts43) (c_run U (w_g U U U U) U (fun W H=>dF U U tf43_1) (c_run U (w_g U U U U) U (fun W H=>dF U U tf41_1) (c_run U (w_g U U U U) U (fun W H=>dE (off:=34) U (H.rd hr1) hlt hL (sub_hit_s hok) U U (by omega) ta23) (c_run U (w_g U U U U) U (fun W H=>mv_s U U) (c_run U (w_g U U U U) U (fun W H=>mv_i U U) (c_run U (w_g U U U U) U (fun W H=>dG U (H.rd hr2) U U (q:=i) U hlt tu36 ts83) (c_run U (w_g U U U U) U (fun W H=>dF U U tf83_1) (c_run U (w_g U U U U) U (fun W H=>dF U U tf41_1) ?_))))))))))))
  refine c_run U (w_g U U U U) U (fun W H=>dE (off:=34) U (H.rd hr2) hlt hL2 (sub_hit_s hok2) U U (by omega) ta23) (cf U (e_call (w_g U U U U) U U Tryz.func35 U U U (sameBytes _ _ y.out.script y.out.script _ (H.bs hBy) (H.bs hBz)) ?_))
  rintro _ W ⟨rfl,hb⟩
  replace H:=H.below hb
  clear hb
  refine ⟨H.sb,?_⟩
  refine c_run U (w_g U U U U) U (fun W H=>d_not U U) (cR U (fun W H=>d_pickF U U U) (c_nil (kF U (by simp) (kS (kn (zE (kI U U U (by omega) U (kn (kY ?_)))))))))
  refine ⟨_,_,_,?_,U,?_,?_,⟨i+1,U,U,by omega,H⟩⟩
  ·omega
  ·with_reducible repeat first|exact .refl|refine .f ?_ ?_ ?_;kernel_rfl;kernel_rfl|refine .u ?_ ?_;kernel_rfl
  ·refine ⟨?_,trivial⟩
   ·exact vi (by omega)
 ·skip
  refine ke (xQ (xQ ?_))
  refine xH (kR (sAb U (ln (kx ?_))))
  exact qr (v:=.bool _) U U ⟨_,U,vb (U),H.under⟩

theorem sameTxs {S S1:Nat->Prop} {v u:Value} {l r:List DTx} (w:World) (hl:RL 3 RTx w S [v] l) (hr:RL 3 RTx w S1 [u] r):Calls Tryz.prog 61 [v,u].toArray w (Ret (Is w (.bool (decide (l=r))))):=by
 have hll:=rl_len hl
 obtain ⟨A,c,xs,hv_,hcA_,hcmA_,hr1,hel⟩:=hl
 obtain rfl:v=.slice A l.length c:=by cases hv_;rfl
 obtain ⟨B,d,ys,hv_,hcB_,hcmB_,hr,hes⟩:=hr
 obtain rfl:u=.slice B r.length d:=by cases hv_;rfl
 refine kE (l:=[_,_]) Tryz.func61 U U ?_
 have H:=St.start nT w
 refine kR (sAb U (ln (kQ (kR (sMs U (sLn U tu74 (sMs U (sLn U tu74 (sNe U U (ln (kC U (fun hc10=>?_) (fun hc10=>?_))))))))))))
 ·have hc10:¬l.length=r.length:=by simp at hc10;omega
  refine kR (sAb U (ln (kx ?_)))
  exact qr (v:=.bool _) U U ⟨_,U,vb (decide_eq_false (fun e=>by rw [e] at hc10;exact hc10 U)).symm,H.under⟩
 ·have hc10:l.length=r.length:=by simp at hc10;omega
  refine kS (kQ (kR (sAi U (ln (kb (kL 11 [4,5] (fun mm sl W=>∃i:Nat,l.length - i=mm∧sl=[(5,.int .i64 (i:Int))]∧(i<=l.length)∧(l.take i=r.take i)∧St nT w W []) _ _ ⟨0,U,U,Nat.zero_le _,U,H⟩ ⟨U,trivial⟩ (fun mm sl ρv W hJ=>?_)))))))
  clear H;obtain ⟨i,rfl,rfl,hi,ht,H⟩:=hJ
  refine ko (kQ (kR (sMi U (sMs U (sLn U tu74 (sLt U U (ln (kC U (fun hc14=>?_) (fun hc14=>?_)))))))))
  ·replace hc14:=of_decide_eq_true hc14
   have hlt:i<l.length:=by omega
   have hlt2:i<r.length:=by omega
   obtain ⟨g0,o0,rfl,-⟩:=hr1.2 (by omega)
   obtain ⟨x,hx⟩:=get_lt hlt
   have hX:=hel i x hx
   obtain ⟨Ai,ci,Bi,di,hL,-,-,-⟩:=tx_of hX
   rw [hL] at hX
   obtain ⟨g1,o1,rfl,-⟩:=hr.2 (by omega)
   obtain ⟨y,hy⟩:=get_lt hlt2
   have hY:=hes i y hy
   obtain ⟨Aj,cj,Bj,dj,hL2,-,-,-⟩:=tx_of hY
   rw [hL2] at hY
   refine kS (kQ (kb (kQ (k_draw [(0,true),(1,true),(2,true),(3,true),(4,true),(5,true),(6,true),(7,true),(8,false),(9,true)] _ (by kernel_rfl) (by kernel_rfl) H (.refl _) ?_))))
   clear H;intro W H
   refine cMs U U (cMi U U (cR U (fun W H=>dG U (H.rd hr1) U U (q:=i) U hlt tu74 ts47) (cR U (fun W H=>dN (off:=0) U (H.rd hr1) hlt hL (sa (a:=txC Ai x.ins.length ci Bi x.outs.length di x.lock) (m:=3) U) U U (by omega) ta47 ts47) (cMs U U (cMi U U (cR U (fun W H=>dG U (H.rd hr) U U (q:=i) U hlt2 tu74 ts47) (cR U (fun W H=>dN (off:=0) U (H.rd hr) hlt2 hL2 (sa (a:=txC Aj y.ins.length cj Bj y.outs.length dj y.lock) (m:=3) U) U U (by omega) ta47 ts47) (cf U (eI Tryz.func15 U U (sameTx _ (keeps_Tx _ _ _ _ _ hX (fun g hg _=>H.fr.block g hg (fun h=>h))) (keeps_Tx _ _ _ _ _ hY (fun g hg _=>H.fr.block g hg (fun h=>h)))) H ?_)))))))))
   clear H;intro W H
   refine ⟨H.sb,?_⟩
   refine cR U (fun W H=>d_not U U) (c_nil (kC U (fun hc26=>?_) (fun hc26=>?_)))
   ·replace hc26:¬x=y:=by simpa using hc26
    refine kR (sAb U (ln (kx ?_)))
    exact qr (v:=.bool _) U U ⟨_,U,vb (decide_eq_false (ne_at hx hy hc26)).symm,H.under⟩
   ·replace hc26:x=y:=by simpa using hc26
    refine kS (kn (zE (kI U U U (by omega) U (kn (kY ?_)))))
    refine ⟨_,_,_,?_,U,?_,?_,⟨i+1,U,U,by omega,take_eq_step ht hx (hc26 ▸ hy),H⟩⟩
    ·omega
    ·with_reducible repeat first|exact .refl|refine .f ?_ ?_ ?_;kernel_rfl;kernel_rfl|refine .u ?_ ?_;kernel_rfl
    ·refine ⟨?_,trivial⟩
     ·exact vi (by omega)
  ·replace hc14:=of_decide_eq_false hc14
   refine ke (xQ (xQ ?_))
   refine xH (kR (sAb U (ln (kx ?_))))
   obtain rfl:i=l.length:=by omega
   exact qr (v:=.bool _) U U ⟨_,U,vb (decide_eq_true (all_take (by omega) ht)).symm,H.under⟩

theorem sameBlock {S S1:Nat->Prop} {A B:Option Addr} {c d:Nat} {a b:DBlock} (w:World) (hl:RL 3 RTx w S [.slice A a.txs.length c] a.txs) (hr:RL 3 RTx w S1 [.slice B b.txs.length d] b.txs) (hh:Bk.OkH a.header) (hk:Bk.OkH b.header):Calls Tryz.prog 47 [.agg (bC a.header A a.txs.length c).toArray,.agg (bC b.header B b.txs.length d).toArray].toArray w (Ret (Is w (.bool (decide (a=b))))):=by
 refine kE (l:=[_,_]) Tryz.func47 U U ?_
 have H:=St.start nT w
 refine kR (sf (ebx (vs:=(bC a.header A a.txs.length c)) U U H ?_))
 clear H;intro ga W H
 refine sf (ebx (vs:=(bC b.header B b.txs.length d)) U U H ?_)
 clear H;intro gb W H
 refine sAb U (ln (kQ ?_))
 rcases hb1:beqHeader a.header b.header with _|_
 ·skip
  refine kr (sFa U tf76_0 (sR (dM (g:=ga) (off:=0) U H (sub_b_hdr hh) (len_hdr hh) U U U ta73 ts73) (sFa U tf76_0 (sR (dM (g:=gb) (off:=0) U H (sub_b_hdr hk) (len_hdr hk) U U U ta73 ts73) (sR (d_eqst (r:=beqHeader a.header b.header) U U U (eq_Header (d:=9997) (hdr_rep (W:=w) (S:=nT) hh) (hdr_rep (W:=w) (S:=nT) hk)) (by kernel_rfl)) ?_)))))
  refine sBf U (by rw [hb1]) ?_
  refine sK (wO U U U U U) U (sK (wO U U U U U) U (sK (wO U U U U U) U (sK (wO U U U U U) U (sK (wO U U U U U) U (sPF U U (sAb U (ln (kx ?_))))))))
  exact qr (v:=.bool _) U U ⟨_,U,vb ((decide_eq_false (fun e=>by rw [e,beqHeader_iff.2 U] at hb1;cases hb1)).symm),H.under⟩
 ·skip
  refine kr (sFa U tf76_0 (sR (dM (g:=ga) (off:=0) U H (sub_b_hdr hh) (len_hdr hh) U U U ta73 ts73) (sFa U tf76_0 (sR (dM (g:=gb) (off:=0) U H (sub_b_hdr hk) (len_hdr hk) U U U ta73 ts73) (sR (d_eqst (r:=beqHeader a.header b.header) U U U (eq_Header (d:=9997) (hdr_rep (W:=w) (S:=nT) hh) (hdr_rep (W:=w) (S:=nT) hk)) (by kernel_rfl)) ?_)))))
  refine sBt U (by rw [hb1]) ?_
  refine sr (w_g U U U U) U (dF U U tf76_1) (sr (w_g U U U U) U (dX (g:=ga) (off:=65) U H (sub_b_txs hh) U U ta74) (sr (w_g U U U U) U (dF U U tf76_1) (sr (w_g U U U U) U (dX (g:=gb) (off:=65) U H (sub_b_txs hk) U U ta74) (sf (e_call (w_g U U U U) U U Tryz.func61 U U U (sameTxs _ (keeps_L keeps_Tx _ _ _ _ _ hl (fun g hg _=>H.fr.block g hg (fun h=>h))) (keeps_L keeps_Tx _ _ _ _ _ hr (fun g hg _=>H.fr.block g hg (fun h=>h)))) ?_)))))
  rintro _ W ⟨rfl,hb⟩
  replace H:=H.below hb
  clear hb
  refine sPT U U (sAb U (ln (kx ?_)))
  exact qr (v:=.bool _) U U ⟨_,U,vb (by
   have h1:=beqHeader_iff.1 hb1
   cases a;cases b
   simp_all),H.under⟩

theorem sameBlocksP {S S1:Nat->Prop} {A B:Option Addr} {c d:Nat} {l:List DBlock} (w:World) (hl:RL 66 RBlock w S [.slice A l.length c] l) (hr0:RL 66 RBlock w S1 [.slice B l.length d] l):Calls Tryz.prog 21 [.slice A l.length c,.slice B l.length d].toArray w (Ret (Is w (.bool true))):=by
 have hll:=rl_len hl
 obtain ⟨A_,c_,xs,hv_,-,-,hr1,hel⟩:=hl
 cases hv_
 obtain ⟨A_,c_,ys,hv_,-,-,hr2,hes⟩:=hr0
 cases hv_
 refine kE (l:=[_,_]) Tryz.func21 U U ?_
 have H:=St.start nT w
 refine kR (sAb U (ln (kQ (kR (sMs U (sLn U tu22 (sMs U (sLn U tu22 (sNe U U (ln (kF U (by simp) (kS ?_))))))))))))
 refine kQ (kR (sAi U (ln (kb (kL 11 [4,5] (fun mm sl W=>∃i:Nat,l.length - i=mm∧sl=[(5,.int .i64 (i:Int))]∧(i<=l.length)∧St nT w W []) _ _ ⟨0,U,U,Nat.zero_le _,H⟩ ⟨U,trivial⟩ (fun mm sl ρv W hJ=>?_))))))
 clear H;obtain ⟨i,rfl,rfl,hi,H⟩:=hJ
 refine ko (kQ (kR (sMi U (sMs U (sLn U tu22 (sLt U U (ln (kC U (fun hc14=>?_) (fun hc14=>?_)))))))))
 ·have hlt:i<l.length:=by simp at hc14;omega
  obtain ⟨g0,o0,rfl,-⟩:=hr1.2 (by omega)
  obtain ⟨g1,o1,rfl,-⟩:=hr2.2 (by omega)
  obtain ⟨b,hib⟩:=get_lt hlt
  obtain ⟨Ab,cb,hL,hTx,hh⟩:=blk_of (hel i b hib)
  obtain ⟨Ac,cc,hL2,hTy,hk⟩:=blk_of (hes i b hib)
  refine kS (kQ (kb (kQ (k_draw [(0,true),(1,true),(2,true),(3,true),(4,true),(5,true),(6,true),(7,true),(8,false),(9,true)] _ (by kernel_rfl) (by kernel_rfl) H (.refl _) ?_))))
  clear H;intro W H
  refine cMs U U (cMi U U (cR U (fun W H=>dG U (H.rd hr1) U U (q:=i) U hlt tu22 ts76) (cR U (fun W H=>dN (off:=0) U (H.rd hr1) hlt hL (sa (lB hh)) U U (by omega) ta76 ts76) (cMs U U (cMi U U (cR U (fun W H=>dG U (H.rd hr2) U U (q:=i) U hlt tu22 ts76) (cR U (fun W H=>dN (off:=0) U (H.rd hr2) hlt hL2 (sa (lB hk)) U U (by omega) ta76 ts76) (cf U (eI Tryz.func47 U U (sameBlock _ (keeps_L keeps_Tx _ _ _ _ _ hTx (fun g hg _=>H.fr.block g hg (fun h=>h))) (keeps_L keeps_Tx _ _ _ _ _ hTy (fun g hg _=>H.fr.block g hg (fun h=>h))) hh hk) H ?_)))))))))
  clear H;intro W H
  refine ⟨H.sb,?_⟩
  refine cR U (fun W H=>d_not U U) (c_nil (kF U (by simp) (kS (kn (zE (kI U U U (by omega) U (kn (kY ?_))))))))
  refine ⟨_,_,_,?_,U,?_,?_,⟨i+1,U,U,by omega,H⟩⟩
  ·omega
  ·with_reducible repeat first|exact .refl|refine .f ?_ ?_ ?_;kernel_rfl;kernel_rfl|refine .u ?_ ?_;kernel_rfl
  ·refine ⟨?_,trivial⟩
   ·exact vi (by omega)
 ·skip
  refine ke (xQ (xQ ?_))
  refine xH (kR (sAb U (ln (kx ?_))))
  exact qr (v:=.bool _) U U ⟨_,U,vb (U),H.under⟩

theorem rl_path {W:World} {S3:Nat->Prop} {A:Option Addr} {c:Nat} {zs:List Value} {p:List DBlock} (hr:W.ownsRow 0 76 66 (.slice A p.length c) p.length zs) (he:zs.length=p.length*66∧∀(i:Nat) (x:DBlock),p[i]?=some x->RBlock W S3 (sub zs (i*66) 66) x) (hc:p.length<=c∧c<=9223372036854775807):RL 66 RBlock W (0<=·) [.slice A p.length c] p :=
 ⟨A,c,zs,rfl,hc.1,hc.2,(Rd.of_own hr).swap (fun _ _ _=>Nat.zero_le _),fun i x hx=>mono_Block _ _ _ _ _ (he.2 i x hx) (fun _ _ _=>Nat.zero_le _)⟩
theorem bs_head {W:World} {S:Nat->Prop} {A:Option Addr} {c:Nat} {l r:List UInt8} (h:Bs W S (.slice A (l++r).length c) (l++r)):Bs W S (.slice A l.length c) l:=by
 have:=h.pre (h:=l.length) rfl (by rw [List.length_append];omega)
 rwa [List.take_left] at this
theorem SpO.eq {p:List DBlock} {pt:DPoint} {z y:SpO} (h:z.Is p pt) (k:y.Is p pt):z.t=y.t∧z.n=y.n∧z.k=y.k:=by
 unfold SpO.Is at h k
 cases e:Wt.spent p pt with
 | none=>rw [e] at h k;exact ⟨h.1.trans k.1.symm,h.2.1.trans k.2.1.symm,h.2.2.trans k.2.2.symm⟩
 | some x=>rw [e] at h k;exact ⟨h.1.trans k.1.symm,h.2.1.trans k.2.1.symm,h.2.2.trans k.2.2.symm⟩
theorem hits_sp {W:World} {xs:List Value} {l:List WHit} (h:Hits xs l W) (hl:∀y∈l,y.out.script.length<=1000000000000):∃KB,Sp (named xs) KB (fun _ _=>False) W∧∀(i:Nat) (y:WHit),l[i]?=some y->∃A c,sub xs (i*36) 36=hitC y A y.out.script.length c∧OkHit y∧InB KB (.slice A y.out.script.length c):=by
 refine ⟨fun g j=>∃i y c,l[i]?=some y∧sub xs (i*36) 36=hitC y (some ⟨g,0,none⟩) y.out.script.length c∧j<y.out.script.length,⟨fun g hg=>(h.2.2 g hg).lt,fun g j hj=>?_,fun g j hj=>hj.elim⟩,fun i y hy=>?_⟩
 ·obtain ⟨i,y,c,hy,hs,hjl⟩:=hj
  obtain ⟨A',c',e,ho,hw⟩:=h.2.1 i y hy
  have e2:sub (hitC y (some ⟨g,0,none⟩) y.out.script.length c) 34 1=sub (hitC y A' y.out.script.length c') 34 1:=by rw [←hs,←e]
  rw [sub_hit_s ho,sub_hit_s ho] at e2
  cases e2
  refine ⟨named_sub (a:=i*36) (n:=36) (by rw [e];exact named_hit.2 U),?_⟩
  rcases hw.2 with ⟨h3,_⟩|⟨g',cap,cur,hv,_,hh,h3,h4,h5,h6⟩
  ·cases h3
  ·cases hv
   have hx:(y.out.script.map u8v)[j]?=some (u8v (y.out.script[j]'hjl)):=by rw [List.getElem?_map,List.getElem?_eq_getElem hjl];rfl
   refine ⟨((y.out.script[j]'hjl).toNat:Int),cur.toList,_,by simpa using hh,?_⟩
   rw [←h6,List.getElem?_take_of_lt (by omega)] at hx
   exact hx
 ·obtain ⟨A,c,e,ho,hw⟩:=h.2.1 i y hy
  refine ⟨A,c,e,ho,A,_,c,U,hl y (List.mem_of_getElem? hy),fun h0=>?_⟩
  obtain ⟨g,rfl⟩:=row_own hw h0
  exact ⟨g,0,U,fun j hj=>⟨i,y,c,hy,e,by omega⟩⟩
attribute [local irreducible] Tx.dig Old.Bl.sum

theorem watchShowsB {S S3':Nat->Prop} {B As:Option Addr} {c cs:Nat} {p:List DBlock} (w:World) (hl:RL 66 RBlock w S [.slice B p.length c] p) (hG:Gat w 2 formsC) (hB:Old.Gl w) (hsz:∀b∈p,∀t∈b.txs,Tx.Szd t) {s:List UInt8} (hs:Bs w S3' (.slice As s.length cs) s) {pt:DPoint} (hp:pt.tx.length=32) (hn:I64 pt.n) {hq iq:List UInt8} (hh:hq.length=32) (hi_:iq.length=32):Calls Tryz.prog 3 [.slice B p.length c,.agg (qC As s.length cs pt hq iq).toArray].toArray w (Ret (Is w (.bool true))):=by
 obtain ⟨la,hla⟩:∃la,Wt.found (Tx.dig Tx.tTx) p s=la:=⟨_,rfl⟩
 refine kE (l:=[_,_]) Tryz.func3 U U ?_
 have H:=St.start nT w
 refine kR (sf (ebx (vs:=(qC As s.length cs pt hq iq)) U U H ?_))
 clear H;intro gq W H
 refine sAb U (ln (kQ (kQ ?_)))
 rcases hb1:bigP p with _|_
 ·skip
  refine kr (sMs U (sf (eI Tryz.func5 U U (big13 _ (keeps_L keeps_Block _ _ _ _ _ hl (fun g hg _=>H.fr.block g hg (fun h=>h))) hsz) H ?_)))
  clear H;intro W H
  refine sBf U (by rw [hb1]) ?_
  refine sr (w_g U U U U) U (dF U U tf29_0) (sr (w_g U U U U) U (dX (g:=gq) (off:=0) U H qc_s U U ta23) (sr (w_g U U U U) U (d_len U U tu23) (sr (w_g U U U U) U (d_gt U U U) (sPF U U (ln (kC U (fun hc26=>?_) (fun hc26=>?_)))))))
  ·skip
   refine kR (sf (eI Tryz.func6 U U (works13 _ (H.gat hG) (H.gl hB)) H ?_))
   clear H;intro W H
   refine sAb U (ln (kx ?_))
   exact qr (v:=.bool _) U U ⟨_,U,vb (U),H.under⟩
  ·have hsl:s.length<=2048:=by simp at hc26;omega
   obtain ⟨hpl,hpt,hP⟩:=bigP_f hb1
   have hNp:(flatP p).length<=100000:=Nat.le_trans (flat_le hpt) (by omega)
   refine kS (kR (sMs U (sf (ecl Tryz.func7 U U (copyBlocks _ (keeps_L keeps_Block _ _ _ _ _ hl (fun g hg _=>H.fr.block g hg (fun h=>h))) (by omega) (fun b hb=>⟨by have:=hpt b hb;omega,fun t ht=>(hP b hb t ht).1⟩)) ?_))))
   rintro _ W ⟨A3,c3,zs,S3,rfl,hc3,hn3⟩
   replace H:=H.add2 hn3
   clear hn3
   refine sAs U (lkR (sFa U tf29_0 (sR (dX (g:=gq) (off:=0) U H qc_s U U ta23) (sf (eN Tryz.func8 U U (lentBytes _ s _ (H.bs hs) (by omega)) H ?_)))))
   clear H;intro A1 c1 W hc1 hd1 H
   refine sAs U (lkR (sMs U (sMs U (sFa U tf29_0 (sR (dX (g:=gq) (off:=0) U H qc_s U U ta23) (sLn U tu23 (sR (d_cutP U U (h:=s.length) U (by have:=hc1;rw [List.length_append] at this;omega) U tu23 ts5) ?_)))))))
   refine sf (ecl Tryz.func9 U U (foundP (p:=p) _ (rl_path (S3:=S3) (H.get (f:=Fact.row 76 66 (.slice A3 p.length c3) p.length zs)) (H.get (f:=Fact.els RBlock 66 S3 zs p)) hc3) (H.gat hG) (H.gl hB) hP hNp (bs_head (H.rowbs (A:=A1) (l:=s++marks 5) U))) ?_)
   rintro v1 W ⟨Aa,ca,xa,he,hca,hn1⟩
   rw [hla] at he hca hn1
   subst he
   replace H:=H.add2 hn1
   clear hn1
   refine sAs U (lkR (sMs U (sMs U (sFa U tf29_0 (sR (dX (g:=gq) (off:=0) U H qc_s U U ta23) (sLn U tu23 (sR (d_cutP U U (h:=s.length) U (by have:=hc1;rw [List.length_append] at this;omega) U tu23 ts5) ?_)))))))
   refine sf (ecl Tryz.func9 U U (foundP (p:=p) _ (rl_path (S3:=S3) (H.get (f:=Fact.row 76 66 (.slice A3 p.length c3) p.length zs)) (H.get (f:=Fact.els RBlock 66 S3 zs p)) hc3) (H.gat hG) (H.gl hB) hP hNp (bs_head (H.rowbs (A:=A1) (l:=s++marks 5) U))) ?_)
   rintro v1 W ⟨Ab,cb,xb,he,hcb,hn1⟩
   rw [hla] at he hcb hn1
   subst he
   replace H:=H.add2 hn1
   clear hn1
   refine sAs U (lkR (sMs U (sFa U tf29_0 (sR (dX (g:=gq) (off:=0) U H qc_s U U ta23) (sf (ecl Tryz.func10 U U (foundR (p:=p) _ (keeps_L keeps_Block _ _ _ _ _ hl (fun g hg _=>H.fr.block g hg (fun h=>h))) (by omega) (fun b hb=>by have:=hpt b hb;omega) hP (H.bs hs) (by omega)) ?_))))))
   rintro v1 W ⟨Ac,cc,xc,he,hcc,hn1⟩
   rw [hla] at he hcc hn1
   subst he
   replace H:=H.add2 hn1
   clear hn1
   refine sAs U (ln (kQ (kR (sMs U (sMs U (sf (eI Tryz.func11 U U (sameHitsP _ (rl_hits (H.get (f:=Fact.row 43 36 (.slice Aa la.length ca) la.length xa)) (H.get (f:=Fact.hits xa la)) hca) (rl_hits (H.get (f:=Fact.row 83 36 (.slice Ac la.length cc) la.length xc)) (H.get (f:=Fact.hits xc la)) hcc)) H ?_)))))))
   clear H;intro W H
   refine sR (d_not U U) (ln (kF U U (kS (kQ (kQ ?_)))))
   obtain ⟨KB,hsp,hcell⟩:=hits_sp (H.get (f:=Fact.hits xa la)) (fun y hy=>by
    obtain ⟨i,hi⟩:=List.getElem?_of_mem hy
    rw [(Wt.hit_is (ID:=(Tx.dig Tx.tTx)) (p:=p) (s:=s) (by rw [hla];exact hi)).1];omega)
   replace H:=H.mut (f:=Fact.hits xa la) (f':=Fact.sp (named xa) KB (fun _ _=>False)) Fr.refl hsp (fun _ h=>h)
   clear hsp
   refine kr (sAi U (ln (kb (kL 55 [10] (fun mm sl W=>∃i:Nat,la.length - i=mm∧sl=[(10,.int .i64 (i:Int))]∧(i<=la.length)∧St nT w W [Fact.row 83 36 (.slice Ac la.length cc) la.length xc,Fact.hits xc la,Fact.row 43 36 (.slice Ab la.length cb) la.length xb,Fact.hits xb la,Fact.row 43 36 (.slice Aa la.length ca) la.length xa,Fact.sp (named xa) KB (fun _ _=>False),Fact.row 5 1 (.slice A1 (s++marks 5).length c1) (s++marks 5).length ((s++marks 5).map u8v),Fact.row 76 66 (.slice A3 p.length c3) p.length zs,Fact.els RBlock 66 S3 zs p,Fact.blk gq (qC As s.length cs pt hq iq) 29]) _ _ ⟨0,U,U,Nat.zero_le _,H⟩ ⟨U,trivial⟩ (fun mm sl ρv W hJ=>?_)))))
   clear H;obtain ⟨i,rfl,rfl,hi,H⟩:=hJ
   refine ko (kQ (kR (sMi U (sMs U (sLn U tu34 (sLt U U (ln (kC U (fun hc58=>?_) (fun hc58=>?_)))))))))
   ·have hlt:i<la.length:=by simp at hc58;omega
    obtain ⟨ya,hya⟩:=get_lt hlt
    obtain ⟨ga0,rfl⟩:=row_own (H.get (f:=Fact.row 43 36 (.slice Aa la.length ca) la.length xa)) (by omega)
    obtain ⟨Aha,cha,hLa,hoka,hinB⟩:=hcell i ya hya
    refine kS (kQ (kb (kr (sMs U (sMi U (sR (dG U ((Rd.of_own (H.get (f:=Fact.row 43 36 (.slice (some ⟨ga0,0,none⟩) la.length ca) la.length xa)))) U U (q:=i) U hlt tu34 ts43) (sFa U tf43_1 (sFa U tf41_1 (sR (dE (off:=34) U ((Rd.of_own (H.get (f:=Fact.row 43 36 (.slice (some ⟨ga0,0,none⟩) la.length ca) la.length xa)))) hlt hLa (sub_hit_s hoka) U U (by omega) ta23) (sf (ecl Tryz.func12 U U (spoilB _ (H.get (f:=Fact.sp (named xa) KB (fun _ _=>False))) hinB) ?_)))))))))))
    rintro _ W ⟨rfl,hp_,hf_⟩
    replace H:=H.mut (f:=Fact.sp (named xa) KB (fun _ _=>False)) (f':=Fact.sp (named xa) KB (fun _ _=>False)) hf_ hp_ (fun _ h=>h)
    clear hp_ hf_
    refine ln (kn (zE (kI U U U (by omega) U (kn (kY ?_)))))
    refine ⟨_,_,_,?_,U,?_,?_,⟨i+1,U,U,by omega,H⟩⟩
    ·omega
    ·with_reducible repeat first|exact .refl|refine .f ?_ ?_ ?_;kernel_rfl;kernel_rfl|refine .u ?_ ?_;kernel_rfl
    ·refine ⟨?_,trivial⟩
     ·exact vi (by omega)
   ·skip
    refine ke (xQ (xQ ?_))
    refine xH (kR (sMs U (sFa U tf29_1 (sR (dM (g:=gq) (off:=1) U H (qc_p hp) (len_point hp) U U U ta27 ts27) (sf (ecl Tryz.func13 U U (spentP (p:=p) _ (rl_path (S3:=S3) (H.get (f:=Fact.row 76 66 (.slice A3 p.length c3) p.length zs)) (H.get (f:=Fact.els RBlock 66 S3 zs p)) hc3) hP hp hn) ?_))))))
    rintro _ W ⟨⟨S4,A4,c4,B4,d4,t4,n4,k4⟩,hz4,rfl,hn1⟩
    replace hn1:St nT _ W [Fact.zc 71 41 S4 A4 c4 B4 d4 t4]:=hn1
    replace H:=H.add1 hn1
    clear hn1
    refine sMt U (sEx U U (sEx U U (sf (eal (spC none 0 0 none 0 0 0 0 0) tz49 H ?_))))
    clear H;intro g11 W H
    refine sf (esk (spC A4 t4.ins.length c4 B4 t4.outs.length d4 t4.lock n4 k4) U U U ts49 U U H (by decide) U ?_)
    clear H;intro W H
    refine sAb U (lkR (sMs U (sFa U tf29_1 (sR (dM (g:=gq) (off:=1) U H (qc_p hp) (len_point hp) U U U ta27 ts27) (sf (ecl Tryz.func14 U U (spentR (p:=p) _ (keeps_L keeps_Block _ _ _ _ _ hl (fun g hg _=>H.fr.block g hg (fun h=>h))) hP hp hn) ?_))))))
    rintro _ W ⟨⟨S5,A5,c5,B5,d5,t5,n5,k5⟩,hz5,rfl,hn1⟩
    replace hn1:St nT _ W [Fact.rep RTx S5 (txC A5 t5.ins.length c5 B5 t5.outs.length d5 t5.lock) t5]:=hn1
    replace H:=H.add1 hn1
    clear hn1
    refine sMt U (sEx U U (sEx U U (sf (eal (spC none 0 0 none 0 0 0 0 0) tz52 H ?_))))
    clear H;intro g13 W H
    refine sf (esk (spC A5 t5.ins.length c5 B5 t5.outs.length d5 t5.lock n5 k5) U U U ts52 U U H (by decide) U ?_)
    clear H;intro W H
    refine sAb U (ln (kQ (kQ ?_)))
    obtain ⟨e1,e2,e3⟩:=SpO.eq (p:=p) (pt:=pt) hz4 hz5
    replace e1:t4=t5:=e1
    replace e2:n4=n5:=e2
    replace e3:k4=k5:=e3
    refine kr (sMb U (sMb U (sR (d_diff U U U tu4) (sBf U (by simp) (sr (w_g U U U U) U (dF U U tf49_1) (sr (w_g U U U U) U (dX (g:=g11) (off:=3) U H U U U ta3) (sr (w_g U U U U) U (dF U U tf52_1) (sr (w_g U U U U) U (dX (g:=g13) (off:=3) U H U U U ta3) (sr (w_g U U U U) U (d_ne U U U) (sPF U U (sBf U (by simp [e2]) ?_)))))))))))
    refine sr (w_g U U U U) U (dF U U tf49_2) (sr (w_g U U U U) U (dX (g:=g11) (off:=4) U H U U U ta3) (sr (w_g U U U U) U (dF U U tf52_2) (sr (w_g U U U U) U (dX (g:=g13) (off:=4) U H U U U ta3) (sr (w_g U U U U) U (d_ne U U U) (sPF U U (sBf U (by simp [e3]) ?_))))))
    refine sr (w_g U U U U) U (dF U U tf49_0) (sr (w_g U U U U) U (dM (g:=g11) (off:=0) (cs:=txC A4 t4.ins.length c4 B4 t4.outs.length d4 t4.lock) U H U U U U U ta47 ts47) (sr (w_g U U U U) U (dF U U tf52_0) (sr (w_g U U U U) U (dM (g:=g13) (off:=0) (cs:=txC A5 t5.ins.length c5 B5 t5.outs.length d5 t5.lock) U H U U U U U ta47 ts47) (sf (e_call (w_g U U U U) U U Tryz.func15 U U U (sameTx _ (H.zcrep (eI:=71) (eO:=41) (S:=S4)) (H.rep1 (R:=RTx) (S:=S5) (cs:=txC A5 t5.ins.length c5 B5 t5.outs.length d5 t5.lock) (a:=t5))) ?_)))))
    rintro _ W ⟨rfl,hb⟩
    replace H:=H.below hb
    clear hb
    refine sr (w_g U U U U) U (d_not U U) (sPF U U (ln (kF U (by simp [e1]) ?_)))
    refine kS (kR (sFa U tf49_0 (sR (dM (g:=g11) (off:=0) (cs:=txC A4 t4.ins.length c4 B4 t4.outs.length d4 t4.lock) U H U U U U U ta47 ts47) (sf (ecl Tryz.func16 U U (spoilTx _ (H.get (f:=Fact.zc 71 41 S4 A4 c4 B4 d4 t4)).1 (fun g hg=>((H.get (f:=Fact.zc 71 41 S4 A4 c4 B4 d4 t4)).2 g hg).lt)) ?_)))))
    rintro _ W ⟨rfl,hf_⟩
    replace H:=H.mut (f:=Fact.zc 71 41 S4 A4 c4 B4 d4 t4) (f':=Fact.gone) hf_ trivial (fun _ h=>h.elim)
    clear hf_
    refine lkR (sMs U (sFa U tf29_1 (sR (dM (g:=gq) (off:=1) U H (qc_p hp) (len_point hp) U U U ta27 ts27) (sFa U tf29_2 (sR (dM (g:=gq) (off:=34) U H (qc_h hp hh) (by rw [List.length_map];exact hh) U U U ta25 ts25) ?_)))))
    refine sf (eI Tryz.func17 U U (secretP (p:=p) _ (rl_path (S3:=S3) (H.get (f:=Fact.row 76 66 (.slice A3 p.length c3) p.length zs)) (H.get (f:=Fact.els RBlock 66 S3 zs p)) hc3) (H.gat hG) (H.gl hB) hP hp hn hh) H ?_)
    clear H;intro W H
    refine sMt U (sEx U U (sEx U U (sf (eal (List.replicate 32 (u8v 0)) tz25 H ?_))))
    clear H;intro g15 W H
    refine sf (esk ((secV (Wt.secret Old.Bl.sum p pt hq)).map u8v) U U U ts25 (by rw [List.length_map];exact len_secV) (all_u8L _) H (by decide) (spl_all (by rw [List.length_map,List.length_replicate];exact len_secV)) ?_)
    clear H;intro W H
    refine sAb U (lkR (sMs U (sFa U tf29_1 (sR (dM (g:=gq) (off:=1) U H (qc_p hp) (len_point hp) U U U ta27 ts27) (sFa U tf29_2 (sR (dM (g:=gq) (off:=34) U H (qc_h hp hh) (by rw [List.length_map];exact hh) U U U ta25 ts25) ?_))))))
    refine sf (eI Tryz.func18 U U (secretR (p:=p) _ (keeps_L keeps_Block _ _ _ _ _ hl (fun g hg _=>H.fr.block g hg (fun h=>h))) hP hp hn hh) H ?_)
    clear H;intro W H
    refine sMt U (sEx U U (sEx U U (sf (eal (List.replicate 32 (u8v 0)) tz25 H ?_))))
    clear H;intro g17 W H
    refine sf (esk ((secV (Wt.secret Old.Bl.sum p pt hq)).map u8v) U U U ts25 (by rw [List.length_map];exact len_secV) (all_u8L _) H (by decide) (spl_all (by rw [List.length_map,List.length_replicate];exact len_secV)) ?_)
    clear H;intro W H
    refine sAb U (ln (kQ (k_draw [(0,true),(1,true),(2,true),(3,true),(4,true),(5,true),(6,true),(7,true),(8,true),(9,true),(10,true),(11,true),(13,true),(14,true),(15,true),(12,false),(16,false),(17,true),(18,true),(19,true),(20,true),(21,true),(22,false),(23,true),(24,true),(25,true),(26,true),(27,false),(28,true),(29,true),(30,true),(31,true),(32,true),(33,false),(34,true),(35,true),(36,false),(37,true),(38,true)] _ (by kernel_rfl) (by kernel_rfl) H (.refl _) ?_)))
    clear H;intro W H
    refine cR U (fun W H=>d_ldm0 (g:=g15) U H U ta25 ts25 (by rw [List.length_map];exact len_secV)) ?_
    refine cR U (fun W H=>d_ldm0 (g:=g17) U H U ta25 ts25 (by rw [List.length_map];exact len_secV)) ?_
    refine cR U (fun W H=>d_eqarr U U U tu25 tu5 ts5 len_secV len_secV (by kernel_rfl)) ?_
    refine cR U (fun W H=>mv_bx (c:=true) U U (by exact beq_self_eq_true _)) ?_
    refine c_run U (w_g U U U U) U (fun W H=>mv_b U U) (c_run U (w_g U U U U) U (fun W H=>mv_b U U) (c_run U (w_g U U U U) U (fun W H=>d_same U U U tu4) (cR U (fun W H=>d_pickT U U U) (cR U (fun W H=>mv_bx (c:=true) U U (by simp)) (c_run U (w_g U U U U) U (fun W H=>mv_s U U) (c_run U (w_g U U U U) U (fun W H=>dF U U tf29_3) (c_run U (w_g U U U U) U (fun W H=>dM (g:=gq) (off:=66) U H (qc_i hp hh hi_) (by rw [List.length_map];exact hi_) U U U ta25 ts25) ?_)))))))
    refine c_run U (w_g U U U U) U (fun W H=>mv_s U U) (c_run U (w_g U U U U) U (fun W H=>dF U U tf29_3) (c_run U (w_g U U U U) U (fun W H=>dM (g:=gq) (off:=66) U H (qc_i hp hh hi_) (by rw [List.length_map];exact hi_) U U U ta25 ts25) ?_))
    refine cf U (e_call (w_g U U U U) U U Tryz.func19 U U U (depthP (p:=p) _ (rl_path (S3:=S3) (H.get (f:=Fact.row 76 66 (.slice A3 p.length c3) p.length zs)) (H.get (f:=Fact.els RBlock 66 S3 zs p)) hc3) (H.gat hG) (H.gl hB) hi_) ?_)
    rintro _ W ⟨rfl,hb⟩
    replace H:=H.below hb
    clear hb
    refine ⟨H.sb,?_⟩
    refine cf U (e_call (w_g U U U U) U U Tryz.func20 U U U (depthR (p:=p) _ (keeps_L keeps_Block _ _ _ _ _ hl (fun g hg _=>H.fr.block g hg (fun h=>h))) hi_) ?_)
    rintro _ W ⟨rfl,hb⟩
    replace H:=H.below hb
    clear hb
    refine ⟨H.sb,?_⟩
    refine c_run U (w_g U U U U) U (fun W H=>d_eq U U U) (cR U (fun W H=>d_pickT U U U) (cR U (fun W H=>mv_bx (c:=true) U U (by simp)) (c_run U (w_g U U U U) U (fun W H=>mv_s U U) (c_run U (w_g U U U U) U (fun W H=>mv_s U U) (cf U (e_call (w_g U U U U) U U Tryz.func11 U U U (sameHitsP _ (rl_hits (H.get (f:=Fact.row 43 36 (.slice Ab la.length cb) la.length xb)) (H.get (f:=Fact.hits xb la)) hcb) (rl_hits (H.get (f:=Fact.row 83 36 (.slice Ac la.length cc) la.length xc)) (H.get (f:=Fact.hits xc la)) hcc)) ?_))))))
    rintro _ W ⟨rfl,hb⟩
    replace H:=H.below hb
    clear hb
    refine ⟨H.sb,?_⟩
    refine cR U (fun W H=>d_pickT U U U) (cR U (fun W H=>mv_bx (c:=true) U U (by rfl)) ?_)
    refine c_run U (w_g U U U U) U (fun W H=>mv_s U U) (c_run U (w_g U U U U) U (fun W H=>mv_s U U) (cf U (e_call (w_g U U U U) U U Tryz.func21 U U U (sameBlocksP _ (rl_path (S3:=S3) (H.get (f:=Fact.row 76 66 (.slice A3 p.length c3) p.length zs)) (H.get (f:=Fact.els RBlock 66 S3 zs p)) hc3) (keeps_L keeps_Block _ _ _ _ _ hl (fun g hg _=>H.fr.block g hg (fun h=>h)))) ?_)))
    rintro _ W ⟨rfl,hb⟩
    replace H:=H.below hb
    clear hb
    refine ⟨H.sb,?_⟩
    refine cR U (fun W H=>d_pickT U U U) (cR U (fun W H=>mv_bx (c:=true) U U (by rfl)) ?_)
    refine c_run U (w_g U U U U) U (fun W H=>mv_s U U) (c_run U (w_g U U U U) U (fun W H=>dF U U tf29_0) (c_run U (w_g U U U U) U (fun W H=>dX (g:=gq) (off:=0) U H qc_s U U ta23) (cf U (e_call (w_g U U U U) U U Tryz.func22 U U U (kept _ (H.rowbs (A:=A1) (l:=s++marks 5) U) (H.bs hs) U (by omega)) ?_))))
    rintro _ W ⟨rfl,hb⟩
    replace H:=H.below hb
    clear hb
    refine ⟨H.sb,?_⟩
    refine cR U (fun W H=>d_pickT U U U) (cR U (fun W H=>mv_bx (c:=true) U U (by rfl)) ?_)
    refine cf U (e_call (w_g U U U U) U U Tryz.func6 U U U (works13 _ (H.gat hG) (H.gl hB)) ?_)
    rintro _ W ⟨rfl,hb⟩
    replace H:=H.below hb
    clear hb
    refine ⟨H.sb,?_⟩
    refine cR U (fun W H=>d_pickT U U U) (cR U (fun W H=>as_b U U) (c_nil (kx ?_)))
    exact qr (v:=.bool _) U U ⟨_,U,vb (U),H.under⟩
 ·skip
  refine kr (sMs U (sf (eI Tryz.func5 U U (big13 _ (keeps_L keeps_Block _ _ _ _ _ hl (fun g hg _=>H.fr.block g hg (fun h=>h))) hsz) H ?_)))
  clear H;intro W H
  refine sBt U (by rw [hb1]) ?_
  refine sK (wO U U U U U) U (sK (wO U U U U U) U (sK (wO U U U U U) U (sK (wO U U U U U) U (sPT U U (ln (kT U U (kR (sf (eI Tryz.func6 U U (works13 _ (H.gat hG) (H.gl hB)) H ?_)))))))))
  clear H;intro W H
  refine sAb U (ln (kx ?_))
  exact qr (v:=.bool _) U U ⟨_,U,vb (U),H.under⟩
end Go.Proofs.YtjjodibkmeefpaaGreatDoor
