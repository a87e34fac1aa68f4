import Derived.Test.YtfhhfhdnhadooaaGreatDoorMBK
set_option linter.unusedVariables false
set_option linter.unusedSimpArgs false
set_option maxHeartbeats 4000000

namespace Go.Proofs.YtfhhfhdnhadooaaGreatDoor
open Go Go.RowKit
attribute [local irreducible] wpList

def nths (n:Nat):List DTx:=(List.range n).map (fun k:Nat=>nthT (k:Int))
theorem len_nths (n:Nat):(nths n).length=n:=by simp [nths]
theorem nths_snoc (n:Nat):nths (n+1)=nths n++[nthT (n:Int)]:=by unfold nths;rw [List.range_succ,List.map_append];rfl
theorem digs_snoc (l:List DTx) (t:DTx):digs (l++[t])=digs l++[digA t]:=by simp [digs]
theorem len_digs (n:Nat):(digs (nths n)).length=n:=by simp [digs,len_nths]
theorem pick41 (v:Int):∃k:Nat,pick v 41=(k:Int)∧k<41:=by
 have h:0<=pick v 41∧pick v 41<41:=by
  unfold pick
  rw [if_neg (by omega)]
  exact ⟨Int.emod_nonneg _ (by omega),Int.emod_lt_of_pos _ (by omega)⟩
 exact ⟨(pick v 41).toNat,by omega,by omega⟩
def upk (r:List H32) (k:Nat):List H32:=(List.range k).map (upH r)
theorem upk_snoc (r:List H32) (k:Nat):upk r (k+1)=upk r k++[upH r k]:=by unfold upk;rw [List.range_succ,List.map_append];rfl
theorem upk_all {r:List H32} {k:Nat} (h:(r.length+1) / 2=k):pairsH r=upk r k:=by unfold pairsH upk;rw [h]
theorem upH_twoB {r:List H32} {k:Nat} (h:2*k+1<r.length):(upH r k).1=BTG Bk.tNode ((r.getD (2*k) z32H).1++(r.getD (2*k+1) z32H).1):=upH_two h
theorem root_one {r:List H32} (h:r.length=1):Bk.root BTG (r.map (fun h:H32=>h.1))=(r.getD 0 z32H).1:=by
 match r,h with
 | [a],_=>rfl
theorem rootP' {S:Nat->Prop} {A:Option Addr} {c n:Nat} {l:List DTx} (w:World) (hnl:l.length=n) (hl:RL 3 RTx w S [.slice A l.length c] l) (hG:Gat w 0 formsC) (hB:Old.Gl w) (hn:l.length<=1000000):Calls Tryz.prog 20 [.slice A n c].toArray w (Ret (Is w (.agg ((rootB l).map u8v).toArray))):=by
 subst hnl
 exact rootP w hl hG hB hn

theorem blockRootsB {h:DHeader} {m:Int} (w:World) (hG:Gat w 0 formsC) (hB:Old.Gl w) (hh:Bk.OkH h):Calls Tryz.prog 9 [.int .i64 m,.agg (hdrC h).toArray].toArray w (Ret (Is w (.bool true))):=by
 have hp1:=hh.1
 have hp2:=hh.2.1
 refine kE (l:=[_,_]) Tryz.func9 U U ?_
 have H:=St.start nT w
 refine kR (sf (ebx (vs:=(hdrC h)) U U H ?_))
 clear H;intro gh W H
 refine sAb U (lkR (sMi U (sf (eI Tryz.func34 U U (pick_any m 41 _ (by decide)) H ?_))))
 clear H;intro W H
 obtain ⟨N,hN,hN41⟩:=pick41 m
 rw [hN]
 refine sAi U (lkR (sAs U (lkR (sAs U (ln (kQ (kR (sAi U (ln (kb (kL 14 [5,6,7] (fun mm sl W=>∃i:Nat,∃A2:Option Addr,∃c2:Nat,∃ys:List Value,∃S2:Nat->Prop,∃A3:Option Addr,∃c3:Nat,N - i=mm∧sl=[(7,.int .i64 (i:Int)),(5,.slice A2 i c2),(6,.slice A3 i c3)]∧(i<=N)∧(i<=c2∧c2<=9223372036854775807)∧(i<=c3∧c3<=9223372036854775807)∧St nT w W [Fact.row 34 3 (.slice A2 i c2) i ys,Fact.els RTx 3 S2 ys (nths i),Fact.row 24 32 (.slice A3 i c3) i (hsC (digs (nths i))),Fact.blk gh (hdrC h) 26]) _ _ ⟨0,none,0,[],(fun _=>False),none,0,U,U,Nat.zero_le _,⟨Nat.le_refl _,by omega⟩,⟨Nat.le_refl _,by omega⟩,(((H.nilrow 24 32).els0 RTx 3).nilrow 34 3)⟩ ⟨U,U,U,trivial⟩ (fun mm sl ρv W hJ=>?_))))))))))))
 clear H;obtain ⟨i,A2,c2,ys,S2,A3,c3,rfl,rfl,hi,hd,hd3,H⟩:=hJ
 refine ko (kQ (kR (sMi U (sMi U (sLt U U (ln (kC U (fun hc16=>?_) (fun hc16=>?_))))))))
 ·have hlt:i<N:=by simp at hc16;omega
  refine kS (kQ (kb (kR (sMs U (sMi U (sf (ecl Tryz.func8 U U (nthP (i:Int) _ (by omega)) ?_)))))))
  rintro _ W hs_
  obtain ⟨Sn5,An5,cn5,Bn5,dn5,rfl,H1_⟩:=NewTx.rep hs_ H ⟨(by show (-9223372036854775808:Int)<=0;decide),(by show (0:Int)<=9223372036854775807;decide)⟩
  clear H hs_
  have H:=H1_
  clear H1_
  refine sf (ebs (xs:=[.tmp 21]) (vals:=[.agg (txC An5 (nthT (i:Int)).ins.length cn5 Bn5 (nthT (i:Int)).outs.length dn5 (nthT (i:Int)).lock).toArray]) (vs:=(txC An5 (nthT (i:Int)).ins.length cn5 Bn5 (nthT (i:Int)).outs.length dn5 (nthT (i:Int)).lock)) U U U U tu22 ts34 ty34 U (by simp [agg_cells,txC]) (by simp [agg_cells]) H ?_)
  clear H;intro g7_3 W H
  refine sf (eap tu22 tx34 U U U H (rd_blk (m:=1) H.blk U) (U) (by omega) U ?_)
  clear H;intro A7 c7 W hc7 hd7 H
  replace H:=H.drop
  refine sAs U (ln ?_)
  replace H:=(St.elsnoc (H.perm (.cons _ (.swap _ _ _))) rfl).perm (.swap _ _ _)
  refine kr (sMs U (sMi U (sf (ecl Tryz.func8 U U (nthP (i:Int) _ (by omega)) ?_))))
  rintro _ W hs_
  obtain ⟨Sn6,An6,cn6,Bn6,dn6,rfl,H1_⟩:=NewTx.rep hs_ H ⟨(by show (-9223372036854775808:Int)<=0;decide),(by show (0:Int)<=9223372036854775807;decide)⟩
  clear H hs_
  have H:=H1_
  clear H1_
  refine sf (eI Tryz.func35 U U (idTP _ (H.rep1 (R:=RTx) (S:=Sn6) (cs:=txC An6 (nthT (i:Int)).ins.length cn6 Bn6 (nthT (i:Int)).outs.length dn6 (nthT (i:Int)).lock) (a:=nthT (i:Int))) (H.gat hG) (H.gl hB)) H ?_)
  clear H;intro W H
  refine sf (ebs (xs:=[.tmp 27]) (vals:=[.agg ((Tx.dig Tx.tTx (nthT (i:Int))).map u8v).toArray]) (vs:=((Tx.dig Tx.tTx (nthT (i:Int))).map u8v)) U U U U tu68 ts24 ty24 U (by simp [agg_cells,Tx.len_dig]) (by simp [agg_cells]) H ?_)
  clear H;intro g8_4 W H
  refine sf (eap tu68 tx24 U U U H (rd_blk (m:=1) H.blk (by rw [List.length_map];exact Tx.len_dig)) (all_u8L _) (by omega) U ?_)
  clear H;intro A8 c8 W hc8 hd8 H
  replace H:=H.drop
  refine sAs U (ln (kn (zE (kI U U U (by omega) U (kn (kY ?_))))))
  refine ⟨_,_,_,?_,U,?_,?_,⟨i+1,A7,c7,_,_,A8,c8,U,U,by omega,⟨hc7,hd7⟩,⟨hc8,hd8⟩,by rw [nths_snoc,digs_snoc,hs_snoc];exact H.drop⟩⟩
  ·omega
  ·with_reducible repeat first|exact .refl|refine .f ?_ ?_ ?_;kernel_rfl;kernel_rfl|refine .u ?_ ?_;kernel_rfl
  ·refine ⟨?_,?_,?_,trivial⟩
   ·exact vi (by omega)
   ·exact U
   ·exact U
 ·obtain rfl:N=i:=by simp at hc16;omega
  obtain ⟨SL,H9⟩:∃SL,St nT w W (Fact.rep (RL 3 RTx) SL [.slice A2 (nths N).length c2] (nths N)::[Fact.row 24 32 (.slice A3 (digs (nths N)).length c3) (digs (nths N)).length (hsC (digs (nths N))),Fact.blk gh (hdrC h) 26]):=⟨_,St.tolist (s:=3) (e:=34) (by rw [len_nths,len_digs];exact H)⟩
  replace H:=H9.perm (.swap _ _ _)
  clear H9
  refine ke (xt (xt ?_))
  refine xH (kQ (kb (kL 30 [6,8,9] (fun mm sl W=>∃r:List H32,∃A4:Option Addr,∃c4:Nat,r.length=mm∧sl=[(6,.slice A4 r.length c4)]∧(r.length<=c4∧c4<=9223372036854775807)∧(Bk.root BTG (r.map (fun h:H32=>h.1))=rootB (nths N))∧(r.length<=40∧(0<N->0<r.length))∧St nT w W [Fact.row 24 32 (.slice A4 r.length c4) r.length (hsC r),Fact.rep (RL 3 RTx) SL [.slice A2 (nths N).length c2] (nths N),Fact.blk gh (hdrC h) 26]) _ _ ⟨digs (nths N),A3,c3,U,U,⟨by rw [len_digs];exact hd3.1,hd3.2⟩,U,⟨by rw [len_digs];omega,by rw [len_digs];exact fun h=>h⟩,H⟩ ⟨sl_eq (len_digs N).symm,trivial⟩ (fun mm sl ρv W hJ=>?_))))
  clear H;obtain ⟨r,A4,c4,rfl,rfl,hr4,hrt,hrn,H⟩:=hJ
  refine ko (kQ (kR (sMs U (sLn U tu68 (sR (d_gt U U U) (ln (kC U (fun hc32=>?_) (fun hc32=>?_))))))))
  ·have hgt:2<=r.length:=by simp at hc32;omega
   refine kS (kb (kR (sAs U (ln (kQ (kR (sAi U (ln (kb (kL 33 [8,9] (fun mm sl W=>∃k:Nat,∃A5:Option Addr,∃c5:Nat,r.length - 2*k=mm∧sl=[(9,.int .i64 (2*(k:Int))),(8,.slice A5 k c5)]∧(2*k<=r.length)∧(k<=c5∧c5<=9223372036854775807)∧St nT w W [Fact.row 24 32 (.slice A5 k c5) k (hsC (upk r k)),Fact.row 24 32 (.slice A4 r.length c4) r.length (hsC r),Fact.rep (RL 3 RTx) SL [.slice A2 (nths N).length c2] (nths N),Fact.blk gh (hdrC h) 26]) _ _ ⟨0,none,0,U,U,by omega,⟨Nat.le_refl _,by omega⟩,(H.nilrow 24 32)⟩ ⟨U,U,trivial⟩ (fun mm sl ρv W hJ=>?_)))))))))))
   clear H;obtain ⟨k,A5,c5,rfl,rfl,hk,hd5,H⟩:=hJ
   refine ko (kQ (kR (sMi U (sAd U U (by omega) (sMs U (sLn U tu68 (sLt U U (ln (kC U (fun hc37=>?_) (fun hc37=>?_))))))))))
   ·have hlt:2*k+1<r.length:=by simp at hc37;omega
    obtain ⟨g4,rfl⟩:=row_own (H.holds _ (.tail _ (.head _))) (by omega)
    refine kS (kQ (kb (k_draw [(0,true),(1,true),(2,true),(3,true),(4,true),(5,true),(6,true),(7,true),(8,true),(9,true),(10,false),(11,false),(12,false),(13,true)] [Fact.row 24 32 (.slice (some ⟨g4,0,none⟩) r.length c4) r.length (hsC r)] (by kernel_rfl) (by kernel_rfl) H (by repeat (first|exact .refl _|exact List.nil_sublist _|refine .cons_cons _ ?_|refine .cons _ ?_)) ?_)))
    clear H;intro W H
    refine cMs U U (cMs U U (cMi U U (cR U (fun W H=>dG (q:=2*k) U (H.rowrd (A:=some ⟨g4,0,none⟩) (s:=32) (m:=r.length) (c:=c4) (xs:=hsC r)) U U (by omega) (by omega) tu68 ts24) (cR U (fun W H=>dN (off:=0) (j:=32) (q:=2*k) U (H.rowrd (A:=some ⟨g4,0,none⟩) (s:=32) (m:=r.length) (c:=c4) (xs:=hsC r)) (by omega) (hs_get (by omega)) (sa (len_h _)) U U (by omega) ta24 ts24) (cMs U U (cMi U U (cR U (fun W H=>d_add U U U (by omega)) (cR U (fun W H=>dG (q:=2*k+1) U (H.rowrd (A:=some ⟨g4,0,none⟩) (s:=32) (m:=r.length) (c:=c4) (xs:=hsC r)) U U (by omega) (by omega) tu68 ts24) (cR U (fun W H=>dN (off:=0) (j:=32) (q:=2*k+1) U (H.rowrd (A:=some ⟨g4,0,none⟩) (s:=32) (m:=r.length) (c:=c4) (xs:=hsC r)) (by omega) (hs_get (by omega)) (sa (len_h _)) U U (by omega) ta24 ts24) (cf U (eI Tryz.func36 U U (nodeP (r.getD (2*k) z32H) (r.getD (2*k+1) z32H) _ (H.gl hB)) H ?_)))))))))))
    clear H;intro W H
    refine ⟨H.sb,?_⟩
    rw [←upH_twoB hlt]
    refine cf U (ebs (xs:=[.tmp 50]) (vals:=[.agg ((upH r k).1.map u8v).toArray]) (vs:=((upH r k).1.map u8v)) U U U U tu68 ts24 ty24 U (by simp [agg_cells,(upH r k).2]) (by simp [agg_cells]) H ?_)
    clear H;intro g14_11 W H
    refine ⟨H.sb,?_⟩
    refine cf U (eap tu68 tx24 U U U H (rd_blk (m:=1) H.blk (len_h _)) (all_u8L _) (by omega) U ?_)
    clear H;intro A1 c1 W hc1 hd1 H
    replace H:=H.drop
    refine ⟨H.sb,?_⟩
    refine cAs U U (c_nil (kn (zE (kI U U U (by omega) U (kn (kY ?_))))))
    refine ⟨_,_,_,?_,U,?_,?_,⟨k+1,A1,c1,U,U,by omega,⟨hc1,hd1⟩,by rw [upk_snoc,hs_snoc];exact H⟩⟩
    ·omega
    ·with_reducible repeat first|exact .refl|refine .f ?_ ?_ ?_;kernel_rfl;kernel_rfl|refine .u ?_ ?_;kernel_rfl
    ·refine ⟨?_,?_,trivial⟩
     ·exact vi (by omega)
     ·exact U
   ·have hno:¬2*k+1<r.length:=by simp at hc37;omega
    obtain ⟨g4,rfl⟩:=row_own (H.holds _ (.tail _ (.head _))) (by omega)
    refine ke (xt (xt ?_))
    refine xH (kQ (kR (sMs U (sLn U tu68 (sR (d_rem U U U (by omega)) (sEq U U (ln (kC U (fun hc56=>?_) (fun hc56=>?_)))))))))
    ·have hod:r.length=2*k+1:=by have:=eq_of_beq hc56;omega
     refine kr (sMs U (sMs U (sMs U (sLn U tu68 (sR (d_sub U U U (by omega)) (sR (dG (q:=2*k) U (H.rowrd (A:=some ⟨g4,0,none⟩) (s:=32) (m:=r.length) (c:=c4) (xs:=hsC r)) U U (by omega) (by omega) tu68 ts24) (sR (dN (off:=0) (j:=32) (q:=2*k) (cs:=((upH r k).1.map u8v)) U (H.rowrd (A:=some ⟨g4,0,none⟩) (s:=32) (m:=r.length) (c:=c4) (xs:=hsC r)) (by omega) (hs_get (by omega)) (by rw [upH_one hno];exact sa (len_h _)) U U (by omega) ta24 ts24) ?_)))))))
     refine sf (ebs (xs:=[.tmp 63]) (vals:=[.agg ((upH r k).1.map u8v).toArray]) (vs:=((upH r k).1.map u8v)) U U U U tu68 ts24 ty24 U (by simp [agg_cells,(upH r k).2]) (by simp [agg_cells]) H ?_)
     clear H;intro g16_7 W H
     refine sf (eap tu68 tx24 U U U H (rd_blk (m:=1) H.blk (len_h _)) (all_u8L _) (by omega) U ?_)
     clear H;intro A6 c6 W hc6 hd6 H
     replace H:=H.drop
     refine sAs U (ln (kr (sMs U (sAs U (ln (kn (zE (kn (kY ?_)))))))))
     have eP:=upk_all (r:=r) (k:=(k+1)) (by omega)
     have eL:(pairsH r).length=(k+1):=by rw [len_pairsH];omega
     have H9:St nT w W [Fact.row 24 32 (.slice A6 (pairsH r).length c6) (pairsH r).length (hsC (pairsH r)),Fact.rep (RL 3 RTx) SL [.slice A2 (nths N).length c2] (nths N),Fact.blk gh (hdrC h) 26]:=by rw [eL,eP,upk_snoc,hs_snoc];exact H.sub (L':=[_,_,_]) (by repeat (first|exact .refl _|exact List.nil_sublist _|refine .cons_cons _ ?_|refine .cons _ ?_))
     refine ⟨_,_,_,?_,U,?_,?_,⟨pairsH r,A6,c6,U,U,⟨by omega,hd6⟩,(by rw [←hrt];exact (root_pairsH hgt).symm),⟨by omega,by omega⟩,H9⟩⟩
     ·rw [len_pairsH];omega
     ·with_reducible repeat first|exact .refl|refine .f ?_ ?_ ?_;kernel_rfl;kernel_rfl|refine .u ?_ ?_;kernel_rfl
     ·refine ⟨?_,trivial⟩
      ·exact sl_eq eL.symm
    ·have hev:r.length=2*k:=by
      have:¬((r.length:Int) % 2=1):=fun e=>by rw [e] at hc56;cases hc56
      omega
     refine kS (kr (sMs U (sAs U (ln (kn (zE (kn (kY ?_))))))))
     have eP:=upk_all (r:=r) (k:=k) (by omega)
     have eL:(pairsH r).length=k:=by rw [len_pairsH];omega
     have H9:St nT w W [Fact.row 24 32 (.slice A5 (pairsH r).length c5) (pairsH r).length (hsC (pairsH r)),Fact.rep (RL 3 RTx) SL [.slice A2 (nths N).length c2] (nths N),Fact.blk gh (hdrC h) 26]:=by rw [eL,eP];exact H.sub (L':=[_,_,_]) (by repeat (first|exact .refl _|exact List.nil_sublist _|refine .cons_cons _ ?_|refine .cons _ ?_))
     refine ⟨_,_,_,?_,U,?_,?_,⟨pairsH r,A5,c5,U,U,⟨by omega,hd5.2⟩,(by rw [←hrt];exact (root_pairsH hgt).symm),⟨by omega,by omega⟩,H9⟩⟩
     ·rw [len_pairsH];omega
     ·with_reducible repeat first|exact .refl|refine .f ?_ ?_ ?_;kernel_rfl;kernel_rfl|refine .u ?_ ?_;kernel_rfl
     ·refine ⟨?_,trivial⟩
      ·exact sl_eq eL.symm
  ·have hle:r.length<=1:=by simp at hc32;omega
   refine ke (xt (xt ?_))
   refine xH (kR (sR (dB (vs:=(List.replicate 32 (0:UInt8)).map u8v) U (by kernel_rfl)) ?_))
   refine sf (eal (List.replicate 32 (u8v 0)) tz24 H ?_)
   clear H;intro gw W H
   refine sf (esk ((List.replicate 32 (0:UInt8)).map u8v) U U U ts24 (by simp) (all_u8L _) H (by decide) (spl_all (by simp)) ?_)
   clear H;intro W H
   refine ln (kQ (kR (sMi U (sR (d_gt U U U) (ln (kC U (fun hc69=>?_) (fun hc69=>?_)))))))
   ·have hN0:0<N:=by simp at hc69;omega
    have hr1:r.length=1:=by have:=hrn.2 hN0;omega
    have hw:(r.getD 0 z32H).1=rootB (nths N):=by rw [←hrt];exact (root_one hr1).symm
    obtain ⟨g4,rfl⟩:=row_own (H.holds _ (.tail _ (.head _))) (by omega)
    refine kr (sMs U (sR (dG (q:=0) U (H.rowrd (A:=some ⟨g4,0,none⟩) (s:=32) (m:=r.length) (c:=c4) (xs:=hsC r)) U U (by omega) (by omega) tu68 ts24) (sR (dN (off:=0) (j:=32) (q:=0) U (H.rowrd (A:=some ⟨g4,0,none⟩) (s:=32) (m:=r.length) (c:=c4) (xs:=hsC r)) (by omega) (hs_get (by omega)) (sa (len_h _)) U U (by omega) ta24 ts24) (sf (esk ((r.getD 0 z32H).1.map u8v) U U U ts24 (by rw [List.length_map];exact (r.getD 0 z32H).2) (all_u8L _) H (by decide) (spl_all (by rw [List.length_map,List.length_map,List.length_replicate];exact (r.getD 0 z32H).2)) ?_)))))
    clear H;intro W H
    refine ln (kQ ?_)
    rw [hw] at H
    refine k_draw [(0,true),(1,true),(3,true),(4,true),(6,true),(7,true),(2,false),(5,false),(8,false),(9,true)] [Fact.blk gh (hdrC h) 26] (by kernel_rfl) (by kernel_rfl) H (by repeat (first|exact .refl _|exact List.nil_sublist _|refine .cons_cons _ ?_|refine .cons _ ?_)) ?_
    clear H;intro W H
    refine cFa U U tf26_0 (cR U (fun W H=>d_arrA U U tu24 ts5) (cFa U U tf26_1 (cR U (fun W H=>d_arrA U U tu24 ts5) (cFa U U tf26_2 (cR U (fun W H=>dX (g:=gh) (off:=64) U H (sub_h_nonce hh) U U ta3) (cf U (eN Tryz.func13 U U (copyBytes _ h.prev _ (gat_bs (gatb (H.blk (g:=gh))) (sub_h_prev hh) hh.1 (by decide)) (by omega)) H ?_)))))))
    clear H;intro A1 c1 W hc1 hd1 H
    refine ⟨H.sb,?_⟩
    refine cf U (eap tu41 tx5 U U U H (gat_rd (gatb (H.blk (g:=gh))) (sub_h_root hh) (by rw [List.length_map];exact hh.2.1)) (all_u8L _) (by omega) U ?_)
    clear H;intro A9 c9 W hc9 hd9 H
    refine ⟨H.sb,?_⟩
    rw [←List.map_append] at H
    refine cf U (eN Tryz.func37 U U (packInt (b:=h.prev++h.root) h.nonce _ (H.gat hG) (H.rowbs (A:=A9) (l:=h.prev++h.root) (by rw [List.length_append,hp2])) hh.2.2 (by rw [List.length_append];omega)) H ?_)
    clear H;intro A0 c0 W hc0 hd0 H
    have eB:h.prev++h.root++Pk.int (Pk.toU h.nonce)=Bk.encH h:=by unfold Bk.encH;rw [List.append_assoc]
    rw [eB] at hc0 H ⊢
    refine ⟨H.sb,?_⟩
    refine cAs U U (c_nil (kQ (k_draw [(0,true),(2,true),(1,false),(3,true),(4,true),(5,true),(7,true),(6,false),(8,false),(9,true),(10,true),(11,true),(12,false),(13,true),(14,true)] _ (by kernel_rfl) (by kernel_rfl) H (.refl _) ?_)))
    clear H;intro W H
    refine cMs U U (cR U (fun W H=>d_ldm0 (g:=gw) U H U ta24 ts24 (by rw [List.length_map];exact len_rootB _)) ?_)
    refine cf U (eI Tryz.func20 U U (rootP' _ (len_nths N) (H.rep1 (R:=RL 3 RTx) (S:=SL) (cs:=[.slice A2 (nths N).length c2]) (a:=nths N)) (H.gat hG) (H.gl hB) (by rw [len_nths];omega)) H ?_)
    clear H;intro W H
    refine ⟨H.sb,?_⟩
    refine cR U (fun W H=>d_eqarr U U U tu24 tu5 ts5 (len_rootB _) (len_rootB _) (by kernel_rfl)) ?_
    refine cR U (fun W H=>mv_bx (c:=true) U U (by exact beq_self_eq_true _)) ?_
    refine c_run U (w_g U U U U) U (fun W H=>d_ldm0 (g:=gh) U H U ta26 ts26 (len_hdr hh)) (c_run U (w_g U U U U) U (fun W H=>mv_s U U) (cf U (e_call (w_g U U U U) U U Tryz.func22 U U U (idHP _ (H.gat hG) (H.gl hB) hh) ?_)))
    rintro _ W ⟨rfl,hb⟩
    replace H:=H.below hb
    clear hb
    refine ⟨H.sb,?_⟩
    refine cf U (e_call (w_g U U U U) U U Tryz.func38 U U U (taggedB (s:=tBlockB) _ (H.gl hB) (H.rowbs (A:=A0) (l:=Bk.encH h) U) (by decide) (by have:=len_encH hh;omega)) ?_)
    rintro _ W ⟨rfl,hb⟩
    replace H:=H.below hb
    clear hb
    refine ⟨H.sb,?_⟩
    refine c_run U (w_g U U U U) U (fun W H=>d_eqarr U U U tu24 tu5 ts5 (Old.Bl.len_tagged _ _) (Old.Bl.len_tagged _ _) (by kernel_rfl)) ?_
    refine cR U (fun W H=>d_pickT U U U) (cR U (fun W H=>mv_bx (c:=true) U U (by exact beq_iff_eq.2 U)) ?_)
    refine cf U (e_call (w_g U U U U) U U Tryz.func14 U U U (works09 _ (H.gat hG) (H.gl hB)) ?_)
    rintro _ W ⟨rfl,hb⟩
    replace H:=H.below hb
    clear hb
    refine ⟨H.sb,?_⟩
    refine cR U (fun W H=>d_pickT U U U) (cR U (fun W H=>as_b U U) (c_nil (kx ?_)))
    exact qr (v:=.bool _) U U ⟨_,U,U,H.under⟩
   ·have hN0:N=0:=by simp at hc69;omega
    have hw:List.replicate 32 (0:UInt8)=rootB (nths N):=by rw [hN0];rfl
    refine kS (kQ ?_)
    rw [hw] at H
    refine k_draw [(0,true),(1,true),(3,true),(4,true),(6,true),(7,true),(2,false),(5,false),(8,false),(9,true)] [Fact.blk gh (hdrC h) 26] (by kernel_rfl) (by kernel_rfl) H (by repeat (first|exact .refl _|exact List.nil_sublist _|refine .cons_cons _ ?_|refine .cons _ ?_)) ?_
    clear H;intro W H
    refine cFa U U tf26_0 (cR U (fun W H=>d_arrA U U tu24 ts5) (cFa U U tf26_1 (cR U (fun W H=>d_arrA U U tu24 ts5) (cFa U U tf26_2 (cR U (fun W H=>dX (g:=gh) (off:=64) U H (sub_h_nonce hh) U U ta3) (cf U (eN Tryz.func13 U U (copyBytes _ h.prev _ (gat_bs (gatb (H.blk (g:=gh))) (sub_h_prev hh) hh.1 (by decide)) (by omega)) H ?_)))))))
    clear H;intro A1 c1 W hc1 hd1 H
    refine ⟨H.sb,?_⟩
    refine cf U (eap tu41 tx5 U U U H (gat_rd (gatb (H.blk (g:=gh))) (sub_h_root hh) (by rw [List.length_map];exact hh.2.1)) (all_u8L _) (by omega) U ?_)
    clear H;intro A9 c9 W hc9 hd9 H
    refine ⟨H.sb,?_⟩
    rw [←List.map_append] at H
    refine cf U (eN Tryz.func37 U U (packInt (b:=h.prev++h.root) h.nonce _ (H.gat hG) (H.rowbs (A:=A9) (l:=h.prev++h.root) (by rw [List.length_append,hp2])) hh.2.2 (by rw [List.length_append];omega)) H ?_)
    clear H;intro A0 c0 W hc0 hd0 H
    have eB:h.prev++h.root++Pk.int (Pk.toU h.nonce)=Bk.encH h:=by unfold Bk.encH;rw [List.append_assoc]
    rw [eB] at hc0 H ⊢
    refine ⟨H.sb,?_⟩
    refine cAs U U (c_nil (kQ (k_draw [(0,true),(2,true),(1,false),(3,true),(4,true),(5,true),(7,true),(6,false),(8,false),(9,true),(10,true),(11,true),(12,false),(13,true),(14,true)] _ (by kernel_rfl) (by kernel_rfl) H (.refl _) ?_)))
    clear H;intro W H
    refine cMs U U (cR U (fun W H=>d_ldm0 (g:=gw) U H U ta24 ts24 (by rw [List.length_map];exact len_rootB _)) ?_)
    refine cf U (eI Tryz.func20 U U (rootP' _ (len_nths N) (H.rep1 (R:=RL 3 RTx) (S:=SL) (cs:=[.slice A2 (nths N).length c2]) (a:=nths N)) (H.gat hG) (H.gl hB) (by rw [len_nths];omega)) H ?_)
    clear H;intro W H
    refine ⟨H.sb,?_⟩
    refine cR U (fun W H=>d_eqarr U U U tu24 tu5 ts5 (len_rootB _) (len_rootB _) (by kernel_rfl)) ?_
    refine cR U (fun W H=>mv_bx (c:=true) U U (by exact beq_self_eq_true _)) ?_
    refine c_run U (w_g U U U U) U (fun W H=>d_ldm0 (g:=gh) U H U ta26 ts26 (len_hdr hh)) (c_run U (w_g U U U U) U (fun W H=>mv_s U U) (cf U (e_call (w_g U U U U) U U Tryz.func22 U U U (idHP _ (H.gat hG) (H.gl hB) hh) ?_)))
    rintro _ W ⟨rfl,hb⟩
    replace H:=H.below hb
    clear hb
    refine ⟨H.sb,?_⟩
    refine cf U (e_call (w_g U U U U) U U Tryz.func38 U U U (taggedB (s:=tBlockB) _ (H.gl hB) (H.rowbs (A:=A0) (l:=Bk.encH h) U) (by decide) (by have:=len_encH hh;omega)) ?_)
    rintro _ W ⟨rfl,hb⟩
    replace H:=H.below hb
    clear hb
    refine ⟨H.sb,?_⟩
    refine c_run U (w_g U U U U) U (fun W H=>d_eqarr U U U tu24 tu5 ts5 (Old.Bl.len_tagged _ _) (Old.Bl.len_tagged _ _) (by kernel_rfl)) ?_
    refine cR U (fun W H=>d_pickT U U U) (cR U (fun W H=>mv_bx (c:=true) U U (by exact beq_iff_eq.2 U)) ?_)
    refine cf U (e_call (w_g U U U U) U U Tryz.func14 U U U (works09 _ (H.gat hG) (H.gl hB)) ?_)
    rintro _ W ⟨rfl,hb⟩
    replace H:=H.below hb
    clear hb
    refine ⟨H.sb,?_⟩
    refine cR U (fun W H=>d_pickT U U U) (cR U (fun W H=>as_b U U) (c_nil (kx ?_)))
    exact qr (v:=.bool _) U U ⟨_,U,U,H.under⟩
end Go.Proofs.YtfhhfhdnhadooaaGreatDoor
