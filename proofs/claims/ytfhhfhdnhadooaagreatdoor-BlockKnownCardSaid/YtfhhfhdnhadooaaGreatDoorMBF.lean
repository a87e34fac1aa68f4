import Derived.Test.YtfhhfhdnhadooaaGreatDoorMBR
import Derived.Test.YtfhhfhdnhadooaaGreatDoorMR
import Derived.Test.YtfhhfhdnhadooaaGreatDoorMBZ
import Derived.Test.YtfhhfhdnhadooaaGreatDoorMRG
set_option linter.unusedVariables false
set_option linter.unusedSimpArgs false
set_option maxHeartbeats 4000000

namespace Go.Proofs.YtfhhfhdnhadooaaGreatDoor
open Go Go.RowKit
attribute [local irreducible] wpList

theorem nodeR (a b:H32) (w:World):Calls Tryz.prog 105 [.agg (a.1.map u8v).toArray,.agg (b.1.map u8v).toArray].toArray w (Ret (Is w (.agg ((BTG Bk.tNode (a.1++b.1)).map u8v).toArray))):=by
 refine kE (l:=[_,_]) Tryz.func105 U U ?_
 have H:=St.start nT w
 have ha:=a.2
 have hbl:=b.2
 refine kR (sf (ebx (vs:=(a.1.map u8v)) U U H ?_))
 clear H;intro ga W H
 refine sf (ebx (vs:=(b.1.map u8v)) U U H ?_)
 clear H;intro gb W H
 refine sf (eal (List.replicate 32 (u8v 0)) tz24 H ?_)
 clear H;intro g2 W H
 refine ln (kQ (k_draw [(0,true),(2,true),(1,false),(3,false),(4,false),(5,false)] [Fact.blk gb (b.1.map u8v) 24,Fact.blk ga (a.1.map u8v) 24] (by kernel_rfl) (by kernel_rfl) H (.cons _ (.refl _)) ?_))
 clear H;intro W H
 refine cR U (fun W H=>d_ldm0 (g:=ga) U H U ta24 ts24 (len_h a)) (cR U (fun W H=>d_ldm0 (g:=gb) U H U ta24 ts24 (len_h b)) (cf U (eN Tryz.func89 U U (refHash (b:=[]) (h:=a.1) _ (Bs.nil (S:=nT)) (by decide) ha) H ?_)))
 clear H;intro A1 c1 W hc1 hd1 H
 refine ⟨H.sb,?_⟩
 refine cf U (eN Tryz.func89 U U (refHash (b:=[]++a.1) (h:=b.1) _ (H.rowbs (A:=A1) U) (by rw [List.nil_append];omega) hbl) H ?_)
 clear H;intro A2 c2 W hc2 hd2 H
 refine ⟨H.sb,?_⟩
 refine cf U (eI Tryz.func55 U U (taggedRB (s:=tNodeB) _ (H.rowbs (A:=A2) (l:=[]++a.1++b.1) U) (by decide) (by rw [List.nil_append,List.length_append,ha,hbl];decide)) H ?_)
 clear H;intro W H
 refine ⟨H.sb,?_⟩
 refine cf U (esk ((Old.Bl.tagged tNodeB.data.toList (a.1++b.1)).map u8v) U U U ts24 (by rw [List.length_map];exact Old.Bl.len_tagged _ _) (all_u8L _) H (by decide) (spl_all (by rw [List.length_map,List.length_replicate];exact Old.Bl.len_tagged _ _)) ?_)
 clear H;intro W H
 refine ⟨H.sb,?_⟩
 refine c_nil (kx ?_)
 exact q_retc U (c:=(Old.Bl.tagged tNodeB.data.toList (a.1++b.1)).map u8v) (g:=g2) H U ta24 (by rw [List.length_map,Old.Bl.len_tagged];exact ts24) ⟨_,U,U,H.under⟩

theorem upR {S:Nat->Prop} {A:Option Addr} {c:Nat} {l:List H32} (w:World) (hr0:Rd w S 32 A l.length (hsC l)) (hlc:l.length<=c∧c<=9223372036854775807) (hn:l.length<=1000000):Calls Tryz.prog 53 [.slice A l.length c].toArray w (Ret (Is w (.agg ((Bk.root BTG (l.map (·.1))).map u8v).toArray))):=by
 have hl0:l.length<=1000000:=hn
 refine kE (l:=[_]) Tryz.func53 U U ?_
 have H:=St.start nT w
 refine kR (sf (eal (List.replicate 32 (u8v 0)) tz24 H ?_))
 clear H;intro g2 W H
 refine ln (kQ (kR (sMs U (sLn U tu68 (sEq U U (ln (kC U (fun hc7=>?_) (fun hc7=>?_))))))))
 ·have h0:l=[]:=by have:=eq_of_beq hc7;exact List.eq_nil_of_length_eq_zero (by omega)
  refine kR (sR (dB (vs:=(List.replicate 32 (0:UInt8)).map u8v) U (by kernel_rfl)) ?_)
  refine sf (esk ((List.replicate 32 (0:UInt8)).map u8v) U U U ts24 (by simp) (all_u8L _) H (by decide) (spl_all (by simp)) ?_)
  clear H;intro W H
  refine ln (kx ?_)
  subst h0
  exact q_retc U (c:=(List.replicate 32 (0:UInt8)).map u8v) (g:=g2) H U ta24 ts24 ⟨_,U,U,H.under⟩
 ·have h0:l.length≠0:=fun e=>by rw [e] at hc7;cases hc7
  refine kS (kQ (kb (kL 9 [0,3,4] (fun mm sl W=>∃r:List H32,∃A4:Option Addr,∃c4:Nat,r.length=mm∧sl=[(0,.slice A4 r.length c4)]∧(r.length<=c4∧c4<=9223372036854775807)∧(Bk.root BTG (r.map (fun h:H32=>h.1))=Bk.root BTG (l.map (fun h:H32=>h.1)))∧(r.length<=1000000∧0<r.length)∧((Rd w S 32 A4 r.length (hsC r)∧St nT w W [Fact.blk g2 (List.replicate 32 (u8v 0)) 24])∨St nT w W [Fact.row 24 32 (.slice A4 r.length c4) r.length (hsC r),Fact.blk g2 (List.replicate 32 (u8v 0)) 24])) _ _ ⟨l,A,c,U,U,hlc,U,⟨hl0,by omega⟩,(.inl ⟨hr0,H⟩)⟩ ⟨U,trivial⟩ (fun mm sl ρv W hJ=>?_))))
  clear H;obtain ⟨r,A4,c4,rfl,rfl,hr4,hrt,hrn,H⟩:=hJ
  refine ko (kQ (kQ ?_))
  rcases H with ⟨hr,H⟩|H
  ·obtain ⟨g4,o4,rfl,-⟩:=hr.2 (by omega)
   refine kr (sMs U (sLn U tu68 (sR (d_gt U U U) (ln (kC U (fun hc11=>?_) (fun hc11=>?_))))))
   ·have hgt:2<=r.length:=by simp at hc11;omega
    refine kS (kb (kR (sAs U (ln (kQ (kR (sAi U (ln (kb (kL 12 [3,4] (fun mm sl W=>∃k:Nat,∃A5:Option Addr,∃c5:Nat,r.length+1 - 2*k=mm∧sl=[(4,.int .i64 (2*(k:Int))),(3,.slice A5 k c5)]∧(2*k<=r.length+1)∧(k<=c5∧c5<=9223372036854775807)∧St nT w W [Fact.row 24 32 (.slice A5 k c5) k (hsC (upk r k)),Fact.blk g2 (List.replicate 32 (u8v 0)) 24]) _ _ ⟨0,none,0,U,U,by omega,⟨Nat.le_refl _,by omega⟩,(H.nilrow 24 32)⟩ ⟨U,U,trivial⟩ (fun mm sl ρv W hJ=>?_)))))))))))
    clear H;obtain ⟨k,A5,c5,rfl,rfl,hk,hd5,H⟩:=hJ
    refine ko (kQ (kR (sMi U (sMs U (sLn U tu68 (sLt U U (ln (kC U (fun hc15=>?_) (fun hc15=>?_)))))))))
    ·have hlt:2*k<r.length:=by simp at hc15;omega
     refine kS (kQ (kb (kR (sMi U (sAd U U (by omega) (sMs U (sLn U tu68 (sLt U U (ln (kC U (fun hc22=>?_) (fun hc22=>?_)))))))))))
     ·have h2:2*k+1<r.length:=by simp at hc22;omega
      refine k_draw [(0,true),(1,true),(2,true),(3,true),(4,true),(5,true),(6,true),(7,true),(8,true),(9,true),(10,false),(11,false),(12,false),(13,true)] [] (by kernel_rfl) (by kernel_rfl) H (List.nil_sublist _) ?_
      clear H;intro W H
      refine cMs U U (cMs U U (cMi U U (cR U (fun W H=>dG (q:=2*k) U (hr.keep (fun g hg _=>H.under.block g hg)) U U (by omega) (by omega) tu68 ts24) ?_)))
      refine cR U (fun W H=>dN (off:=0) (j:=32) (q:=2*k) U (hr.keep (fun g hg _=>H.under.block g hg)) (by omega) (hs_get (by omega)) (sa (len_h _)) U U (by omega) ta24 ts24) ?_
      refine cMs U U (cMi U U (cR U (fun W H=>d_add U U U (by omega)) (cR U (fun W H=>dG (q:=2*k+1) U (hr.keep (fun g hg _=>H.under.block g hg)) U U (by omega) (by omega) tu68 ts24) ?_)))
      refine cR U (fun W H=>dN (off:=0) (j:=32) (q:=2*k+1) U (hr.keep (fun g hg _=>H.under.block g hg)) (by omega) (hs_get (by omega)) (sa (len_h _)) U U (by omega) ta24 ts24) ?_
      refine cf U (eI Tryz.func105 U U (nodeR (r.getD (2*k) z32H) (r.getD (2*k+1) z32H) _) H ?_)
      clear H;intro W H
      refine ⟨H.sb,?_⟩
      rw [←upH_twoB h2]
      refine cf U (ebs (xs:=[.tmp 33]) (vals:=[.agg ((upH r k).1.map u8v).toArray]) (vs:=((upH r k).1.map u8v)) U U U U tu68 ts24 ty24 U (by simp [agg_cells,(upH r k).2]) (by simp [agg_cells]) H ?_)
      clear H;intro g9_11 W H
      refine ⟨H.sb,?_⟩
      refine cf U (eap tu68 tx24 U U U H (rd_blk (m:=1) H.blk (len_h _)) (all_u8L _) (by omega) U ?_)
      clear H;intro A1 c1 W hc1 hd1 H
      replace H:=H.drop
      refine ⟨H.sb,?_⟩
      refine cAs U U (c_nil (kn (zE (kI U U U (by omega) U (kn (kY ?_))))))
      refine ⟨_,_,_,?_,U,?_,?_,⟨k+1,A1,c1,U,U,by omega,⟨hc1,hd1⟩,by rw [upk_snoc,hs_snoc];exact H⟩⟩
      ·omega
      ·with_reducible repeat first|exact .refl|refine .f ?_ ?_ ?_;kernel_rfl;kernel_rfl|refine .u ?_ ?_;kernel_rfl
      ·refine ⟨?_,?_,trivial⟩
       ·exact vi (by omega)
       ·exact U
     ·have h2:¬2*k+1<r.length:=by simp at hc22;omega
      refine kr (sMs U (sMs U (sMi U (sR (dG (q:=2*k) U (hr.keep (fun g hg _=>H.under.block g hg)) U U (by omega) (by omega) tu68 ts24) ?_))))
      refine sR (dN (off:=0) (j:=32) (q:=2*k) (cs:=((upH r k).1.map u8v)) U (hr.keep (fun g hg _=>H.under.block g hg)) (by omega) (hs_get (by omega)) (by rw [upH_one h2];exact sa (len_h _)) U U (by omega) ta24 ts24) ?_
      refine sf (ebs (xs:=[.tmp 40]) (vals:=[.agg ((upH r k).1.map u8v).toArray]) (vs:=((upH r k).1.map u8v)) U U U U tu68 ts24 ty24 U (by simp [agg_cells,(upH r k).2]) (by simp [agg_cells]) H ?_)
      clear H;intro g10_5 W H
      refine sf (eap tu68 tx24 U U U H (rd_blk (m:=1) H.blk (len_h _)) (all_u8L _) (by omega) U ?_)
      clear H;intro A1 c1 W hc1 hd1 H
      replace H:=H.drop
      refine sAs U (ln (kn (zE (kI U U U (by omega) U (kn (kY ?_))))))
      refine ⟨_,_,_,?_,U,?_,?_,⟨k+1,A1,c1,U,U,by omega,⟨hc1,hd1⟩,by rw [upk_snoc,hs_snoc];exact H⟩⟩
      ·omega
      ·with_reducible repeat first|exact .refl|refine .f ?_ ?_ ?_;kernel_rfl;kernel_rfl|refine .u ?_ ?_;kernel_rfl
      ·refine ⟨?_,?_,trivial⟩
       ·exact vi (by omega)
       ·exact U
    ·have hge:¬2*k<r.length:=by simp at hc15;omega
     refine ke (xt (xt ?_))
     refine xH (kr (sMs U (sAs U (ln (kn (zE (kn (kY ?_))))))))
     have eP:=upk_all (r:=r) (k:=k) (by omega)
     have eL:(pairsH r).length=k:=by rw [len_pairsH];omega
     have H9:St nT w W [Fact.row 24 32 (.slice A5 (pairsH r).length c5) (pairsH r).length (hsC (pairsH r)),Fact.blk g2 (List.replicate 32 (u8v 0)) 24]:=by rw [eL,eP];exact H.sub (L':=[_,_]) (by repeat (first|exact .refl _|exact List.nil_sublist _|refine .cons_cons _ ?_|refine .cons _ ?_))
     refine ⟨_,_,_,?_,U,?_,?_,⟨pairsH r,A5,c5,U,U,⟨by omega,hd5.2⟩,(by rw [←hrt];exact (root_pairsH hgt).symm),⟨by omega,by omega⟩,(.inr H9)⟩⟩
     ·rw [len_pairsH];omega
     ·with_reducible repeat first|exact .refl|refine .f ?_ ?_ ?_;kernel_rfl;kernel_rfl|refine .u ?_ ?_;kernel_rfl
     ·refine ⟨?_,trivial⟩
      ·exact sl_eq eL.symm
   ·have hle:r.length=1:=by simp at hc11;omega
    refine ke (xt (xt ?_))
    refine xH (kR (sMs U (sR (dG (q:=0) U (hr.keep (fun g hg _=>H.under.block g hg)) U U (by omega) (by omega) tu68 ts24) ?_)))
    refine sR (dN (off:=0) (j:=32) (q:=0) U (hr.keep (fun g hg _=>H.under.block g hg)) (by omega) (hs_get (by omega)) (sa (len_h _)) U U (by omega) ta24 ts24) ?_
    refine sf (esk ((r.getD 0 z32H).1.map u8v) U U U ts24 (by rw [List.length_map];exact (r.getD 0 z32H).2) (all_u8L _) H (by decide) (spl_all (by rw [List.length_map,List.length_replicate];exact (r.getD 0 z32H).2)) ?_)
    clear H;intro W H
    refine ln (kx ?_)
    have hw:(r.getD 0 z32H).1=Bk.root BTG (l.map (·.1)):=(root_one hle).symm.trans hrt
    rw [←hw]
    exact q_retc U (c:=(r.getD 0 z32H).1.map u8v) (g:=g2) H U ta24 (by rw [len_h];exact ts24) ⟨_,U,U,H.under⟩
  ·obtain ⟨g4,rfl⟩:=row_own (H.holds _ (.head _)) (by omega)
   refine kr (sMs U (sLn U tu68 (sR (d_gt U U U) (ln (kC U (fun hc11=>?_) (fun hc11=>?_))))))
   ·have hgt:2<=r.length:=by simp at hc11;omega
    refine kS (kb (kR (sAs U (ln (kQ (kR (sAi U (ln (kb (kL 12 [3,4] (fun mm sl W=>∃k:Nat,∃A5:Option Addr,∃c5:Nat,r.length+1 - 2*k=mm∧sl=[(4,.int .i64 (2*(k:Int))),(3,.slice A5 k c5)]∧(2*k<=r.length+1)∧(k<=c5∧c5<=9223372036854775807)∧St nT w W [Fact.row 24 32 (.slice A5 k c5) k (hsC (upk r k)),Fact.row 24 32 (.slice (some ⟨g4,0,none⟩) r.length c4) r.length (hsC r),Fact.blk g2 (List.replicate 32 (u8v 0)) 24]) _ _ ⟨0,none,0,U,U,by omega,⟨Nat.le_refl _,by omega⟩,(H.nilrow 24 32)⟩ ⟨U,U,trivial⟩ (fun mm sl ρv W hJ=>?_)))))))))))
    clear H;obtain ⟨k,A5,c5,rfl,rfl,hk,hd5,H⟩:=hJ
    refine ko (kQ (kR (sMi U (sMs U (sLn U tu68 (sLt U U (ln (kC U (fun hc15=>?_) (fun hc15=>?_)))))))))
    ·have hlt:2*k<r.length:=by simp at hc15;omega
     refine kS (kQ (kb (kR (sMi U (sAd U U (by omega) (sMs U (sLn U tu68 (sLt U U (ln (kC U (fun hc22=>?_) (fun hc22=>?_)))))))))))
     ·have h2:2*k+1<r.length:=by simp at hc22;omega
      refine k_draw [(0,true),(1,true),(2,true),(3,true),(4,true),(5,true),(6,true),(7,true),(8,true),(9,true),(10,false),(11,false),(12,false),(13,true)] [Fact.row 24 32 (.slice (some ⟨g4,0,none⟩) r.length c4) r.length (hsC r)] (by kernel_rfl) (by kernel_rfl) H (by repeat (first|exact .refl _|exact List.nil_sublist _|refine .cons_cons _ ?_|refine .cons _ ?_)) ?_
      clear H;intro W H
      refine cMs U U (cMs U U (cMi U U (cR U (fun W H=>dG (q:=2*k) U (H.rowrd (A:=some ⟨g4,0,none⟩) (s:=32) (m:=r.length) (c:=c4) (xs:=hsC r)) U U (by omega) (by omega) tu68 ts24) (cR U (fun W H=>dN (off:=0) (j:=32) (q:=2*k) U (H.rowrd (A:=some ⟨g4,0,none⟩) (s:=32) (m:=r.length) (c:=c4) (xs:=hsC r)) (by omega) (hs_get (by omega)) (sa (len_h _)) U U (by omega) ta24 ts24) (cMs U U (cMi U U (cR U (fun W H=>d_add U U U (by omega)) (cR U (fun W H=>dG (q:=2*k+1) U (H.rowrd (A:=some ⟨g4,0,none⟩) (s:=32) (m:=r.length) (c:=c4) (xs:=hsC r)) U U (by omega) (by omega) tu68 ts24) (cR U (fun W H=>dN (off:=0) (j:=32) (q:=2*k+1) U (H.rowrd (A:=some ⟨g4,0,none⟩) (s:=32) (m:=r.length) (c:=c4) (xs:=hsC r)) (by omega) (hs_get (by omega)) (sa (len_h _)) U U (by omega) ta24 ts24) (cf U (eI Tryz.func105 U U (nodeR (r.getD (2*k) z32H) (r.getD (2*k+1) z32H) _) H ?_)))))))))))
      clear H;intro W H
      refine ⟨H.sb,?_⟩
      rw [←upH_twoB h2]
      refine cf U (ebs (xs:=[.tmp 33]) (vals:=[.agg ((upH r k).1.map u8v).toArray]) (vs:=((upH r k).1.map u8v)) U U U U tu68 ts24 ty24 U (by simp [agg_cells,(upH r k).2]) (by simp [agg_cells]) H ?_)
      clear H;intro g9_11 W H
      refine ⟨H.sb,?_⟩
      refine cf U (eap tu68 tx24 U U U H (rd_blk (m:=1) H.blk (len_h _)) (all_u8L _) (by omega) U ?_)
      clear H;intro A1 c1 W hc1 hd1 H
      replace H:=H.drop
      refine ⟨H.sb,?_⟩
      refine cAs U U (c_nil (kn (zE (kI U U U (by omega) U (kn (kY ?_))))))
      refine ⟨_,_,_,?_,U,?_,?_,⟨k+1,A1,c1,U,U,by omega,⟨hc1,hd1⟩,by rw [upk_snoc,hs_snoc];exact H⟩⟩
      ·omega
      ·with_reducible repeat first|exact .refl|refine .f ?_ ?_ ?_;kernel_rfl;kernel_rfl|refine .u ?_ ?_;kernel_rfl
      ·refine ⟨?_,?_,trivial⟩
       ·exact vi (by omega)
       ·exact U
     ·have h2:¬2*k+1<r.length:=by simp at hc22;omega
      refine kr (sMs U (sMs U (sMi U (sR (dG (q:=2*k) U (H.rowrd (A:=some ⟨g4,0,none⟩) (s:=32) (m:=r.length) (c:=c4) (xs:=hsC r)) U U (by omega) (by omega) tu68 ts24) (sR (dN (off:=0) (j:=32) (q:=2*k) (cs:=((upH r k).1.map u8v)) U (H.rowrd (A:=some ⟨g4,0,none⟩) (s:=32) (m:=r.length) (c:=c4) (xs:=hsC r)) (by omega) (hs_get (by omega)) (by rw [upH_one h2];exact sa (len_h _)) U U (by omega) ta24 ts24) ?_)))))
      refine sf (ebs (xs:=[.tmp 40]) (vals:=[.agg ((upH r k).1.map u8v).toArray]) (vs:=((upH r k).1.map u8v)) U U U U tu68 ts24 ty24 U (by simp [agg_cells,(upH r k).2]) (by simp [agg_cells]) H ?_)
      clear H;intro g10_5 W H
      refine sf (eap tu68 tx24 U U U H (rd_blk (m:=1) H.blk (len_h _)) (all_u8L _) (by omega) U ?_)
      clear H;intro A1 c1 W hc1 hd1 H
      replace H:=H.drop
      refine sAs U (ln (kn (zE (kI U U U (by omega) U (kn (kY ?_))))))
      refine ⟨_,_,_,?_,U,?_,?_,⟨k+1,A1,c1,U,U,by omega,⟨hc1,hd1⟩,by rw [upk_snoc,hs_snoc];exact H⟩⟩
      ·omega
      ·with_reducible repeat first|exact .refl|refine .f ?_ ?_ ?_;kernel_rfl;kernel_rfl|refine .u ?_ ?_;kernel_rfl
      ·refine ⟨?_,?_,trivial⟩
       ·exact vi (by omega)
       ·exact U
    ·have hge:¬2*k<r.length:=by simp at hc15;omega
     refine ke (xt (xt ?_))
     refine xH (kr (sMs U (sAs U (ln (kn (zE (kn (kY ?_))))))))
     have eP:=upk_all (r:=r) (k:=k) (by omega)
     have eL:(pairsH r).length=k:=by rw [len_pairsH];omega
     have H9:St nT w W [Fact.row 24 32 (.slice A5 (pairsH r).length c5) (pairsH r).length (hsC (pairsH r)),Fact.blk g2 (List.replicate 32 (u8v 0)) 24]:=by rw [eL,eP];exact H.sub (L':=[_,_]) (by repeat (first|exact .refl _|exact List.nil_sublist _|refine .cons_cons _ ?_|refine .cons _ ?_))
     refine ⟨_,_,_,?_,U,?_,?_,⟨pairsH r,A5,c5,U,U,⟨by omega,hd5.2⟩,(by rw [←hrt];exact (root_pairsH hgt).symm),⟨by omega,by omega⟩,(.inr H9)⟩⟩
     ·rw [len_pairsH];omega
     ·with_reducible repeat first|exact .refl|refine .f ?_ ?_ ?_;kernel_rfl;kernel_rfl|refine .u ?_ ?_;kernel_rfl
     ·refine ⟨?_,trivial⟩
      ·exact sl_eq eL.symm
   ·have hle:r.length=1:=by simp at hc11;omega
    refine ke (xt (xt ?_))
    refine xH (kR (sMs U (sR (dG (q:=0) U (H.rowrd (A:=some ⟨g4,0,none⟩) (s:=32) (m:=r.length) (c:=c4) (xs:=hsC r)) U U (by omega) (by omega) tu68 ts24) (sR (dN (off:=0) (j:=32) (q:=0) U (H.rowrd (A:=some ⟨g4,0,none⟩) (s:=32) (m:=r.length) (c:=c4) (xs:=hsC r)) (by omega) (hs_get (by omega)) (sa (len_h _)) U U (by omega) ta24 ts24) (sf (esk ((r.getD 0 z32H).1.map u8v) U U U ts24 (by rw [List.length_map];exact (r.getD 0 z32H).2) (all_u8L _) H (by decide) (spl_all (by rw [List.length_map,List.length_replicate];exact (r.getD 0 z32H).2)) ?_))))))
    clear H;intro W H
    refine ln (kx ?_)
    have hw:(r.getD 0 z32H).1=Bk.root BTG (l.map (·.1)):=(root_one hle).symm.trans hrt
    rw [←hw]
    exact q_retc U (c:=(r.getD 0 z32H).1.map u8v) (g:=g2) H U ta24 (by rw [len_h];exact ts24) ⟨_,U,U,H.under⟩

theorem idsR {S:Nat->Prop} {A:Option Addr} {c:Nat} {l:List DTx} (w:World) (hl:RL 3 RTx w S [.slice A l.length c] l) (hn:l.length<=1000000):Calls Tryz.prog 54 [.slice A l.length c].toArray w (Ret (fun v' w'=>∃A5 c5,v'=.slice A5 l.length c5∧l.length<=c5∧c5<=9223372036854775807∧New w w' (Fact.row 24 32 (.slice A5 l.length c5) l.length (hsC (digs l))))):=by
 have hl0:=hl
 obtain ⟨A_,c_,xs,hv_,_,_,hr,hel⟩:=hl0
 cases hv_
 refine kE (l:=[_]) Tryz.func54 U U ?_
 have H:=St.start nT w
 refine kR (sAs U (lkR (sAs U (ln (kQ (kR (sAi U (ln (kb (kL 3 [] (fun mm sl W=>∃i:Nat,∃A3:Option Addr,∃c3:Nat,l.length - i=mm∧sl=[(4,.int .i64 (i:Int)),(3,.slice A3 i c3)]∧(i<=l.length)∧(i<=c3∧c3<=9223372036854775807)∧St nT w W [Fact.row 24 32 (.slice A3 i c3) i (hsC (digs (l.take i)))]) _ _ ⟨0,none,0,U,U,Nat.zero_le _,⟨Nat.le_refl _,by omega⟩,(H.nilrow 24 32)⟩ ⟨U,U,trivial⟩ (fun mm sl ρv W hJ=>?_)))))))))))
 clear H;obtain ⟨i,A3,c3,rfl,rfl,hi,hd3,H⟩:=hJ
 refine ko (kQ (kR (sMi U (sMs U (sLn U tu22 (sLt U U (ln (kC U (fun hc8=>?_) (fun hc8=>?_)))))))))
 ·have hlt:i<l.length:=by simp at hc8;omega
  obtain ⟨g0,o0,rfl,-⟩:=hr.2 (by omega)
  obtain ⟨t,ht⟩:=get_lt hlt
  have hRt:=hel i t ht
  obtain ⟨Ai,ci,Bi,di,hL,-,-,-⟩:=tx_of hRt
  rw [hL] at hRt
  refine kS (kQ (kb (kr (sMs U (sMs U (sMi U (sR (dG U (H.rd hr) U U (q:=i) U hlt tu22 ts34) (sR (dN (off:=0) U (H.rd hr) hlt hL (sa (a:=txC Ai t.ins.length ci Bi t.outs.length di t.lock) (m:=3) U) U U (by omega) ta34 ts34) (sf (eI Tryz.func106 U U (idTR _ (keeps_Tx _ _ _ _ _ hRt (fun g hg _=>H.fr.block g hg (fun h=>h)))) H ?_))))))))))
  clear H;intro W H
  refine sf (ebs (xs:=[.tmp 16]) (vals:=[.agg ((Tx.dig Tx.tTx t).map u8v).toArray]) (vs:=((Tx.dig Tx.tTx t).map u8v)) U U U U tu68 ts24 ty24 U (by simp [agg_cells,Tx.len_dig]) (by simp [agg_cells]) H ?_)
  clear H;intro g5_6 W H
  refine sf (eap tu68 tx24 U U U H (rd_blk (m:=1) H.blk (by rw [List.length_map];exact Tx.len_dig)) (all_u8L _) (by omega) U ?_)
  clear H;intro A1 c1 W hc1 hd1 H
  replace H:=H.drop
  refine sAs U (ln (kn (zE (kI U U U (by omega) U (kn (kY ?_))))))
  refine ⟨_,_,_,?_,U,?_,?_,⟨i+1,A1,c1,U,U,by omega,⟨hc1,hd1⟩,(by rw [take_get ht,digs_snoc,hs_snoc];exact H)⟩⟩
  ·omega
  ·with_reducible repeat first|exact .refl|refine .f ?_ ?_ ?_;kernel_rfl;kernel_rfl|refine .u ?_ ?_;kernel_rfl
  ·refine ⟨?_,?_,trivial⟩
   ·exact vi (by omega)
   ·exact U
 ·obtain rfl:i=l.length:=by simp at hc8;omega
  rw [List.take_length] at H
  refine ke (xt (xt ?_))
  refine xH (kR (sMs U (sAs U (ln (kx ?_)))))
  exact qr (v:=.slice _ _ _) U U ⟨_,U,A3,c3,U,hd3.1,hd3.2,H.give⟩

theorem upR' {S:Nat->Prop} {A:Option Addr} {c n:Nat} {l:List DTx} (w:World) (hnl:l.length=n) (hr0:Rd w S 32 A n (hsC (digs l))) (hlc:n<=c∧c<=9223372036854775807) (hn:n<=1000000):Calls Tryz.prog 53 [.slice A n c].toArray w (Ret (Is w (.agg ((rootB l).map u8v).toArray))):=by
 have e:(digs l).length=n:=by rw [List.length_map];exact hnl
 subst e
 exact upR w hr0 hlc hn

theorem rootR {S:Nat->Prop} {A:Option Addr} {c:Nat} {l:List DTx} (w:World) (hl:RL 3 RTx w S [.slice A l.length c] l) (hn:l.length<=1000000):Calls Tryz.prog 21 [.slice A l.length c].toArray w (Ret (Is w (.agg ((rootB l).map u8v).toArray))):=by
 refine kE (l:=[_]) Tryz.func21 U U ?_
 have H:=St.start nT w
 refine kR (sf (eal (List.replicate 32 (u8v 0)) tz24 H ?_))
 clear H;intro g2 W H
 refine lkR (sMs U (sf (ecl Tryz.func54 U U (idsR _ (keeps_L keeps_Tx _ _ _ _ _ hl (fun g hg _=>H.fr.block g hg (fun h=>h))) hn) ?_)))
 rintro _ W ⟨A5,c5,rfl,hc5,hd5,hn5⟩
 replace H:=H.new hn5
 clear hn5
 refine sf (eI Tryz.func53 U U (upR' (l:=l) _ U (H.rowrd (A:=A5)) ⟨hc5,hd5⟩ hn) H ?_)
 clear H;intro W H
 refine sf (esk ((rootB l).map u8v) U U U ts24 (by rw [List.length_map];exact len_rootB _) (all_u8L _) H (by decide) (spl_all (by rw [List.length_map,List.length_replicate];exact len_rootB _)) ?_)
 clear H;intro W H
 refine ln (kx ?_)
 exact q_retc U (c:=(rootB l).map u8v) (g:=g2) H U ta24 (by rw [List.length_map,len_rootB];exact ts24) ⟨_,U,U,H.under⟩

theorem headR {h:DHeader} (w:World) (hh:Bk.OkH h):Calls Tryz.prog 46 [.agg (hdrC h).toArray].toArray w (Ret (NewB 5 w (Bk.encH h))):=by
 refine kE (l:=[_]) Tryz.func46 U U ?_
 have H:=St.start nT w
 have hq1:=Pk.len_int (Pk.toU h.nonce)
 refine kR (sf (ebx (vs:=(hdrC h)) U U H ?_))
 clear H;intro gh W H
 refine sAs U (ln (kQ (k_draw [(0,true),(1,true),(3,true),(4,true),(6,true),(7,true),(2,false),(5,false),(8,false),(9,true)] [Fact.blk gh (hdrC h) 26] (by kernel_rfl) (by kernel_rfl) H (.refl _) ?_)))
 clear H;intro W H
 refine cFa U U tf26_0 (cR U (fun W H=>dM (g:=gh) (off:=0) U H (sub_h_prev hh) (by rw [List.length_map];first|exact hh.1|exact hh.2.1) U U U ta24 ts24) ?_)
 refine cFa U U tf26_1 (cR U (fun W H=>dM (g:=gh) (off:=32) U H (sub_h_root hh) (by rw [List.length_map];first|exact hh.1|exact hh.2.1) U U U ta24 ts24) ?_)
 refine cFa U U tf26_2 (cR U (fun W H=>dX (g:=gh) (off:=64) U H (sub_h_nonce hh) U U ta3) (cf U (eN Tryz.func89 U U (refHash (b:=[]) (h:=h.prev) _ (Bs.nil (S:=nT)) (by decide) hh.1) H ?_)))
 clear H;intro A1 c1 W hc1 hd1 H
 refine ⟨H.sb,?_⟩
 refine cf U (eN Tryz.func89 U U (refHash (b:=[]++h.prev) (h:=h.root) _ (H.rowbs (A:=A1) U) (by rw [List.length_append,hh.1];decide) hh.2.1) H ?_)
 clear H;intro A2 c2 W hc2 hd2 H
 refine ⟨H.sb,?_⟩
 refine cf U (eN Tryz.func45 U U (refInt (b:=[]++h.prev++h.root) h.nonce _ (H.rowbs (A:=A2) U) hh.2.2 (by rw [List.length_append,List.length_append,hh.1,hh.2.1];decide)) H ?_)
 clear H;intro A3 c3 W hc3 hd3 H
 refine ⟨H.sb,?_⟩
 refine cAs U U (c_nil (kx ?_))
 rw [show []++h.prev++h.root++Pk.int (Pk.toU h.nonce)=Bk.encH h by unfold Bk.encH;rw [List.nil_append,List.append_assoc]] at hc3 H ⊢
 exact qr (v:=.slice _ _ _) U U ⟨_,U,H.newB U U hc3 hd3⟩

theorem idHR {h:DHeader} (w:World) (hh:Bk.OkH h):Calls Tryz.prog 23 [.agg (hdrC h).toArray].toArray w (Ret (Is w (.agg ((Bk.idH BTG h).map u8v).toArray))):=by
 refine kE (l:=[_]) Tryz.func23 U U ?_
 have H:=St.start nT w
 refine kR (sf (ebx (vs:=(hdrC h)) U U H ?_))
 clear H;intro gh W H
 refine sf (eal (List.replicate 32 (u8v 0)) tz24 H ?_)
 clear H;intro g2 W H
 refine lkR (sR (dM (g:=gh) (off:=0) U H (sa (len_hdr hh)) (len_hdr hh) U U U ta26 ts26) (sf (eN Tryz.func46 U U (headR _ hh) H ?_)))
 clear H;intro A1 c1 W hc1 hd1 H
 refine sf (eI Tryz.func55 U U (taggedRB (s:=tBlockB) _ (H.rowbs (A:=A1) (l:=Bk.encH h) U) (by decide) (by have:=len_encH hh;omega)) H ?_)
 clear H;intro W H
 refine sf (esk ((Old.Bl.tagged tBlockB.data.toList (Bk.encH h)).map u8v) U U U ts24 (by rw [List.length_map];exact Old.Bl.len_tagged _ _) (all_u8L _) H (by decide) (spl_all (by rw [List.length_map,List.length_replicate];exact Old.Bl.len_tagged _ _)) ?_)
 clear H;intro W H
 refine ln (kx ?_)
 exact q_retc U (c:=(Old.Bl.tagged tBlockB.data.toList (Bk.encH h)).map u8v) (g:=g2) H U ta24 (by rw [List.length_map,Old.Bl.len_tagged];exact ts24) ⟨_,U,U,H.under⟩

theorem checkBR {S:Nat->Prop} {A:Option Addr} {c:Nat} {b:DBlock} (w:World) (hl:RL 3 RTx w S [.slice A b.txs.length c] b.txs) (hh:Bk.OkH b.header):Calls Tryz.prog 44 [.agg (bC b.header A b.txs.length c).toArray].toArray w (Ret (Is w (.int .i64 (Bk.chk BTG b)))):=by
 have hl0:=hl
 obtain ⟨A_,c_,xs,hv_,_,_,hr,hel⟩:=hl0
 cases hv_
 refine kE (l:=[_]) Tryz.func44 U U ?_
 have H:=St.start nT w
 refine kR (sf (ebx (vs:=(bC b.header A b.txs.length c)) U U H ?_))
 clear H;intro gb W H
 refine sAi U (ln (kQ (kQ ?_)))
 rcases Decidable.em (b.header.nonce<0) with hn0|hn0
 ·skip
  refine kr (sFa U tf28_0 (sFa U tf26_2 (sR (dX (g:=gb) (off:=64) U H (sub_b_nonce hh) U U ta3) (sLt U U (sBt U (by first|exact decide_eq_true hn0|exact decide_eq_false hn0) ?_)))))
  refine sK (wO U U U U U) U (sK (wO U U U U U) U (sK (wO U U U U U) U (sK (wO U U U U U) U (sPT U U (ln (kT U U (kR (sAi U (ln (kx ?_))))))))))
  rw [chk_1 (.inl hn0)]
  exact qr (v:=.int _ _) U U ⟨_,U,U,H.under⟩
 ·skip
  refine kr (sFa U tf28_0 (sFa U tf26_2 (sR (dX (g:=gb) (off:=64) U H (sub_b_nonce hh) U U ta3) (sLt U U (sBf U (by first|exact decide_eq_true hn0|exact decide_eq_false hn0) ?_)))))
  refine sr (w_g U U U U) U (dF U U tf28_0) (sr (w_g U U U U) U (dF U U tf26_2) (sr (w_g U U U U) U (dX (g:=gb) (off:=64) U H (sub_b_nonce hh) U U ta3) (sr (w_g U U U U) U (d_gt U U U) (sPF U U (ln (kC U (fun hc17=>?_) (fun hc17=>?_)))))))
  ·replace hc17:1073741824<b.header.nonce:=by simpa using hc17
   refine kR (sAi U (ln (kx ?_)))
   rw [chk_1 (.inr hc17)]
   exact qr (v:=.int _ _) U U ⟨_,U,U,H.under⟩
  ·have h1:¬(b.header.nonce<0∨1073741824<b.header.nonce):=by simp at hc17;omega
   refine kS (kQ (kR (sFa U tf28_1 (sR (dX (g:=gb) (off:=65) U H (sub_b_txs hh) U U ta22) (sLn U tu22 (sR (d_gt U U U) (ln (kC U (fun hc21=>?_) (fun hc21=>?_)))))))))
   ·replace hc21:16<b.txs.length:=by simp at hc21;omega
    refine kR (sAi U (ln (kx ?_)))
    rw [chk_3 h1 hc21]
    exact qr (v:=.int _ _) U U ⟨_,U,U,H.under⟩
   ·have h2:¬16<b.txs.length:=by simp at hc21;omega
    have hdl:(digs b.txs).length=b.txs.length:=List.length_map _
    refine kS (kQ (kR (sAi U (ln (kb (kL 22 [2,3,4] (fun mm sl W=>∃i:Nat,b.txs.length - i=mm∧sl=[(3,.int .i64 (i:Int))]∧(i<=b.txs.length)∧(Bk.firstErr (b.txs.take i)=0)∧St nT w W [Fact.blk gb (bC b.header A b.txs.length c) 28]) _ _ ⟨0,U,U,Nat.zero_le _,U,H⟩ ⟨U,trivial⟩ (fun mm sl ρv W hJ=>?_)))))))
    clear H;obtain ⟨i,rfl,rfl,hi,he,H⟩:=hJ
    refine ko (kQ (kR (sMi U (sFa U tf28_1 (sR (dX (g:=gb) (off:=65) U H (sub_b_txs hh) U U ta22) (sLn U tu22 (sLt U U (ln (kC U (fun hc26=>?_) (fun hc26=>?_))))))))))
    ·have hlt:i<b.txs.length:=by simp at hc26;omega
     obtain ⟨g0,o0,rfl,-⟩:=hr.2 (by omega)
     obtain ⟨t,ht⟩:=get_lt hlt
     have hRt:=hel i t ht
     obtain ⟨Ai,ci,Bi,di,hL,-,-,-⟩:=tx_of hRt
     rw [hL] at hRt
     refine kS (kQ (kb (kR (sFa U tf28_1 (sR (dX (g:=gb) (off:=65) U H (sub_b_txs hh) U U ta22) (sMi U (sR (dG U (H.rd hr) U U (q:=i) U hlt tu22 ts34) (sR (dN (off:=0) U (H.rd hr) hlt hL (sa (a:=txC Ai t.ins.length ci Bi t.outs.length di t.lock) (m:=3) U) U U (by omega) ta34 ts34) (sf (eI Tryz.func87 U U (checkTR _ (keeps_Tx _ _ _ _ _ hRt (fun g hg _=>H.fr.block g hg (fun h=>h)))) H ?_))))))))))
     clear H;intro W H
     refine sAi U (lkR (sMi U (sNe U U (ln (kC U (fun hc36=>?_) (fun hc36=>?_))))))
     ·have hce:Tx.chk t≠0:=by simpa using hc36
      refine kR (sMi U (sAi U (ln (kx ?_))))
      rw [chk_e h1 h2 (by rw [Bk.first_at he ht hce];exact hce),Bk.first_at he ht hce]
      exact qr (v:=.int _ _) U U ⟨_,U,U,H.under⟩
     ·have hce:Tx.chk t=0:=by simpa using hc36
      refine kS (kn (zE (kI U U U (by omega) U (kn (kY ?_)))))
      refine ⟨_,_,_,?_,U,?_,?_,⟨i+1,U,U,by omega,by rw [take_get ht];exact Bk.first_snoc he hce,H⟩⟩
      ·omega
      ·with_reducible repeat first|exact .refl|refine .f ?_ ?_ ?_;kernel_rfl;kernel_rfl|refine .u ?_ ?_;kernel_rfl
      ·refine ⟨?_,trivial⟩
       ·exact vi (by omega)
    ·obtain rfl:i=b.txs.length:=by simp at hc26;omega
     rw [List.take_length] at he
     refine ke (xt (xt ?_))
     refine xH (kR (sFa U tf28_1 (sR (dX (g:=gb) (off:=65) U H (sub_b_txs hh) U U ta22) (sf (ecl Tryz.func54 U U (idsR _ (keeps_L keeps_Tx _ _ _ _ _ hl (fun g hg _=>H.fr.block g hg (fun h=>h))) (by omega)) ?_)))))
     rintro _ W ⟨A5,c5,rfl,hc5,hd5,hn5⟩
     replace H:=H.new hn5
     clear hn5
     refine sAs U (ln (kQ (kR (sAi U (ln (kb (kL 41 [2,6,7] (fun mm sl W=>∃i:Nat,b.txs.length - i=mm∧sl=[(6,.int .i64 (i:Int))]∧(i<=b.txs.length)∧(((digs b.txs).take i).Nodup)∧St nT w W [Fact.row 24 32 (.slice A5 b.txs.length c5) b.txs.length (hsC (digs b.txs)),Fact.blk gb (bC b.header A b.txs.length c) 28]) _ _ ⟨0,U,U,Nat.zero_le _,List.nodup_nil,H⟩ ⟨U,trivial⟩ (fun mm sl ρv W hJ=>?_))))))))
     clear H;obtain ⟨i,rfl,rfl,hi2,hnd,H⟩:=hJ
     refine ko (kQ (kR (sMi U (sMs U (sLn U tu68 (sLt U U (ln (kC U (fun hc44=>?_) (fun hc44=>?_)))))))))
     ·have hlt:i<b.txs.length:=by simp at hc44;omega
      obtain ⟨g5,rfl⟩:=row_own (H.get (f:=Fact.row 24 32 (.slice A5 b.txs.length c5) b.txs.length (hsC (digs b.txs)))) (by omega)
      obtain ⟨x,hx⟩:=get_lt (l:=digs b.txs) (i:=i) (by omega)
      refine kS (kQ (kb (kR (sAi U (ln (kb (kL 47 [2,7] (fun mm sl W=>∃k:Nat,i - k=mm∧sl=[(7,.int .i64 (k:Int))]∧(k<=i)∧(x ∉ (digs b.txs).take k)∧St nT w W [Fact.row 24 32 (.slice (some ⟨g5,0,none⟩) b.txs.length c5) b.txs.length (hsC (digs b.txs)),Fact.blk gb (bC b.header A b.txs.length c) 28]) _ _ ⟨0,U,U,Nat.zero_le _,(by simp),H⟩ ⟨U,trivial⟩ (fun mm sl ρv W hJ=>?_))))))))
      clear H;obtain ⟨k,rfl,rfl,hk,hnm,H⟩:=hJ
      refine ko (kQ (kR (sMi U (sMi U (sLt U U (ln (kC U (fun hc49=>?_) (fun hc49=>?_))))))))
      ·have hlk:k<i:=by simp at hc49;omega
       obtain ⟨y,hy⟩:=get_lt (l:=digs b.txs) (i:=k) (by omega)
       refine kS (kQ (kb (kQ (k_draw [(0,true),(1,true),(2,true),(3,true),(4,true),(5,true),(6,true),(7,true),(8,true)] _ (by kernel_rfl) (by kernel_rfl) H (.refl _) ?_))))
       clear H;intro W H
       refine cMs U U (cMi U U (cR U (fun W H=>dG (q:=i) U (H.rowrd (A:=some ⟨g5,0,none⟩) (s:=32) (m:=b.txs.length) (c:=c5) (xs:=hsC (digs b.txs))) U U U (by omega) tu68 ts24) (cR U (fun W H=>dN (off:=0) (j:=32) (q:=i) U (H.rowrd (A:=some ⟨g5,0,none⟩) (s:=32) (m:=b.txs.length) (c:=c5) (xs:=hsC (digs b.txs))) (by omega) (hs_sub hx) (sa (len_h _)) U U (by omega) ta24 ts24) (cMs U U (cMi U U (cR U (fun W H=>dG (q:=k) U (H.rowrd (A:=some ⟨g5,0,none⟩) (s:=32) (m:=b.txs.length) (c:=c5) (xs:=hsC (digs b.txs))) U U U (by omega) tu68 ts24) (cR U (fun W H=>dN (off:=0) (j:=32) (q:=k) U (H.rowrd (A:=some ⟨g5,0,none⟩) (s:=32) (m:=b.txs.length) (c:=c5) (xs:=hsC (digs b.txs))) (by omega) (hs_sub hy) (sa (len_h _)) U U (by omega) ta24 ts24) (cR U (fun W H=>d_eqarr U U U tu24 tu5 ts5 (len_v x) (len_v y) (by kernel_rfl)) ?_))))))))
       refine c_nil (kC U (fun hc60=>?_) (fun hc60=>?_))
       ·have hxy:x=y:=Subtype.ext (by simpa using hc60)
        refine kR (sAi U (ln (kx ?_)))
        have hdup:¬(digs b.txs).Nodup:=fun h=>by
         have:=(List.getElem_inj (i:=i) (j:=k) (h₀:=by omega) (h₁:=by omega) h).1 (by rw [(List.getElem?_eq_some_iff.1 hx).2,(List.getElem?_eq_some_iff.1 hy).2,hxy])
         omega
        rw [chk_13 h1 h2 he hdup]
        exact qr (v:=.int _ _) U U ⟨_,U,U,H.under⟩
       ·have hxy:¬x=y:=fun e=>by subst e;simp at hc60
        refine kS (kn (zE (kI U U U (by omega) U (kn (kY ?_)))))
        refine ⟨_,_,_,?_,U,?_,?_,⟨k+1,U,U,by omega,(by rw [take_get hy];exact fun h=>(List.mem_append.1 h).elim hnm (fun h=>hxy (List.mem_singleton.1 h))),H⟩⟩
        ·omega
        ·with_reducible repeat first|exact .refl|refine .f ?_ ?_ ?_;kernel_rfl;kernel_rfl|refine .u ?_ ?_;kernel_rfl
        ·refine ⟨?_,trivial⟩
         ·exact vi (by omega)
      ·obtain rfl:i=k:=by simp at hc49;omega
       refine ke (xt (xt ?_))
       refine xH (kn (zE (kI U U U (by omega) U (kn (kY ?_)))))
       refine ⟨_,_,_,?_,U,?_,?_,⟨i+1,U,U,by omega,(by rw [take_get hx];exact List.nodup_append.2 ⟨hnd,by simp,fun a ha c hc=>by rw [List.mem_singleton.1 hc];exact fun e=>hnm (e ▸ ha)⟩),H⟩⟩
       ·omega
       ·with_reducible repeat first|exact .refl|refine .f ?_ ?_ ?_;kernel_rfl;kernel_rfl|refine .u ?_ ?_;kernel_rfl
       ·refine ⟨?_,trivial⟩
        ·exact vi (by omega)
     ·obtain rfl:i=b.txs.length:=by simp at hc44;omega
      rw [List.take_of_length_le (by omega)] at hnd
      refine ke (xt (xt ?_))
      refine xH (kQ (kQ (k_draw [(0,true),(2,true),(3,true),(4,true),(1,false),(5,true)] _ (by kernel_rfl) (by kernel_rfl) H (.refl _) ?_)))
      clear H;intro W H
      refine cMs U U (cFa U U tf28_0 (cFa U U tf26_1 (cR U (fun W H=>dM (g:=gb) (off:=32) U H (sub_b_root hh) (by rw [List.length_map];exact hh.2.1) U U U ta24 ts24) ?_)))
      refine cf U (eI Tryz.func53 U U (upR' (l:=b.txs) _ U (H.rowrd (A:=A5)) ⟨hc5,hd5⟩ (by omega)) H ?_)
      clear H;intro W H
      refine ⟨H.sb,?_⟩
      refine cR U (fun W H=>d_nearr U U U tu24 tu5 ts5 (len_rootB _) hh.2.1 (by kernel_rfl)) ?_
      refine c_nil (kC U (fun hc66=>?_) (fun hc66=>?_))
      ·have hne:rootB b.txs≠b.header.root:=by simpa using hc66
       refine kR (sAi U (ln (kx ?_)))
       rw [chk_6 h1 h2 he hnd hne]
       exact qr (v:=.int _ _) U U ⟨_,U,U,H.under⟩
      ·have hne:rootB b.txs=b.header.root:=by simpa using hc66
       refine kS (kR (sAi U (ln (kx ?_))))
       rw [chk_0 h1 h2 he hnd hne]
       exact qr (v:=.int _ _) U U ⟨_,U,U,H.under⟩

theorem spl_b_prev {x:DHeader} {p:List UInt8} {A:Option Addr} {m c:Nat} (h:Bk.OkH x) (hp:p.length=32):spl (bC x A m c) 0 (p.map u8v)=bC ⟨p,x.root,x.nonce⟩ A m c:=by
 have e:bC x A m c=x.prev.map u8v++(x.root.map u8v++([.int .i64 x.nonce]++[.slice A m c])):=by unfold bC hdrC;rw [List.append_assoc,List.append_assoc]
 have hl:(x.prev.map u8v).length=32:=by rw [List.length_map];exact h.1
 have hq:(p.map u8v).length=32:=by rw [List.length_map];exact hp
 rw [spl_len _ _ _ (by rw [lB h,hq];decide),e,hq,Nat.zero_add,←hl,List.drop_left]
 unfold bC hdrC
 simp only [List.take_zero,List.nil_append,List.append_assoc]
theorem spl_b_root {x:DHeader} {r:List UInt8} {A:Option Addr} {m c:Nat} (h:Bk.OkH x) (hr:r.length=32):spl (bC x A m c) 32 (r.map u8v)=bC ⟨x.prev,r,x.nonce⟩ A m c:=by
 have e:bC x A m c=x.prev.map u8v++(x.root.map u8v++([.int .i64 x.nonce]++[.slice A m c])):=by unfold bC hdrC;rw [List.append_assoc,List.append_assoc]
 have hl:(x.prev.map u8v).length=32:=by rw [List.length_map];exact h.1
 have hl2:(x.root.map u8v).length=32:=by rw [List.length_map];exact h.2.1
 have hq:(r.map u8v).length=32:=by rw [List.length_map];exact hr
 rw [spl_len _ _ _ (by rw [lB h,hq];decide),e,hq,List.take_left' hl,←List.drop_drop,List.drop_left' hl,List.drop_left' hl2]
 unfold bC hdrC
 simp only [List.append_assoc]
theorem spl_b_nonce {x:DHeader} {k:Int} {A:Option Addr} {m c:Nat} (h:Bk.OkH x):spl (bC x A m c) 64 [.int .i64 k]=bC ⟨x.prev,x.root,k⟩ A m c:=by
 have e:bC x A m c=(x.prev.map u8v++x.root.map u8v)++([.int .i64 x.nonce]++[.slice A m c]):=by unfold bC hdrC;rw [List.append_assoc,List.append_assoc,List.append_assoc]
 have hl:(x.prev.map u8v++x.root.map u8v).length=64:=by rw [List.length_append,List.length_map,List.length_map,h.1,h.2.1]
 rw [spl_len _ _ _ (by rw [lB h];show 65<=66;decide),e,List.take_left' hl,←List.drop_drop,List.drop_left' hl]
 unfold bC hdrC
 simp only [List.append_assoc]
 rfl
def bE (b:List UInt8) (i:Nat):Int:=if Pk.rEnd (BgL b).2≠0 then Pk.rEnd (BgL b).2 else Bk.getErr ((BgL b).1.take i)
theorem bE_0 (b:List UInt8):bE b 0=Pk.rEnd (BgL b).2:=by
 unfold bE
 split
 ·rfl
 ·rename_i h
  have:Pk.rEnd (BgL b).2=0:=by simpa using h
  rw [this];rfl
theorem bE_zero {b:List UInt8} {i:Nat} (h:bE b i=0):Pk.rEnd (BgL b).2=0∧Bk.getErr ((BgL b).1.take i)=0:=by
 unfold bE at h
 split at h
 ·rename_i h1;exact absurd h h1
 ·rename_i h1;exact ⟨by simpa using h1,h⟩
theorem gerr_snoc2:∀{l:List (List UInt8)} {x:List UInt8},Bk.getErr l=0->Bk.getErr (l++[x])=(Tx.get x).2
 | [],x,_=>by
  rw [List.nil_append,Bk.getErr]
  split
  ·rfl
  ·rename_i h
   have:(Tx.get x).2=0:=by simpa using h
   rw [this];rfl
 | y::l,x,h=>by
  rw [Bk.getErr] at h
  rw [List.cons_append,Bk.getErr]
  by_cases hy:(Tx.get y).2≠0
  ·rw [if_pos hy] at h;exact absurd h hy
  ·rw [if_neg hy] at h ⊢
   exact gerr_snoc2 h
theorem bE_step {b:List UInt8} {i:Nat} {x:List UInt8} (h:bE b i=0) (hx:(BgL b).1[i]?=some x):bE b (i+1)=(Tx.get x).2:=by
 obtain ⟨h1,h2⟩:=bE_zero h
 unfold bE
 rw [if_neg (fun e=>e h1),take_get hx]
 exact gerr_snoc2 h2
theorem gerr_prefix:∀{l:List (List UInt8)} {i:Nat},Bk.getErr (l.take i)≠0->Bk.getErr l=Bk.getErr (l.take i)
 | [],i,h=>by simp
 | y::l,0,h=>absurd rfl h
 | y::l,i+1,h=>by
  rw [List.take_succ_cons,Bk.getErr] at h
  rw [List.take_succ_cons,Bk.getErr,Bk.getErr]
  by_cases hy:(Tx.get y).2≠0
  ·rw [if_pos hy,if_pos hy]
  ·rw [if_neg hy] at h
   rw [if_neg hy,if_neg hy]
   exact gerr_prefix h
theorem bget_E {b:List UInt8} {i:Nat} (h:bE b i≠0):Bk.get BTG b=(Bk.zero,bE b i):=by
 by_cases h1:Pk.rEnd (BgL b).2=0
 ·have e:bE b i=Bk.getErr ((BgL b).1.take i):=by unfold bE;rw [if_neg (fun e=>e h1)]
  rw [e] at h ⊢
  rw [←gerr_prefix h]
  exact bget_2 h1 (by rw [gerr_prefix h];exact h)
 ·have e:bE b i=Pk.rEnd (BgL b).2:=by unfold bE;rw [if_pos h1]
  rw [e]
  exact bget_1 h1
theorem len_rBlobB {m:Int} {s:RS} (hm:0<=m):((Pk.rB m s).1.length:Int)<=m:=by
 have h:=count_bound (m:=m) (s:=s) hm
 unfold Pk.rB Pk.next
 split
 ·simpa using hm
 ·split
  ·simpa using hm
  ·rw [List.length_take];omega
theorem rMany_all {α:Type} {f:Rdr α} {p:α->Prop} (h:∀s,p (f s).1):∀(n:Nat) (s:RS),∀x∈(rMany f n s).1,p x
 | 0,_,x,hx=>by cases hx
 | n+1,s,x,hx=>by
  rcases List.mem_append.1 hx with hx|hx
  ·exact rMany_all h n s x hx
  ·rw [List.mem_singleton.1 hx];exact h _
theorem blob_le {b x:List UInt8} {i:Nat} (hx:(BgL b).1[i]?=some x):x.length<=1000000000000:=by
 have:=rMany_all (f:=Pk.rB 16384) (p:=fun x=>(x.length:Int)<=16384) (fun s=>len_rBlobB (by decide)) _ _ x (List.mem_of_getElem? hx)
 omega
theorem checkGR {S:Nat->Prop} {A:Option Addr} {c n:Nat} {b:List UInt8} (w:World) (hn:(gots (BgL b).1).length=n) (hl:RL 3 RTx w S [.slice A (gots (BgL b).1).length c] (gots (BgL b).1)):Calls Tryz.prog 44 [.agg (bC (BgH b) A n c).toArray].toArray w (Ret (Is w (.int .i64 (Bk.chk BTG (gotB b))))):=by
 subst hn
 exact checkBR (b:=gotB b) w hl (BgH_ok b)

theorem getBR {S:Nat->Prop} {v:Value} {b:List UInt8} (w:World) (hb:Bs w S v b) (hl:b.length<=1000000000000):Calls Tryz.prog 30 [v].toArray w (Ret (GotB w b)):=by
 have hb0:=hb
 obtain ⟨Ab,cb,rfl,_,_,_⟩:=hb.op
 have hh:=BgH_ok b
 have hk1:Bk.OkH ⟨(BgA b).1,zHd.root,zHd.nonce⟩:=⟨hh.1,zHd_ok.2.1,zHd_ok.2.2⟩
 have hk2:Bk.OkH ⟨(BgA b).1,(BgB b).1,zHd.nonce⟩:=⟨hh.1,hh.2.1,zHd_ok.2.2⟩
 have hok0:Pk.Ok (b,0):=⟨fun h=>absurd rfl h,(show (0:Int)<=0 by decide),(show (0:Int)<=24 by decide)⟩
 have hok1:Pk.Ok (BgA b).2:=Pk.ok_next hok0
 have hok2:Pk.Ok (BgB b).2:=Pk.ok_next hok1
 have hok3:Pk.Ok (BgC b).2:=Pk.ok_rInt hok2
 have hoke:Pk.Ok (BgL b).2:=(sane_list (sane_blob (m:=16384))).2 _ hok3
 have hcb:=count_bound (m:=16) (s:=(BgC b).2) (by decide)
 have hlr:(BgL b).1.length=(Pk.rC 16 (BgC b).2).1:=len_rMany _ _
 refine kE (l:=[_]) Tryz.func30 U U ?_
 have H:=St.start nT w
 refine kR (sf (eal (bC zHd none 0 0) tz28 H ?_))
 clear H;intro go W H
 refine sAi U (lkR (sMs U (sf (ecl Tryz.func66 U U (refRead (l:=b) _ (H.bs hb0) hl) ?_))))
 rintro _ W ⟨rr,AR,cR,rfl,hcR1,hcR2,hS⟩
 replace H:=H.add2 hS
 clear hS
 have hSS:∀g,(Value.slice AR b.length cR).ownBlock=some g->¬g=rr:=fun g hg ht=>(List.pairwise_cons.1 H.apart).1 _ (.head _) g ht hg
 refine sAp U (lkR (sf (eal (bC zHd none 0 0) tz28 H ?_)))
 clear H;intro gb W H
 refine lkR (sMp U (sf (ecl Tryz.func67 U U (refRdHash _ (H.get (f:=RefR 145 rr AR cR b (b,0))) hok0 (bs_own (H.get (f:=Fact.row 5 1 (.slice AR b.length cR) b.length (b.map u8v))) U) hSS hl) ?_)))
 rintro _ W ⟨rfl,hp_,hf_⟩
 replace H:=H.mut (f:=RefR 145 rr AR cR b (b,0)) (f':=RefR 145 rr AR cR b (BgA b).2) hf_ hp_ (fun _ h=>h)
 clear hp_ hf_
 refine sFa U tf28_0 (sFa U tf26_0 (sf (esk (bC ⟨(BgA b).1,zHd.root,zHd.nonce⟩ none 0 0) U U U ts24 (by rw [List.length_map];exact hh.1) (all_u8L _) H (by rw [lB zHd_ok];decide) (spl_b_prev zHd_ok hh.1) ?_)))
 clear H;intro W H
 refine lkR (sMp U (sf (ecl Tryz.func67 U U (refRdHash _ (H.get (f:=RefR 145 rr AR cR b (BgA b).2)) hok1 (bs_own (H.get (f:=Fact.row 5 1 (.slice AR b.length cR) b.length (b.map u8v))) U) hSS hl) ?_)))
 rintro _ W ⟨rfl,hp_,hf_⟩
 replace H:=H.mut (f:=RefR 145 rr AR cR b (BgA b).2) (f':=RefR 145 rr AR cR b (BgB b).2) hf_ hp_ (fun _ h=>h)
 clear hp_ hf_
 refine sFa U tf28_0 (sFa U tf26_1 (sf (esk (bC ⟨(BgA b).1,(BgB b).1,zHd.nonce⟩ none 0 0) U U U ts24 (by rw [List.length_map];exact hh.2.1) (all_u8L _) H (by rw [lB hk1];decide) (spl_b_root hk1 hh.2.1) ?_)))
 clear H;intro W H
 refine lkR (sMp U (sf (ecl Tryz.func68 U U (refRdInt _ (H.get (f:=RefR 145 rr AR cR b (BgB b).2)) hok2 (bs_own (H.get (f:=Fact.row 5 1 (.slice AR b.length cR) b.length (b.map u8v))) U) hSS hl) ?_)))
 rintro _ W ⟨rfl,hp_,hf_⟩
 replace H:=H.mut (f:=RefR 145 rr AR cR b (BgB b).2) (f':=RefR 145 rr AR cR b (BgC b).2) hf_ hp_ (fun _ h=>h)
 clear hp_ hf_
 refine sFa U tf28_0 (sFa U tf26_2 (sf (esk (v:=.int .i64 ((BgC b).1:Int)) (vs:=[.int .i64 ((BgC b).1:Int)]) (bC (BgH b) none 0 0) U U U ts3 U U H (by rw [lB hk2];decide) (spl_b_nonce hk2) ?_)))
 clear H;intro W H
 refine lkR (sMp U (sf (ecl Tryz.func69 U U (refRdCount (m:=16) _ (H.get (f:=RefR 145 rr AR cR b (BgC b).2)) hok3 (bs_own (H.get (f:=Fact.row 5 1 (.slice AR b.length cR) b.length (b.map u8v))) U) hSS hl) ?_)))
 rintro _ W ⟨rfl,hp_,hf_⟩
 replace H:=H.mut (f:=RefR 145 rr AR cR b (BgC b).2) (f':=RefR 145 rr AR cR b (Pk.rC 16 (BgC b).2).2) hf_ hp_ (fun _ h=>h)
 clear hp_ hf_
 refine sAi U (lkR (sAs U (ln (kQ (kR (sAi U (ln (kb (kL 29 [7,8] (fun mm sl W=>∃i:Nat,∃A2:Option Addr,∃c2:Nat,∃ys:List Value,∃S2:Nat->Prop,(Pk.rC 16 (BgC b).2).1 - i=mm∧sl=[(8,.int .i64 (i:Int)),(7,.slice A2 i c2)]∧(i<=(Pk.rC 16 (BgC b).2).1)∧(i<=c2∧c2<=9223372036854775807)∧St nT w W [Fact.row 41 1 (.slice A2 i c2) i ys,Fact.els RB 1 S2 ys (rMany (Pk.rB 16384) i (Pk.rC 16 (BgC b).2).2).1,Fact.blk gb (bC (BgH b) none 0 0) 28,RefR 145 rr AR cR b (rMany (Pk.rB 16384) i (Pk.rC 16 (BgC b).2).2).2,Fact.row 5 1 (.slice AR b.length cR) b.length (b.map u8v),Fact.blk go (bC zHd none 0 0) 28]) _ _ ⟨0,none,0,[],(fun _=>False),U,U,Nat.zero_le _,⟨Nat.le_refl _,by omega⟩,((H.els0 RB 1).nilrow 41 1)⟩ ⟨U,U,trivial⟩ (fun mm sl ρv W hJ=>?_))))))))))
 clear H;obtain ⟨i,A2,c2,ys,S2,rfl,rfl,hi,hd,H⟩:=hJ
 refine ko (kQ (kR (sMi U (sMi U (sLt U U (ln (kC U (fun hc31=>?_) (fun hc31=>?_))))))))
 ·have hlt:i<(Pk.rC 16 (BgC b).2).1:=by simp at hc31;omega
  have hoki:=(sane_many (sane_blob (m:=16384)) i).2 _ (Pk.ok_rCount (m:=16) hok3)
  refine kS (kQ (kb (kr (sMs U (sMp U (sf (ecl Tryz.func70 U U (refRdBlob (m:=16384) _ (H.get (f:=RefR 145 rr AR cR b (rMany (Pk.rB 16384) i (Pk.rC 16 (BgC b).2).2).2)) hoki (bs_own (H.get (f:=Fact.row 5 1 (.slice AR b.length cR) b.length (b.map u8v))) U) hSS hl) ?_)))))))
  rintro _ W ⟨⟨A5,c5,rfl,hc5,hd5,hrow_,hown_,hfr_⟩,hp_⟩
  replace H:=H.mutnew (f:=RefR 145 rr AR cR b (rMany (Pk.rB 16384) i (Pk.rC 16 (BgC b).2).2).2) (f':=RefR 145 rr AR cR b (Pk.rB 16384 (rMany (Pk.rB 16384) i (Pk.rC 16 (BgC b).2).2).2).2) (fn:=Fact.row 5 1 (.slice A5 (Pk.rB 16384 (rMany (Pk.rB 16384) i (Pk.rC 16 (BgC b).2).2).2).1.length c5) (Pk.rB 16384 (rMany (Pk.rB 16384) i (Pk.rC 16 (BgC b).2).2).2).1.length ((Pk.rB 16384 (rMany (Pk.rB 16384) i (Pk.rC 16 (BgC b).2).2).2).1.map u8v)) hfr_ hp_ (fun _ h=>h) hrow_ hown_
  clear hrow_ hown_ hfr_ hp_
  refine sf (ebs (xs:=[.tmp 36]) (vals:=[.slice _ _ _]) (vs:=[.slice _ _ _]) U U U U tu62 ts41 ty41 U U U H ?_)
  clear H;intro g7 W H
  refine sf (eap tu62 tx41 U U U H (rd_blk (m:=1) (H.blk (g:=g7)) U) (U) (by omega) U ?_)
  clear H;intro A1 c1 W hc1 hd1 H
  replace H:=H.drop
  refine sAs U (ln ?_)
  replace H:=H.torb (l:=(Pk.rB 16384 (rMany (Pk.rB 16384) i (Pk.rC 16 (BgC b).2).2).2).1) rfl
  replace H:=(St.elsnoc (H.perm (.cons _ (.swap _ _ _))) rfl).perm (.swap _ _ _)
  refine kn (zE (kI U U U (by omega) U (kn (kY ?_))))
  refine ⟨_,_,_,?_,U,?_,?_,⟨i+1,A1,c1,_,_,U,U,by omega,⟨hc1,hd1⟩,H⟩⟩
  ·omega
  ·with_reducible repeat first|exact .refl|refine .f ?_ ?_ ?_;kernel_rfl;kernel_rfl|refine .u ?_ ?_;kernel_rfl
  ·refine ⟨?_,?_,trivial⟩
   ·exact vi (by omega)
   ·exact U
 ·obtain rfl:i=(Pk.rC 16 (BgC b).2).1:=by simp at hc31;omega
  replace H:St nT w W [Fact.row 41 1 (.slice A2 (Pk.rC 16 (BgC b).2).1 c2) (Pk.rC 16 (BgC b).2).1 ys,Fact.els RB 1 S2 ys (BgL b).1,Fact.blk gb (bC (BgH b) none 0 0) 28,RefR 145 rr AR cR b (BgL b).2,Fact.row 5 1 (.slice AR b.length cR) b.length (b.map u8v),Fact.blk go (bC zHd none 0 0) 28]:=H
  have H2:=H.perm (L':=[Fact.blk gb (bC (BgH b) none 0 0) 28,Fact.row 41 1 (.slice A2 (Pk.rC 16 (BgC b).2).1 c2) (Pk.rC 16 (BgC b).2).1 ys,Fact.els RB 1 S2 ys (BgL b).1,RefR 145 rr AR cR b (BgL b).2,Fact.row 5 1 (.slice AR b.length cR) b.length (b.map u8v),Fact.blk go (bC zHd none 0 0) 28]) (List.perm_middle (l₁:=[_,_]))
  clear H
  refine ke (xt (xt ?_))
  refine xH (kQ ?_)
  have H:=H2
  clear H2
  refine kr (sMp U (sf (eI Tryz.func71 U U (refEnd _ (H.get (f:=RefR 145 rr AR cR b (BgL b).2)) hoke hl) H ?_)))
  clear H;intro W H
  refine sAi U (ln ?_)
  have H2:=H
  refine kQ (kR (sAi U (ln (kb (kL 41 [9,10,11,12] (fun mm sl W=>∃i:Nat,∃A3:Option Addr,∃c3:Nat,∃zs:List Value,∃S3:Nat->Prop,(Pk.rC 16 (BgC b).2).1 - i=mm∧sl=[(10,.int .i64 (i:Int)),(9,.int .i64 (bE b i))]∧(i<=(Pk.rC 16 (BgC b).2).1)∧(i<=c3∧c3<=9223372036854775807)∧St nT w W [Fact.row 34 3 (.slice A3 i c3) i zs,Fact.els RTx 3 S3 zs (gots ((BgL b).1.take i)),Fact.blk gb (bC (BgH b) A3 i c3) 28,Fact.row 41 1 (.slice A2 (Pk.rC 16 (BgC b).2).1 c2) (Pk.rC 16 (BgC b).2).1 ys,Fact.els RB 1 S2 ys (BgL b).1,RefR 145 rr AR cR b (BgL b).2,Fact.row 5 1 (.slice AR b.length cR) b.length (b.map u8v),Fact.blk go (bC zHd none 0 0) 28]) _ _ ⟨0,none,0,[],(fun _=>False),U,U,Nat.zero_le _,⟨Nat.le_refl _,by omega⟩,((H2.els0 RTx 3).nilrow 34 3)⟩ ⟨U,vi (bE_0 b).symm,trivial⟩ (fun mm sl ρv W hJ=>?_))))))
  clear H;obtain ⟨i,A3,c3,zs,S3,rfl,rfl,hi,hd3,H⟩:=hJ
  refine ko (kQ (kQ ?_))
  rcases Nat.lt_or_ge i ((Pk.rC 16 (BgC b).2).1) with hlt|hge
  ·skip
   refine kr (sMi U (sMs U (sLn U tu62 (sLt U U (sBt U (by first|(simp;omega)|simp) ?_)))))
   refine sr (w_g U U U U) U (mv_i U U) (sr (w_g U U U U) U (d_eq U U U) (sPT U U (ln (kC U (fun hc48=>?_) (fun hc48=>?_)))))
   ·have he0:bE b i=0:=by simpa using hc48
    obtain ⟨x,hx⟩:=get_lt (l:=(BgL b).1) (by omega:i<(BgL b).1.length)
    obtain ⟨g2,rfl⟩:=row_own (H.get (f:=Fact.row 41 1 (.slice A2 (Pk.rC 16 (BgC b).2).1 c2) (Pk.rC 16 (BgC b).2).1 ys)) (by omega)
    have hels:=H.get (f:=Fact.els RB 1 S2 ys (BgL b).1)
    obtain ⟨Ax,cx,hLx,hbx⟩:=rb_of (hels.2 i x hx)
    have hxl:x.length<=1000000000000:=blob_le hx
    refine kS (kQ (kb (kR (sMs U (sMi U (sR (dG (q:=i) U (H.rowrd (A:=some ⟨g2,0,none⟩)) U U U hlt tu62 ts41) (sR (dE (q:=i) (off:=0) U (H.rowrd (A:=some ⟨g2,0,none⟩)) hlt hLx U U U (by omega) ta41) (sf (ecl Tryz.func72 U U (getTR _ hbx hxl) ?_)))))))))
    rintro _ W ⟨Sg3,Ag3,cg3,Bg3,dg3,rfl,hn_⟩
    replace H:=H.add1 hn_
    clear hn_
    refine sMt U (sEx U U (sEx U U (sf (eal [.slice none 0 0,.slice none 0 0,.int .i64 0] tz34 H ?_))))
    clear H;intro gt W H
    refine sf (esk (txC Ag3 (Tx.get x).1.ins.length cg3 Bg3 (Tx.get x).1.outs.length dg3 (Tx.get x).1.lock) U U U ts34 U U H (by decide) U ?_)
    clear H;intro W H
    refine sAi U (lkR (sFa U tf28_1 (sR (dX (g:=gb) (off:=65) U H (sub_b_txs hh) U U ta22) (sR (dM (g:=gt) (off:=0) U H (sa (a:=txC Ag3 (Tx.get x).1.ins.length cg3 Bg3 (Tx.get x).1.outs.length dg3 (Tx.get x).1.lock) (m:=3) U) U U U U ta34 ts34) (sf (ebs (xs:=[.tmp 61]) (vals:=[.agg (txC Ag3 (Tx.get x).1.ins.length cg3 Bg3 (Tx.get x).1.outs.length dg3 (Tx.get x).1.lock).toArray]) (vs:=(txC Ag3 (Tx.get x).1.ins.length cg3 Bg3 (Tx.get x).1.outs.length dg3 (Tx.get x).1.lock)) U U U U tu22 ts34 ty34 U (by simp [agg_cells,txC]) (by simp [agg_cells]) H ?_))))))
    clear H;intro g17_3 W H
    refine sf (eap tu22 tx34 U U U H (rd_blk (m:=1) H.blk U) (U) (by omega) U ?_)
    clear H;intro A5 c5 W hc5 hd5 H
    replace H:=H.drop
    refine sFa U tf28_1 (sf (esk (v:=.slice A5 (i+1) c5) (vs:=[.slice A5 (i+1) c5]) (bC (BgH b) A5 (i+1) c5) U U U ts22 U U H (by rw [lB hh];decide) (spl_b_txs hh) ?_))
    clear H;intro W H
    refine ln ?_
    replace H:=H.drop
    replace H:=(St.elsnoc (H.perm (.cons _ (.swap _ _ _))) rfl).perm (.swap _ _ _)
    refine kr (sMi U (sAi U (ln (kn (zE (kI U U U (by omega) U (kn (kY ?_))))))))
    have e9:gots ((BgL b).1.take (i+1))=gots ((BgL b).1.take i)++[(Tx.get x).1]:=by rw [take_get hx];simp [gots]
    refine ⟨_,_,_,?_,U,?_,?_,⟨i+1,A5,c5,_,_,U,U,by omega,⟨hc5,hd5⟩,by rw [e9];exact H⟩⟩
    ·omega
    ·with_reducible repeat first|exact .refl|refine .f ?_ ?_ ?_;kernel_rfl;kernel_rfl|refine .u ?_ ?_;kernel_rfl
    ·refine ⟨?_,?_,trivial⟩
     ·exact vi (by omega)
     ·exact vi (bE_step he0 hx).symm
   ·have he0:bE b i≠0:=by simpa using hc48
    refine ke (xt (xt ?_))
    refine xH (kQ (kR (sMi U (sEq U U (ln (kF U (by simpa using he0) ?_))))))
    refine kS (kQ (kR (sMi U (sNe U U (ln (kT U (by simpa using he0) ?_))))))
    refine kR (sR (dB (vs:=bC zHd none 0 0) U (by kernel_rfl)) ?_)
    refine sMi U (sf (esk (bC zHd none 0 0) U U U ts28 (lB zHd_ok) blk_one H (by rw [lB zHd_ok];decide) (spl_all ((lB zHd_ok).trans (lB zHd_ok).symm)) ?_))
    clear H;intro W H
    refine sAi U (ln (kx ?_))
    have hge:Bk.get BTG b=(Bk.zero,bE b i):=bget_E he0
    refine q_cell2 U (c:=bC zHd none 0 0) (g:=go) (v:=.int .i64 (bE b i)) H U ta28 (by rw [lB zHd_ok];exact ts28) U ⟨_,U,(fun _=>False),none,0,by rw [hge];rfl,?_⟩
    rw [hge]
    exact (H.sub (L':=[]) (List.nil_sublist _)).flat (R:=RL 3 RTx) (a:=([]:List DTx)) rl_nil
  ·obtain rfl:i=(Pk.rC 16 (BgC b).2).1:=by omega
   refine kr (sMi U (sMs U (sLn U tu62 (sLt U U (sBf U (by first|(simp;omega)|simp) ?_)))))
   refine sK (wO U U U U U) U (sK (wO U U U U U) U (sPF U U (ln (kF U U (ke (xt (xt ?_)))))))
   refine xH (kQ (kR (sMi U (sEq U U (ln (kC U (fun hc67=>?_) (fun hc67=>?_)))))))
   ·have he0:bE b ((Pk.rC 16 (BgC b).2).1)=0:=by simpa using hc67
    obtain ⟨he,he3⟩:=bE_zero he0
    refine kr (sR (dM (g:=gb) (off:=0) U H (sa (lB hh)) (lB hh) U U U ta28 ts28) ?_)
    have htl:(BgL b).1.take (Pk.rC 16 (BgC b).2).1=(BgL b).1:=by rw [←hlr];exact List.take_length
    rw [htl] at he3 H
    have hgl:(gots (BgL b).1).length=(Pk.rC 16 (BgC b).2).1:=by rw [List.length_map];exact hlr
    obtain ⟨SL,H9⟩:∃SL,St nT w _ (Fact.rep (RL 3 RTx) SL [.slice A3 (gots (BgL b).1).length c3] (gots (BgL b).1)::[Fact.blk gb (bC (BgH b) A3 (Pk.rC 16 (BgC b).2).1 c3) 28,Fact.blk go (bC zHd none 0 0) 28]):=⟨_,(St.tolist (s:=3) (e:=34) (by rw [hgl];exact H)).sub (by repeat (first|exact .refl _|exact List.nil_sublist _|refine .cons_cons _ ?_|refine .cons _ ?_))⟩
    clear H
    have H:=H9
    clear H9
    refine sf (eI Tryz.func44 U U (checkGR _ hgl (H.rep1 (R:=RL 3 RTx) (S:=SL) (cs:=[.slice A3 (gots (BgL b).1).length c3]) (a:=gots (BgL b).1))) H ?_)
    clear H;intro W H
    refine sAi U (ln (kQ (kR (sMi U (sNe U U (ln (kC U (fun hc71=>?_) (fun hc71=>?_))))))))
    ·have hne:Bk.chk BTG (gotB b)≠0:=by simpa using hc71
     refine kR (sR (dB (vs:=bC zHd none 0 0) U (by kernel_rfl)) ?_)
     refine sMi U (sf (esk (bC zHd none 0 0) U U U ts28 (lB zHd_ok) blk_one H (by rw [lB zHd_ok];decide) (spl_all ((lB zHd_ok).trans (lB zHd_ok).symm)) ?_))
     clear H;intro W H
     refine sAi U (ln (kx ?_))
     have hge:Bk.get BTG b=(Bk.zero,Bk.chk BTG (gotB b)):=bget_3 he he3 hne
     refine q_cell2 U (c:=bC zHd none 0 0) (g:=go) (v:=.int .i64 (Bk.chk BTG (gotB b))) H U ta28 (by rw [lB zHd_ok];exact ts28) U ⟨_,U,(fun _=>False),none,0,by rw [hge];rfl,?_⟩
     rw [hge]
     exact (H.sub (L':=[]) (List.nil_sublist _)).flat (R:=RL 3 RTx) (a:=([]:List DTx)) rl_nil
    ·have hne:Bk.chk BTG (gotB b)=0:=by simpa using hc71
     refine kS (kR (sR (dM (g:=gb) (off:=0) U H (sa (lB hh)) (lB hh) U U U ta28 ts28) (sf (esk (bC (BgH b) A3 (Pk.rC 16 (BgC b).2).1 c3) U U U ts28 (lB hh) blk_one H (by rw [lB zHd_ok];decide) (spl_all ((lB hh).trans (lB zHd_ok).symm)) ?_))))
     clear H;intro W H
     refine sAi U (ln (kx ?_))
     have hge:=bget_4 he he3 hne
     refine q_cell2 U (c:=bC (BgH b) A3 (Pk.rC 16 (BgC b).2).1 c3) (g:=go) (v:=.int .i64 0) H U ta28 (by rw [lB hh];exact ts28) U ⟨_,U,SL,A3,c3,by rw [hge];show _=Value.tuple #[.agg (bC (BgH b) A3 (gots (BgL b).1).length c3).toArray,_];rw [hgl],?_⟩
     rw [hge]
     exact H.sub (L':=[_]) (by repeat (first|exact .refl _|exact List.nil_sublist _|refine .cons_cons _ ?_|refine .cons _ ?_))
   ·have he0:bE b ((Pk.rC 16 (BgC b).2).1)≠0:=by simpa using hc67
    refine kS (kQ (kR (sMi U (sNe U U (ln (kT U (by simpa using he0) ?_))))))
    refine kR (sR (dB (vs:=bC zHd none 0 0) U (by kernel_rfl)) ?_)
    refine sMi U (sf (esk (bC zHd none 0 0) U U U ts28 (lB zHd_ok) blk_one H (by rw [lB zHd_ok];decide) (spl_all ((lB zHd_ok).trans (lB zHd_ok).symm)) ?_))
    clear H;intro W H
    refine sAi U (ln (kx ?_))
    have hge:Bk.get BTG b=(Bk.zero,bE b ((Pk.rC 16 (BgC b).2).1)):=bget_E he0
    refine q_cell2 U (c:=bC zHd none 0 0) (g:=go) (v:=.int .i64 (bE b ((Pk.rC 16 (BgC b).2).1))) H U ta28 (by rw [lB zHd_ok];exact ts28) U ⟨_,U,(fun _=>False),none,0,by rw [hge];rfl,?_⟩
    rw [hge]
    exact (H.sub (L':=[]) (List.nil_sublist _)).flat (R:=RL 3 RTx) (a:=([]:List DTx)) rl_nil
end Go.Proofs.YtfhhfhdnhadooaaGreatDoor
