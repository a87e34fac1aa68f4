import Derived.Test.YtjjodibkmeefpaaGreatDoorMWD
set_option linter.unusedVariables false
set_option linter.unusedSimpArgs false
set_option maxHeartbeats 4000000

namespace Go.Proofs.YtjjodibkmeefpaaGreatDoor
open Go Go.RowKit
attribute [local irreducible] wpList

theorem pt_one {p:DPoint}:(pointC p).all (·.oneCell')=true:=by unfold pointC;simp [List.all_append,all_u8L,Value.oneCell']
theorem tzPt:((Tryz.prog.info? 27).bind (·.zero)).map (·.cells)=some (pointC zPt).toArray:=by kernel_rfl
theorem len_zPt:(pointC zPt).length=33:=len_point List.length_replicate
attribute [local irreducible] Tx.dig Old.Bl.sum

theorem works13 (w:World) (hG:Gat w 2 formsC) (hB:Old.Gl w):Calls Tryz.prog 6 [].toArray w (Ret (Is w (.bool true))):=by
 refine kE (l:=[]) Tryz.func6 U U ?_
 have H:=St.start nT w
 refine kR (sAb U (lkR (sf (ecl Tryz.func23 U U (example13 _ (H.gat hG) (H.gl hB)) ?_))))
 rintro _ W ⟨S,gc,gi,go,rfl,hn1⟩
 replace H:=H.new hn1
 clear hn1
 refine sMt U (sEx U U (sEx U U (sEx U U (sf (eal [.slice none 0 0,.slice none 0 0,.int .i64 0] tz47 H ?_)))))
 clear H;intro gt W H
 refine sf (eal (List.replicate 32 (u8v 0)) tz25 H ?_)
 clear H;intro gx W H
 refine sAs U (sf (esk (txC (some ⟨gi,0,none⟩) 1 1 (some ⟨go,0,none⟩) 2 2 0) U U U ts47 U U H (by decide) U ?_))
 clear H;intro W H
 refine sf (esk (Ex.x.map u8v) U U U ts25 (by rw [List.length_map];exact Ex.len_x) (all_u8L _) H (by decide) (spl_all (by rw [List.length_map,List.length_replicate];exact Ex.len_x)) ?_)
 clear H;intro W H
 refine lkR (sR (dM (g:=gt) (off:=0) U H (sa (a:=txC (some ⟨gi,0,none⟩) 1 1 (some ⟨go,0,none⟩) 2 2 0) (m:=3) U) U U U U ta47 ts47) (sf (eI Tryz.func25 U U (idTP _ (H.get (f:=Fact.ex S gc gi go)).2 (H.gat hG) (H.gl hB)) H ?_)))
 clear H;intro W H
 refine sR (b_xpt Tx.len_dig U U) (sf (eal (pointC zPt) tzPt H ?_))
 clear H;intro gp W H
 refine sf (esk (pointC Ex.pt) U U U ts27 (len_point Ex.len_pt) pt_one H (by rw [len_zPt];decide) (spl_all ((len_point Ex.len_pt).trans len_zPt.symm)) ?_)
 clear H;intro W H
 refine lkR (sMs U (sf (ebs (xs:=[.const (.int .u8 5),.const (.int .u8 6)]) (vals:=[.int .u8 _,.int .u8 _]) (vs:=[.int .u8 _,.int .u8 _]) U U U U tu23 ts5 ty5 U U U H ?_)))
 clear H;intro gs W H
 refine sf (ecl Tryz.func9 U U (foundP (p:=Ex.path) _ (H.get (f:=Fact.ex S gc gi go)).1 (H.gat hG) (H.gl hB) Ex.fit Ex.n_path (Wt.blk_bs (S:=fun _=>True) (l:=[5,6]) (H.blk (g:=gs)) U trivial U (by decide))) ?_)
 rintro _ W ⟨A,c2,xs,he,hc2,hn1⟩
 rw [Ex.found] at he hn1
 obtain rfl:_=Value.slice A 1 c2:=he
 replace hn1:St nT _ W [Fact.row 43 36 (.slice A 1 c2) 1 xs,Fact.hits xs [(⟨Ex.pt,⟨2,[5,6]⟩,2⟩:WHit)]]:=hn1
 replace H:=H.add2 hn1
 clear hn1 hc2
 refine sAs U (lkR (sMs U (sR (dM (g:=gp) (off:=0) U H (sa (len_point Ex.len_pt)) (len_point Ex.len_pt) U U U ta27 ts27) (sf (ecl Tryz.func13 U U (spentP (p:=Ex.path) _ (H.get (f:=Fact.ex S gc gi go)).1 Ex.fit Ex.len_pt Ex.n_pt) ?_)))))
 rintro _ W ⟨⟨Sz,Az,cz,Bz,dz,tz,nz,kz⟩,hz,he,hn1⟩
 unfold SpO.Is at hz
 rw [Ex.spent] at hz he
 dsimp only at hz
 obtain ⟨rfl,rfl,rfl⟩:=hz
 obtain rfl:_=Value.tuple #[.agg (spC Az 1 cz Bz 1 dz 0 0 1).toArray,.bool true]:=he
 replace hn1:St nT _ W [Fact.zc 71 41 Sz Az cz Bz dz Ex.u]:=hn1
 replace H:=H.add1 hn1
 clear hn1
 refine sMt U (sEx U U (sEx U U (sf (eal (spC none 0 0 none 0 0 0 0 0) tz49 H ?_))))
 clear H;intro gz W H
 refine sf (esk (spC Az 1 cz Bz 1 dz 0 0 1) U U U ts49 U U H (by decide) U ?_)
 clear H;intro W H
 refine sAb U (ln (kQ (k_cut 29 [8,9] (fun sl W=>∃gy:Nat,sl=[(8,.pointer (some ⟨gy,0,none⟩)),(9,.bool true)]∧St nT w W [Fact.blk gy (Ex.x.map u8v) 25,Fact.blk gz (spC Az 1 cz Bz 1 dz 0 0 1) 49,Fact.zc 71 41 Sz Az cz Bz dz Ex.u,Fact.row 43 36 (.slice A 1 c2) 1 xs,Fact.hits xs [(⟨Ex.pt,⟨2,[5,6]⟩,2⟩:WHit)],Fact.blk gs [.int .u8 5,.int .u8 6] 5,Fact.blk gp (pointC Ex.pt) 27,Fact.blk gx (Ex.x.map u8v) 25,Fact.blk gt (txC (some ⟨gi,0,none⟩) 1 1 (some ⟨go,0,none⟩) 2 2 0) 47,Fact.ex S gc gi go]) ?_ (fun sl ρv W hJ=>?_))))
 ·skip
  refine k_drawT (.rd 0 (.rd 1 (.rd 2 (.many 7 [3,8] fun j=>(bif Nat.beq j 3 then (.many 6 [4,8] fun j=>(bif Nat.beq j 4 then (.rd 5 (.rd 6 (.rd 7 (.ef 8 (.ef 9 (.rd 10 .nil)))))) else (.ef 4 (.rd 5 (.rd 6 (.rd 7 (.ef 9 (.rd 10 .nil)))))))) else (.ef 3 (.ef 4 (.rd 5 (.rd 6 (.rd 7 (.ef 9 (.rd 10 .nil)))))))))))) [Fact.blk gz (spC Az 1 cz Bz 1 dz 0 0 1) 49,Fact.zc 71 41 Sz Az cz Bz dz Ex.u,Fact.row 43 36 (.slice A 1 c2) 1 xs,Fact.hits xs [(⟨Ex.pt,⟨2,[5,6]⟩,2⟩:WHit)],Fact.blk gs [.int .u8 5,.int .u8 6] 5,Fact.blk gp (pointC Ex.pt) 27,Fact.blk gx (Ex.x.map u8v) 25,Fact.blk gt (txC (some ⟨gi,0,none⟩) 1 1 (some ⟨go,0,none⟩) 2 2 0) 47,Fact.ex S gc gi go] (by kernel_rfl) (by kernel_rfl) H (.refl _) ?_
  clear H;intro W H
  refine tR U (fun W H=>mv_s U U) (tR U (fun W H=>dM (g:=gp) (off:=0) U H (sa (len_point Ex.len_pt)) (len_point Ex.len_pt) U U U ta27 ts27) (tR U (fun W H=>d_arrA U U tu25 ts5) (t_each ?_ ?_)))
  ·skip
   refine tf U (eI Tryz.func24 U U (sumB _ (H.gl hB) (Wt.blk_bs (S:=fun _=>True) (H.blk (g:=gx)) U trivial Ex.len_x (by decide)) (by rw [Ex.len_x];decide)) H ?_)
   clear H;intro W H
   refine ⟨_,fun _ h=>h,H.sb,?_⟩
   refine t_each ?_ ?_
   ·skip
    refine tf U (ecl Tryz.func17 U U (secretP (p:=Ex.path) _ (H.get (f:=Fact.ex S gc gi go)).1 (H.gat hG) (H.gl hB) Ex.fit Ex.len_pt Ex.n_pt (Old.Bl.len_sum _)) ?_)
    rintro _ W ⟨he,hb⟩
    rw [Ex.secret] at he
    obtain rfl:_=Value.tuple #[.agg (Ex.x.map u8v).toArray,.bool true]:=he
    replace H:=H.below hb
    clear hb
    refine ⟨_,fun _ h=>h,H.sb,?_⟩
    refine tR U (fun W H=>mv_t U U) (tR U (fun W H=>d_ext U U U) (tR U (fun W H=>d_ext U U U) (tf U (eal (List.replicate 32 (u8v 0)) tz25 H ?_))))
    clear H;intro gy W H
    refine ⟨_,fun _ h=>h,H.sb,?_⟩
    refine tf U (esk (Ex.x.map u8v) U U U ts25 (by rw [List.length_map];exact Ex.len_x) (all_u8L _) H (by decide) (spl_all (by rw [List.length_map,List.length_replicate];exact Ex.len_x)) ?_)
    clear H;intro W H
    refine ⟨_,fun _ h=>h,H.sb,?_⟩
    refine tR U (fun W H=>as_b U U) (t_nil (kn (n_then ?_)))
    refine ⟨_,_,U,?_,?_,⟨gy,U,H.pm⟩⟩
    ·with_reducible repeat first|exact .refl|refine .f ?_ ?_ ?_;kernel_rfl;kernel_rfl|refine .u ?_ ?_;kernel_rfl
    ·refine ⟨?_,?_,trivial⟩
     ·exact U
     ·exact U
   refine t_each ?_ ?_
   ·skip
    refine tf U (eal (List.replicate 32 (u8v 0)) tz25 H ?_)
    clear H;intro gy W H
    refine ⟨_,fun _ h=>h,H.sb,?_⟩
    refine tf U (ecl Tryz.func17 U U (secretP (p:=Ex.path) _ (H.get (f:=Fact.ex S gc gi go)).1 (H.gat hG) (H.gl hB) Ex.fit Ex.len_pt Ex.n_pt (Old.Bl.len_sum _)) ?_)
    rintro _ W ⟨he,hb⟩
    rw [Ex.secret] at he
    obtain rfl:_=Value.tuple #[.agg (Ex.x.map u8v).toArray,.bool true]:=he
    replace H:=H.below hb
    clear hb
    refine ⟨_,fun _ h=>h,H.sb,?_⟩
    refine tR U (fun W H=>mv_t U U) (tR U (fun W H=>d_ext U U U) (tR U (fun W H=>d_ext U U U) (tf U (esk (Ex.x.map u8v) U U U ts25 (by rw [List.length_map];exact Ex.len_x) (all_u8L _) H (by decide) (spl_all (by rw [List.length_map,List.length_replicate];exact Ex.len_x)) ?_))))
    clear H;intro W H
    refine ⟨_,fun _ h=>h,H.sb,?_⟩
    refine tR U (fun W H=>as_b U U) (t_nil (kn (n_then ?_)))
    refine ⟨_,_,U,?_,?_,⟨gy,U,H.pm⟩⟩
    ·with_reducible repeat first|exact .refl|refine .f ?_ ?_ ?_;kernel_rfl;kernel_rfl|refine .u ?_ ?_;kernel_rfl
    ·refine ⟨?_,?_,trivial⟩
     ·exact U
     ·exact U
   exact t_none
  refine t_each ?_ ?_
  ·skip
   refine tf U (eal (List.replicate 32 (u8v 0)) tz25 H ?_)
   clear H;intro gy W H
   refine ⟨_,fun _ h=>h,H.sb,?_⟩
   refine tf U (eI Tryz.func24 U U (sumB _ (H.gl hB) (Wt.blk_bs (S:=fun _=>True) (H.blk (g:=gx)) U trivial Ex.len_x (by decide)) (by rw [Ex.len_x];decide)) H ?_)
   clear H;intro W H
   refine ⟨_,fun _ h=>h,H.sb,?_⟩
   refine tf U (ecl Tryz.func17 U U (secretP (p:=Ex.path) _ (H.get (f:=Fact.ex S gc gi go)).1 (H.gat hG) (H.gl hB) Ex.fit Ex.len_pt Ex.n_pt (Old.Bl.len_sum _)) ?_)
   rintro _ W ⟨he,hb⟩
   rw [Ex.secret] at he
   obtain rfl:_=Value.tuple #[.agg (Ex.x.map u8v).toArray,.bool true]:=he
   replace H:=H.below hb
   clear hb
   refine ⟨_,fun _ h=>h,H.sb,?_⟩
   refine tR U (fun W H=>mv_t U U) (tR U (fun W H=>d_ext U U U) (tR U (fun W H=>d_ext U U U) (tf U (esk (Ex.x.map u8v) U U U ts25 (by rw [List.length_map];exact Ex.len_x) (all_u8L _) H (by decide) (spl_all (by rw [List.length_map,List.length_replicate];exact Ex.len_x)) ?_))))
   clear H;intro W H
   refine ⟨_,fun _ h=>h,H.sb,?_⟩
   refine tR U (fun W H=>as_b U U) (t_nil (kn (n_then ?_)))
   refine ⟨_,_,U,?_,?_,⟨gy,U,H.pm⟩⟩
   ·with_reducible repeat first|exact .refl|refine .f ?_ ?_ ?_;kernel_rfl;kernel_rfl|refine .u ?_ ?_;kernel_rfl
   ·refine ⟨?_,?_,trivial⟩
    ·exact U
    ·exact U
  exact t_none
 clear H;obtain ⟨gy,rfl,H⟩:=hJ
 refine kR (sMs U (sR (dM (g:=gp) (off:=0) U H (sa (len_point Ex.len_pt)) (len_point Ex.len_pt) U U U ta27 ts27) (sR (dB (vs:=(List.replicate 32 (0:UInt8)).map u8v) U (by kernel_rfl)) ?_)))
 refine sf (ecl Tryz.func17 U U (secretP (p:=Ex.path) (h:=List.replicate 32 0) _ (H.get (f:=Fact.ex S gc gi go)).1 (H.gat hG) (H.gl hB) Ex.fit Ex.len_pt Ex.n_pt List.length_replicate) ?_)
 rintro _ W ⟨he,hb⟩
 rw [Ex.secret0] at he
 obtain rfl:_=Value.tuple #[.agg ((List.replicate 32 (0:UInt8)).map u8v).toArray,.bool false]:=he
 replace H:=H.below hb
 clear hb
 refine sMt U (sEx U U (sEx U U (sf (eal (List.replicate 32 (u8v 0)) tz25 H ?_))))
 clear H;intro g0 W H
 refine sf (esk ((List.replicate 32 (0:UInt8)).map u8v) U U U ts25 (by simp) (all_u8L _) H (by decide) (spl_all (by simp)) ?_)
 clear H;intro W H
 refine sAb U (ln (kQ ?_))
 obtain ⟨gh,rfl⟩:=row_own (H.get (f:=Fact.row 43 36 (.slice A 1 c2) 1 xs)) (by decide)
 obtain ⟨Ah,ch,hLh,hok,-⟩:=(H.get (f:=Fact.hits xs [(⟨Ex.pt,⟨2,[5,6]⟩,2⟩:WHit)])).2.1 0 _ rfl
 refine k_draw [(0,true),(1,true),(2,true),(3,true),(4,true),(5,true),(6,true),(7,true),(8,true),(9,true),(10,true),(11,true),(12,true),(13,true),(14,true),(15,true),(16,true),(17,true),(18,true),(19,true),(20,true),(21,true),(22,true),(23,true),(24,true),(25,true),(26,true),(27,true),(28,true),(29,true),(30,true),(31,true),(32,true),(33,true),(34,true),(35,true),(36,true),(37,true),(38,true),(39,true),(40,true),(41,true),(42,true),(43,true),(44,true),(45,true),(46,true),(47,true),(48,true),(49,true),(50,true),(51,true),(52,true),(53,true),(54,false),(55,false),(56,true),(57,true),(58,true)] _ (by kernel_rfl) (by kernel_rfl) H (.refl _) ?_
 clear H;intro W H
 refine cMs U U (cR U (fun W H=>d_len U U tu34) (cR U (fun W H=>d_eq U U U) (cR U (fun W H=>mv_bx (c:=true) U U (by rfl)) ?_)))
 refine c_run U (w_g U U U U) U (fun W H=>mv_s U U) (c_run U (w_g U U U U) U (fun W H=>dG U ((Rd.of_own (H.get (f:=Fact.row 43 36 (.slice (some ⟨gh,0,none⟩) 1 c2) 1 xs)))) U U (q:=0) U (by decide) tu34 ts43) (c_run U (w_g U U U U) U (fun W H=>dF U U tf43_0) (c_run U (w_g U U U U) U (fun W H=>dN (off:=0) U ((Rd.of_own (H.get (f:=Fact.row 43 36 (.slice (some ⟨gh,0,none⟩) 1 c2) 1 xs)))) (by decide) hLh (sub_hit_p hok) U U (by omega) ta27 ts27) (c_run U (w_g U U U U) U (fun W H=>dM (g:=gp) (off:=0) U H (sa (len_point Ex.len_pt)) (len_point Ex.len_pt) U U U ta27 ts27) (c_run U (w_g U U U U) U (fun W H=>d_eqst (r:=beqPoint Ex.pt Ex.pt) U U U (eq_Point (d:=9997) (point_rep (W:=w) (S:=nT) Ex.len_pt Ex.n_pt) (point_rep (W:=w) (S:=nT) Ex.len_pt Ex.n_pt)) (by kernel_rfl)) ?_)))))
 refine cR U (fun W H=>d_pickT U U U) (cR U (fun W H=>mv_bx (c:=true) U U (by exact beqPoint_iff.2 U)) ?_)
 refine c_run U (w_g U U U U) U (fun W H=>mv_s U U) (c_run U (w_g U U U U) U (fun W H=>dG U ((Rd.of_own (H.get (f:=Fact.row 43 36 (.slice (some ⟨gh,0,none⟩) 1 c2) 1 xs)))) U U (q:=0) U (by decide) tu34 ts43) (c_run U (w_g U U U U) U (fun W H=>dF U U tf43_2) (c_run U (w_g U U U U) U (fun W H=>dE (off:=35) U ((Rd.of_own (H.get (f:=Fact.row 43 36 (.slice (some ⟨gh,0,none⟩) 1 c2) 1 xs)))) (by decide) hLh (sub_hit_d hok) U U (by omega) ta3) (c_run U (w_g U U U U) U (fun W H=>d_eq U U U) (cR U (fun W H=>d_pickT U U U) (cR U (fun W H=>mv_bx (c:=true) U U (by rfl)) ?_))))))
 refine c_run U (w_g U U U U) U (fun W H=>mv_s U U) (c_run U (w_g U U U U) U (fun W H=>dG U ((Rd.of_own (H.get (f:=Fact.row 43 36 (.slice (some ⟨gh,0,none⟩) 1 c2) 1 xs)))) U U (q:=0) U (by decide) tu34 ts43) (c_run U (w_g U U U U) U (fun W H=>dF U U tf43_1) (c_run U (w_g U U U U) U (fun W H=>dF U U tf41_0) (c_run U (w_g U U U U) U (fun W H=>dE (off:=33) U ((Rd.of_own (H.get (f:=Fact.row 43 36 (.slice (some ⟨gh,0,none⟩) 1 c2) 1 xs)))) (by decide) hLh (sub_hit_v hok) U U (by omega) ta3) (c_run U (w_g U U U U) U (fun W H=>d_eq U U U) (cR U (fun W H=>d_pickT U U U) (cR U (fun W H=>mv_bx (c:=true) U U (by rfl)) ?_)))))))
 refine c_run U (w_g U U U U) U (fun W H=>mv_b U U) (cR U (fun W H=>d_pickT U U U) (cR U (fun W H=>mv_bx (c:=true) U U (by rfl)) ?_))
 refine c_run U (w_g U U U U) U (fun W H=>dF U U tf49_1) (c_run U (w_g U U U U) U (fun W H=>dX (g:=gz) (off:=3) U H U U U ta3) (c_run U (w_g U U U U) U (fun W H=>d_eq U U U) (cR U (fun W H=>d_pickT U U U) (cR U (fun W H=>mv_bx (c:=true) U U (by rfl)) ?_))))
 refine c_run U (w_g U U U U) U (fun W H=>dF U U tf49_2) (c_run U (w_g U U U U) U (fun W H=>dX (g:=gz) (off:=4) U H U U U ta3) (c_run U (w_g U U U U) U (fun W H=>d_eq U U U) (cR U (fun W H=>d_pickT U U U) (cR U (fun W H=>mv_bx (c:=true) U U (by rfl)) ?_))))
 refine c_run U (w_g U U U U) U (fun W H=>d_ldm0 (g:=gy) U H U ta25 ts25 (by rw [List.length_map];exact Ex.len_x)) ?_
 refine c_run U (w_g U U U U) U (fun W H=>d_ldm0 (g:=gx) U H U ta25 ts25 (by rw [List.length_map];exact Ex.len_x)) ?_
 refine c_run U (w_g U U U U) U (fun W H=>d_eqarr U U U tu25 tu5 ts5 Ex.len_x Ex.len_x (by kernel_rfl)) ?_
 refine cR U (fun W H=>d_pickT U U U) (cR U (fun W H=>mv_bx (c:=true) U U (by exact beq_self_eq_true _)) ?_)
 refine c_run U (w_g U U U U) U (fun W H=>mv_b U U) (cR U (fun W H=>d_pickT U U U) (cR U (fun W H=>mv_bx (c:=true) U U (by rfl)) ?_))
 refine c_run U (w_g U U U U) U (fun W H=>mv_b U U) (c_run U (w_g U U U U) U (fun W H=>d_not U U) (cR U (fun W H=>d_pickT U U U) (cR U (fun W H=>mv_bx (c:=true) U U (by rfl)) ?_)))
 refine c_run U (w_g U U U U) U (fun W H=>mv_s U U) (c_run U (w_g U U U U) U (fun W H=>dM (g:=gt) (off:=0) U H (sa (a:=txC (some ⟨gi,0,none⟩) 1 1 (some ⟨go,0,none⟩) 2 2 0) (m:=3) U) U U U U ta47 ts47) (cf U (e_call (w_g U U U U) U U Tryz.func25 U U U (idTP _ (H.get (f:=Fact.ex S gc gi go)).2 (H.gat hG) (H.gl hB)) ?_)))
 rintro _ W ⟨rfl,hb⟩
 replace H:=H.below hb
 clear hb
 refine ⟨H.sb,?_⟩
 refine cf U (e_call (w_g U U U U) U U Tryz.func19 U U U (depthP (p:=Ex.path) _ (H.get (f:=Fact.ex S gc gi go)).1 (H.gat hG) (H.gl hB) Tx.len_dig) ?_)
 rintro _ W ⟨rfl,hb⟩
 replace H:=H.below hb
 clear hb
 rw [Ex.depth]
 refine ⟨H.sb,?_⟩
 refine c_run U (w_g U U U U) U (fun W H=>d_eq U U U) (cR U (fun W H=>d_pickT U U U) (cR U (fun W H=>as_b U U) (c_nil (kx ?_))))
 exact qr (v:=.bool _) U U ⟨_,U,vb (U),H.under⟩
end Go.Proofs.YtjjodibkmeefpaaGreatDoor
