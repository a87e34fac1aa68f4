import Derived.Test.YtjjodibkmeefpaaGreatDoorMWB
import Derived.Test.YtjjodibkmeefpaaGreatDoorMWA
set_option linter.unusedVariables false
set_option linter.unusedSimpArgs false
set_option maxHeartbeats 4000000

namespace Go.Proofs.YtjjodibkmeefpaaGreatDoor
open Go Go.RowKit
attribute [local irreducible] wpList

theorem eqBytes {S S1:Nat->Prop} {v u:Value} {a b:List UInt8} (w:World) (ha:Bs w S v a) (hb:Bs w S1 u b):Calls Tryz.prog 33 [v,u].toArray w (Ret (Is w (.bool (decide (a=b))))):=by
 obtain ⟨A,c,rfl,-,-,-⟩:=ha.op
 obtain ⟨A1,c1,rfl,-,-,-⟩:=hb.op
 refine kE (l:=[_,_]) Tryz.func33 U U ?_
 have H:=St.start nT w
 refine kR (sAb U (lkR (sMs U (sR (d_str U (H.bs ha) U tu23 tu5 tu9) (sMs U (sR (d_str U (H.bs hb) U tu23 tu5 tu9) (sR (d_seq U U U strB_eq) (sAb U (ln (kx ?_))))))))))
 exact qr (v:=.bool _) U U ⟨_,U,U,H.under⟩

theorem flat_fd {p:List DBlock} {s:List UInt8}:Wt.found (Tx.dig Tx.tTx) p s=Wt.hitsF (Tx.dig Tx.tTx) s (flatP p):=Wt.found_flat _ _
structure HZ where
 A:Option Addr
 c:Nat
 xs:List Value
 l:List WHit

theorem foundP {S:Nat->Prop} {B:Option Addr} {c:Nat} {p:List DBlock} (w:World) (hl:RL 66 RBlock w S [.slice B p.length c] p) (hG:Gat w 2 formsC) (hB:Old.Gl w) (hP:∀b∈p,∀t∈b.txs,Tx.FitW t) (hN:(flatP p).length<=100000) {S1:Nat->Prop} {u:Value} {s:List UInt8} (hs:Bs w S1 u s):Calls Tryz.prog 9 [.slice B p.length c,u].toArray w (Ret (fun v' w'=>∃A c2 xs,v'=.slice A (Wt.found (Tx.dig Tx.tTx) p s).length c2∧((Wt.found (Tx.dig Tx.tTx) p s).length<=c2∧c2<=9223372036854775807)∧St nT w w' [Fact.row 43 36 (.slice A (Wt.found (Tx.dig Tx.tTx) p s).length c2) (Wt.found (Tx.dig Tx.tTx) p s).length xs,Fact.hits xs (Wt.found (Tx.dig Tx.tTx) p s)])):=by
 obtain ⟨As,cs_,rfl,-,-,-⟩:=hs.op
 refine k_enterM (l:=[_,_]) Tryz.func9 U U ?_
 have H:=St.start nT w
 refine kR (sf (ebx (vs:=[.slice As s.length cs_]) U U H ?_))
 clear H;intro gs W H
 refine sf (eal [.slice none 0 0] tz34 H ?_)
 clear H;intro gl W H
 refine ln (kQ (kR (sMs U (sf (ecl Tryz.func32 U U (allP _) ?_)))))
 rintro _ W ⟨q,rfl,hn1⟩
 replace H:=H.new hn1
 clear hn1
 refine ln (kb ?_)
 have hq:=gatb (H.blk (g:=q))
 have hQ:=blk_lt (H.blk (g:=q))
 have hGl:=blk_lt (H.blk (g:=gl))
 have hGs:=blk_lt (H.blk (g:=gs))
 replace H:=((H.hits0).nilrow 43 36).perm (List.perm_middle (l₁:=[_,_]))
 refine k_rangeB (α:=WXs w S Tx.FitW) (β:=HZ) (β':=Unit) [Fact.blk q [.slice B p.length c] 22] (fun _ z=>[Fact.row 43 36 (.slice z.A z.l.length z.c) z.l.length z.xs,Fact.hits z.xs z.l,Fact.blk gl [.slice z.A z.l.length z.c] 34,Fact.blk gs [.slice As s.length cs_] 23]) (fun pre z=>z.l=Wt.hitsF (Tx.dig Tx.tTx) s (pls pre)∧(z.l.length<=z.c∧z.c<=9223372036854775807)∧z.l.length<=pre.length*1000000) (fun _ _=>[]) (fun _ _=>False) (SnHits gl 34 43 36) (fun x=>x.1.cs) 47 (fun ρ x=>upd (upd ρ 11 (.int .i64 x.1.d)) 12 (.agg x.1.cs.toArray)) (fun ρ x g=>upd (upd (upd (upd ρ 11 (.int .i64 x.1.d)) 12 (.agg x.1.cs.toArray)) 5 (.int .i64 x.1.d)) 6 (.pointer (some ⟨g,0,none⟩))) ⟨none,0,[],[]⟩ U Tryz.func52 U U (all_stops (K0:=(·=q)) w W H.under hq U (fun g hg=>by subst hg;exact hQ) hl hP) (fun _=>U) (fun _=>ra_two) H ⟨U,⟨Nat.le_refl _,by decide⟩,Nat.zero_le _⟩ (fun g hg=>⟨_,.head _,hg⟩) (snapHits hGl) (fun pre z W1 hC H1=>s1_hits hGl H1 (fp_cons (fp_eq hGs) fp_nil)) (fun pre z W1 hC H1 f hf=>by cases hf) ?_ ?_ ?_ ?_
 ·intro l x W1
  clear H
  have H:=St.start nT W1
  refine y_seq ?_
  obtain ⟨⟨xd,xc,xt⟩,hx0,hft⟩:=x
  obtain ⟨Ai,ci,Bi,di,hL_,-,hOx,hkt⟩:=tx_of hx0
  dsimp only at hL_ hft hOx
  subst hL_
  refine y_region (rX (fun _=>trivial) (fun c h=>by cases h) (wn U) U (as_i U U) ?_)
  refine ry_nil (y_region (r_eff (fun _=>trivial) (fun c h=>by cases h) (e_alloc (wn U) U U [.slice none 0 0,.slice none 0 0,.int .i64 0] tz47 H ?_)))
  clear H;intro gx W H
  refine r_eff (fun _=>trivial) (fun c h=>by cases h) (e_stoK (txC Ai xt.ins.length ci Bi xt.outs.length di xt.lock) (wn U) U U U U U ts47 U U H (by decide) U ?_)
  clear H;intro W H
  refine ry_nil (y_nil (round_a ?_))
  exact ⟨gx,U,H.under,(H.own _ (.head _) gx U).1.resolve_left (fun h=>h),H.blk⟩
 ·rintro l_ pre x z gx W1 T1 ⟨hC,hzc,hzn⟩ hlen hpast H
  have hRx:=x.2.1
  obtain ⟨⟨xd,xc,xt⟩,hx0,hft⟩:=x
  obtain ⟨Ai,ci,Bi,di,hL_,-,hOx,hkt⟩:=tx_of hx0
  dsimp only at hL_ hft hOx
  subst hL_
  replace H:St T1 W1 W1 (Fact.blk gx (txC Ai xt.ins.length ci Bi xt.outs.length di xt.lock) 47::[Fact.row 43 36 (.slice z.A z.l.length z.c) z.l.length z.xs,Fact.hits z.xs z.l,Fact.blk gl [.slice z.A z.l.length z.c] 34,Fact.blk gs [.slice As s.length cs_] 23]):=H
  have hOl:=rl_len hOx
  obtain ⟨B_,d_,ys,hv_,-,-,hr,hel⟩:=hOx
  cases hv_
  have hon:=hft.2.n.2
  refine y_block (y_seq (y_region (rX (fun _=>trivial) (fun c h=>by cases h) (wn U) U (dF U U tf47_1) ?_)))
  refine rX (fun _=>trivial) (fun c h=>by cases h) (wn U) U (dX (g:=gx) (off:=1) U H U U U ta45) ?_
  refine rX (fun _=>trivial) (fun c h=>by cases h) (wn U) U (d_len U U tu45) ?_
  refine rX (fun _=>trivial) (fun c h=>by cases h) (wn U) U (mv_i U U) ?_
  refine ry_nil (y_block (y_loop 16 [7,8] (fun mm sl W=>∃k:Nat,∃A1:Option Addr,∃c1:Nat,∃xs1:List Value,∃l1:List WHit,xt.outs.length - k=mm∧sl=[(16,.int .i64 (k:Int))]∧(k<=xt.outs.length)∧(l1=z.l++Wt.hitsO (Tx.dig Tx.tTx) xt xd s (xt.outs.take k) 0)∧(l1.length<=c1∧c1<=9223372036854775807)∧(l1.length<=pre.length*1000000+k)∧St T1 W1 W [Fact.blk gx (txC Ai xt.ins.length ci Bi xt.outs.length di xt.lock) 47,Fact.row 43 36 (.slice A1 l1.length c1) l1.length xs1,Fact.hits xs1 l1,Fact.blk gl [.slice A1 l1.length c1] 34,Fact.blk gs [.slice As s.length cs_] 23]) _ _ ⟨0,z.A,z.c,z.xs,z.l,U,U,Nat.zero_le _,(List.append_nil _).symm,hzc,(Nat.le_trans hzn (Nat.le_add_right _ _)),H⟩ ⟨U,trivial⟩ (fun mm sl ρv W hJ=>?_)))
  clear H;obtain ⟨k,A1,c1,xs1,l1,rfl,rfl,hk,hl1,hc1,hn1,H⟩:=hJ
  refine y_one (y_seq (y_region (rX (fun _=>trivial) (fun c h=>by cases h) (wn U) U (d_lt U U U) ?_)))
  refine ry_nil (y_seq (y_cond U (fun hc17=>?_) (fun hc17=>?_)))
  ·have hlk:k<xt.outs.length:=by simp at hc17;omega
   obtain ⟨g0,o0,rfl,-⟩:=hr.2 (by omega)
   obtain ⟨o,ho⟩:=get_lt hlk
   obtain ⟨Ao,co,hLk,hBo,hno⟩:=out_of (hel k o ho)
   have hso:=hft.1.scr o (List.mem_of_getElem? ho)
   have hdl:(Tx.dig Tx.tTx xt).length=32:=Tx.len_dig
   have hdm:((Tx.dig Tx.tTx xt).map u8v).length=32:=by rw [List.length_map];exact hdl
   have hol:∀a c,(outC o.value a o.script.length c).length=2:=fun _ _=>rfl
   have hpl:(pointC ⟨Tx.dig Tx.tTx xt,(k:Int)⟩).length=33:=len_point hdl
   have hok:OkHit (⟨⟨Tx.dig Tx.tTx xt,(k:Int)⟩,⟨o.value,s⟩,xd⟩:WHit):=⟨hdl,⟨by dsimp only;omega,by dsimp only;omega⟩,hno⟩
   refine y_skip (y_seq (y_block (y_seq (y_region (rX (fun _=>trivial) (fun c h=>by cases h) (wn U) U (mv_i U U) ?_)))))
   refine rX (fun _=>trivial) (fun c h=>by cases h) (wn U) U (dG U (hr.keep (fun g hg _=>(hpast _ H.fr).block g hg)) U U (q:=k) U hlk tu45 ts41) ?_
   refine rX (fun _=>trivial) (fun c h=>by cases h) (wn U) U (dN (off:=0) U (hr.keep (fun g hg _=>(hpast _ H.fr).block g hg)) hlk hLk (sa (a:=outC o.value Ao o.script.length co) (m:=2) U) U U (by omega) ta41 ts41) ?_
   refine r_eff (fun _=>trivial) (fun c h=>by cases h) (e_alloc (wn U) U U [.int .i64 0,.slice none 0 0] tz41 H ?_)
   clear H;intro go W H
   refine rX (fun _=>trivial) (fun c h=>by cases h) (wn U) U (as_i U U) ?_
   refine r_eff (fun _=>trivial) (fun c h=>by cases h) (e_stoK (outC o.value Ao o.script.length co) (wn U) U U U U U ts41 U U H (by decide) U ?_)
   clear H;intro W H
   refine ry_nil (y_seq (y_seq (y_region (rX (fun _=>trivial) (fun c h=>by cases h) (wn U) U (dF U U tf41_1) ?_))))
   refine rX (fun _=>trivial) (fun c h=>by cases h) (wn U) U (dX (g:=go) (off:=1) U H U U U ta23) ?_
   refine rX (fun _=>trivial) (fun c h=>by cases h) (wn U) U (dX (g:=gs) (off:=0) U H U U U ta23) ?_
   refine r_eff (fun _=>trivial) (fun c h=>by cases h) (e_call (wn U) U U Tryz.func33 U U U (eqBytes _ (hBo.keep (fun g hg _=>(hpast _ H.fr).block g hg)) (hs.keep (fun g hg _=>(hpast _ H.fr).block g hg))) ?_)
   rintro _ W ⟨rfl,hb⟩
   replace H:=H.below hb
   clear hb
   refine rX (fun _=>trivial) (fun c h=>by cases h) (wn U) U (d_not U U) ?_
   refine ry_nil (y_cond U (fun hc25=>?_) (fun hc25=>?_))
   ·have hne:¬o.script=s:=by simpa using hc25
    refine y_exit (xH (y_region (rX (fun _=>trivial) (fun c h=>by cases h) (wn U) U (d_add U U U (by omega)) ?_)))
    refine rX (fun _=>trivial) (fun c h=>by cases h) (wn U) U (mv_i U U) ?_
    refine ry_nil (y_nil (kY ?_))
    replace H:=H.drop
    refine ⟨_,_,_,?_,U,?_,?_,⟨k+1,A1,c1,xs1,l1,U,U,by omega,(by rw [Wt.hitsO_take ho,if_neg hne,List.append_nil];exact hl1),hc1,(by omega),H⟩⟩
    ·omega
    ·with_reducible repeat first|exact .refl|refine .f ?_ ?_ ?_;kernel_rfl;kernel_rfl|refine .u ?_ ?_;kernel_rfl
    ·refine ⟨?_,trivial⟩
     ·exact vi (by omega)
   ·have he:o.script=s:=by simpa using hc25
    refine y_skip (y_seq (y_region (rX (fun _=>trivial) (fun c h=>by cases h) (wn U) U (dF U U tf41_1) ?_)))
    refine rX (fun _=>trivial) (fun c h=>by cases h) (wn U) U (dX (g:=go) (off:=1) U H U U U ta23) ?_
    refine r_eff (fun _=>trivial) (fun c h=>by cases h) (e_call (wn U) U U Tryz.func34 U U U (clone _ (hBo.keep (fun g hg _=>(hpast _ H.fr).block g hg)) hso) ?_)
    rintro _ W ⟨A5,c5,rfl,hc5,hd5,hn⟩
    replace H:=H.new hn
    clear hn
    refine rX (fun _=>trivial) (fun c h=>by cases h) (wn U) U (dF U U tf41_1) ?_
    refine r_eff (fun _=>trivial) (fun c h=>by cases h) (e_stoK (v:=.slice A5 o.script.length c5) (vs:=[.slice A5 o.script.length c5]) (outC o.value A5 o.script.length c5) (wn U) U U U U U ts23 U U H (Nat.le_of_ble_eq_true U) U ?_)
    clear H;intro W H
    refine ry_nil (y_cut 30 [] (fun sl W=>∃A8:Option Addr,∃c8:Nat,∃xs8:List Value,sl=[]∧(l1.length+1<=c8∧c8<=9223372036854775807)∧St T1 W1 W [Fact.blk gx (txC Ai xt.ins.length ci (some ⟨g0,o0,none⟩) xt.outs.length di xt.lock) 47,Fact.row 43 36 (.slice A8 (l1.length+1) c8) (l1.length+1) xs8,Fact.hits xs8 (l1++[(⟨⟨Tx.dig Tx.tTx xt,(k:Int)⟩,⟨o.value,s⟩,xd⟩:WHit)]),Fact.blk gl [.slice A8 (l1.length+1) c8] 34,Fact.blk gs [.slice As s.length cs_] 23]) ?_ (fun sl ρv W hJ=>?_))
    ·skip
     refine y_drawT (.rd 1 (.rd 3 (.rd 5 (.rd 6 (.many 6 [0,2] fun j=>(bif Nat.beq j 0 then (.ef 2 (.rd 4 (.rd 7 (.ef 8 (.ef 9 (.ef 10 .nil)))))) else (.rd 4 (.rd 7 (.many 3 [0,8] fun j=>(bif Nat.beq j 0 then (.ef 8 (.ef 9 (.ef 10 .nil))) else (.ef 0 (.ef 9 (.ef 10 .nil))))))))))))) [Fact.blk go (outC o.value A5 o.script.length c5) 41,Fact.blk gx (txC Ai xt.ins.length ci (some ⟨g0,o0,none⟩) xt.outs.length di xt.lock) 47] (by kernel_rfl) (by kernel_rfl) (by rfl) (fun ⟨_,_,h⟩=>(h:False)) H (by repeat (first|exact .refl _|exact List.nil_sublist _|refine .cons_cons _ ?_|refine .cons _ ?_)) ?_
     clear H;intro W H
     refine tR U (fun W H=>dM (g:=gx) (off:=0) U H (sa (a:=txC Ai xt.ins.length ci (some ⟨g0,o0,none⟩) xt.outs.length di xt.lock) (m:=3) U) U U U U ta47 ts47) (tR U (fun W H=>mv_i U U) (tR U (fun W H=>dM (g:=go) (off:=0) U H (sa (a:=outC o.value A5 o.script.length c5) (m:=2) U) U U U U ta41 ts41) (tR U (fun W H=>mv_i U U) (t_each ?_ ?_))))
     ·skip
      refine tf U (e_run (wn U) U (d_ld U H U ta34 U) ?_)
      refine ⟨_,fun _ h=>h,H.sb,?_⟩
      refine tf U (eI Tryz.func25 U U (idTP _ (keeps_Tx _ _ _ _ _ hRx (fun g hg _=>(hpast _ H.fr).block g hg)) (hG.keep (hpast _ H.fr)) (hB.below (hpast _ H.fr) (Nat.le_refl _))) H ?_)
      clear H;intro W H
      refine ⟨_,fun _ h=>h,H.sb,?_⟩
      refine tR U (fun W H=>dB (vs:=pointC ⟨Tx.dig Tx.tTx xt,(k:Int)⟩) U (built_fields (places:=[(0,32),(32,1)]) tz27 (by kernel_rfl) (by kernel_rfl) (fN (vs:=(Tx.dig Tx.tTx xt).map u8v) (.agg ((Tx.dig Tx.tTx xt).map u8v).toArray) U U U hdm (Nat.le_of_ble_eq_true U) (fN (vs:=[.int .i64 (k:Int)]) (.int .i64 (k:Int)) U (by first|(simp [hdm];done)|(simp [hdm];omega)) U U (Nat.le_of_ble_eq_true U) (fill_end (by simp [pointC])))))) ?_
      refine tR U (fun W H=>dB (vs:=hitC (⟨⟨Tx.dig Tx.tTx xt,(k:Int)⟩,⟨o.value,s⟩,xd⟩:WHit) A5 o.script.length c5) U (built_fields (places:=[(0,33),(33,2),(35,1)]) tz43 (by kernel_rfl) (by kernel_rfl) (fN (vs:=pointC ⟨Tx.dig Tx.tTx xt,(k:Int)⟩) (.agg (pointC ⟨Tx.dig Tx.tTx xt,(k:Int)⟩).toArray) U U U hpl (Nat.le_of_ble_eq_true U) (fN (vs:=outC o.value A5 o.script.length c5) (.agg (outC o.value A5 o.script.length c5).toArray) U (by first|(simp [hpl];done)|(simp [hpl];omega)) U (hol _ _) (Nat.le_of_ble_eq_true U) (fN (vs:=[.int .i64 xd]) (.int .i64 xd) U (by first|(simp [hpl,(hol _ _)];done)|(simp [hpl,(hol _ _)];omega)) U U (Nat.le_of_ble_eq_true U) (fill_end (by simp [hitC,outC]))))))) ?_
      refine tf U (ebs (xs:=[.tmp 37]) (vals:=[.agg (hitC (⟨⟨Tx.dig Tx.tTx xt,(k:Int)⟩,⟨o.value,s⟩,xd⟩:WHit) A5 o.script.length c5).toArray]) (vs:=(hitC (⟨⟨Tx.dig Tx.tTx xt,(k:Int)⟩,⟨o.value,s⟩,xd⟩:WHit) A5 o.script.length c5)) U U U U tu34 ts43 ty43 U (by simp [agg_cells,len_hit hok]) (by simp [agg_cells]) H ?_)
      clear H;intro g9_8 W H
      refine ⟨_,fun _ h=>h,H.sb,?_⟩
      refine tf U (eap tu34 tx43 U U U H (rd_blk (m:=1) H.blk (len_hit hok)) (hit_one) (by omega) U ?_)
      clear H;intro A8 c8 W hc8 hd8 H
      replace H:=H.drop
      refine ⟨_,fun _ h=>h,H.sb,?_⟩
      refine tf U (esk (v:=.slice A8 (l1.length+1) c8) (vs:=[.slice A8 (l1.length+1) c8]) ([.slice A8 (l1.length+1) c8]) U U U ts34 U U H (Nat.le_of_ble_eq_true U) U ?_)
      clear H;intro W H
      refine ⟨_,fun _ h=>h,H.sb,?_⟩
      refine t_nil (y_nil (n_then ?_))
      replace H:=(H.perm (.cons _ (List.perm_middle (l₁:=[_,_,_])))).hitsnoc (h:=(⟨⟨Tx.dig Tx.tTx xt,(k:Int)⟩,⟨o.value,s⟩,xd⟩:WHit)) he.symm rfl hok
      replace H:=(H.perm (.swap _ _ _)).drop
      replace H:=H.perm (List.perm_middle (l₁:=[_,_])).symm
      refine ⟨_,_,U,?_,?_,⟨A8,c8,_,U,⟨hc8,hd8⟩,H⟩⟩
      ·with_reducible repeat first|exact .refl|refine .f ?_ ?_ ?_;kernel_rfl;kernel_rfl|refine .u ?_ ?_;kernel_rfl
      ·exact trivial
     refine t_each ?_ ?_
     ·skip
      refine tf U (eI Tryz.func25 U U (idTP _ (keeps_Tx _ _ _ _ _ hRx (fun g hg _=>(hpast _ H.fr).block g hg)) (hG.keep (hpast _ H.fr)) (hB.below (hpast _ H.fr) (Nat.le_refl _))) H ?_)
      clear H;intro W H
      refine ⟨_,fun _ h=>h,H.sb,?_⟩
      refine tR U (fun W H=>dB (vs:=pointC ⟨Tx.dig Tx.tTx xt,(k:Int)⟩) U (built_fields (places:=[(0,32),(32,1)]) tz27 (by kernel_rfl) (by kernel_rfl) (fN (vs:=(Tx.dig Tx.tTx xt).map u8v) (.agg ((Tx.dig Tx.tTx xt).map u8v).toArray) U U U hdm (Nat.le_of_ble_eq_true U) (fN (vs:=[.int .i64 (k:Int)]) (.int .i64 (k:Int)) U (by first|(simp [hdm];done)|(simp [hdm];omega)) U U (Nat.le_of_ble_eq_true U) (fill_end (by simp [pointC])))))) ?_
      refine tR U (fun W H=>dB (vs:=hitC (⟨⟨Tx.dig Tx.tTx xt,(k:Int)⟩,⟨o.value,s⟩,xd⟩:WHit) A5 o.script.length c5) U (built_fields (places:=[(0,33),(33,2),(35,1)]) tz43 (by kernel_rfl) (by kernel_rfl) (fN (vs:=pointC ⟨Tx.dig Tx.tTx xt,(k:Int)⟩) (.agg (pointC ⟨Tx.dig Tx.tTx xt,(k:Int)⟩).toArray) U U U hpl (Nat.le_of_ble_eq_true U) (fN (vs:=outC o.value A5 o.script.length c5) (.agg (outC o.value A5 o.script.length c5).toArray) U (by first|(simp [hpl];done)|(simp [hpl];omega)) U (hol _ _) (Nat.le_of_ble_eq_true U) (fN (vs:=[.int .i64 xd]) (.int .i64 xd) U (by first|(simp [hpl,(hol _ _)];done)|(simp [hpl,(hol _ _)];omega)) U U (Nat.le_of_ble_eq_true U) (fill_end (by simp [hitC,outC]))))))) ?_
      refine t_each ?_ ?_
      ·skip
       refine tf U (e_run (wn U) U (d_ld U H U ta34 U) ?_)
       refine ⟨_,fun _ h=>h,H.sb,?_⟩
       refine tf U (ebs (xs:=[.tmp 37]) (vals:=[.agg (hitC (⟨⟨Tx.dig Tx.tTx xt,(k:Int)⟩,⟨o.value,s⟩,xd⟩:WHit) A5 o.script.length c5).toArray]) (vs:=(hitC (⟨⟨Tx.dig Tx.tTx xt,(k:Int)⟩,⟨o.value,s⟩,xd⟩:WHit) A5 o.script.length c5)) U U U U tu34 ts43 ty43 U (by simp [agg_cells,len_hit hok]) (by simp [agg_cells]) H ?_)
       clear H;intro g9_8 W H
       refine ⟨_,fun _ h=>h,H.sb,?_⟩
       refine tf U (eap tu34 tx43 U U U H (rd_blk (m:=1) H.blk (len_hit hok)) (hit_one) (by omega) U ?_)
       clear H;intro A8 c8 W hc8 hd8 H
       replace H:=H.drop
       refine ⟨_,fun _ h=>h,H.sb,?_⟩
       refine tf U (esk (v:=.slice A8 (l1.length+1) c8) (vs:=[.slice A8 (l1.length+1) c8]) ([.slice A8 (l1.length+1) c8]) U U U ts34 U U H (Nat.le_of_ble_eq_true U) U ?_)
       clear H;intro W H
       refine ⟨_,fun _ h=>h,H.sb,?_⟩
       refine t_nil (y_nil (n_then ?_))
       replace H:=(H.perm (.cons _ (List.perm_middle (l₁:=[_,_,_])))).hitsnoc (h:=(⟨⟨Tx.dig Tx.tTx xt,(k:Int)⟩,⟨o.value,s⟩,xd⟩:WHit)) he.symm rfl hok
       replace H:=(H.perm (.swap _ _ _)).drop
       replace H:=H.perm (List.perm_middle (l₁:=[_,_])).symm
       refine ⟨_,_,U,?_,?_,⟨A8,c8,_,U,⟨hc8,hd8⟩,H⟩⟩
       ·with_reducible repeat first|exact .refl|refine .f ?_ ?_ ?_;kernel_rfl;kernel_rfl|refine .u ?_ ?_;kernel_rfl
       ·exact trivial
      refine t_each ?_ ?_
      ·skip
       refine tf U (ebs (xs:=[.tmp 37]) (vals:=[.agg (hitC (⟨⟨Tx.dig Tx.tTx xt,(k:Int)⟩,⟨o.value,s⟩,xd⟩:WHit) A5 o.script.length c5).toArray]) (vs:=(hitC (⟨⟨Tx.dig Tx.tTx xt,(k:Int)⟩,⟨o.value,s⟩,xd⟩:WHit) A5 o.script.length c5)) U U U U tu34 ts43 ty43 U (by simp [agg_cells,len_hit hok]) (by simp [agg_cells]) H ?_)
       clear H;intro g9_8 W H
       refine ⟨_,fun _ h=>h,H.sb,?_⟩
       refine tf U (e_run (wn U) U (d_ld U H U ta34 U) ?_)
       refine ⟨_,fun _ h=>h,H.sb,?_⟩
       refine tf U (eap tu34 tx43 U U U H (rd_blk (m:=1) H.blk (len_hit hok)) (hit_one) (by omega) U ?_)
       clear H;intro A8 c8 W hc8 hd8 H
       replace H:=H.drop
       refine ⟨_,fun _ h=>h,H.sb,?_⟩
       refine tf U (esk (v:=.slice A8 (l1.length+1) c8) (vs:=[.slice A8 (l1.length+1) c8]) ([.slice A8 (l1.length+1) c8]) U U U ts34 U U H (Nat.le_of_ble_eq_true U) U ?_)
       clear H;intro W H
       refine ⟨_,fun _ h=>h,H.sb,?_⟩
       refine t_nil (y_nil (n_then ?_))
       replace H:=(H.perm (.cons _ (List.perm_middle (l₁:=[_,_,_])))).hitsnoc (h:=(⟨⟨Tx.dig Tx.tTx xt,(k:Int)⟩,⟨o.value,s⟩,xd⟩:WHit)) he.symm rfl hok
       replace H:=(H.perm (.swap _ _ _)).drop
       replace H:=H.perm (List.perm_middle (l₁:=[_,_])).symm
       refine ⟨_,_,U,?_,?_,⟨A8,c8,_,U,⟨hc8,hd8⟩,H⟩⟩
       ·with_reducible repeat first|exact .refl|refine .f ?_ ?_ ?_;kernel_rfl;kernel_rfl|refine .u ?_ ?_;kernel_rfl
       ·exact trivial
      exact t_none
     exact t_none
    clear H;obtain ⟨A8,c8,xs8,rfl,hd8,H⟩:=hJ
    replace H:St T1 W1 W [Fact.blk gx (txC Ai xt.ins.length ci (some ⟨g0,o0,none⟩) xt.outs.length di xt.lock) 47,Fact.row 43 36 (.slice A8 (l1++[(⟨⟨Tx.dig Tx.tTx xt,(k:Int)⟩,⟨o.value,s⟩,xd⟩:WHit)]).length c8) (l1++[(⟨⟨Tx.dig Tx.tTx xt,(k:Int)⟩,⟨o.value,s⟩,xd⟩:WHit)]).length xs8,Fact.hits xs8 (l1++[(⟨⟨Tx.dig Tx.tTx xt,(k:Int)⟩,⟨o.value,s⟩,xd⟩:WHit)]),Fact.blk gl [.slice A8 (l1++[(⟨⟨Tx.dig Tx.tTx xt,(k:Int)⟩,⟨o.value,s⟩,xd⟩:WHit)]).length c8] 34,Fact.blk gs [.slice As s.length cs_] 23]:=by
     have e:l1.length+1=(l1++[(⟨⟨Tx.dig Tx.tTx xt,(k:Int)⟩,⟨o.value,s⟩,xd⟩:WHit)]).length:=by rw [List.length_append];rfl
     rw [←e];exact H
    refine y_nil (yb_end (y_region (rX (fun _=>trivial) (fun c h=>by cases h) (wn U) U (d_add U U U (by omega)) ?_)))
    refine rX (fun _=>trivial) (fun c h=>by cases h) (wn U) U (mv_i U U) ?_
    refine ry_nil (y_nil (kY ?_))
    skip
    refine ⟨_,_,_,?_,U,?_,?_,⟨k+1,A8,c8,xs8,l1++[(⟨⟨Tx.dig Tx.tTx xt,(k:Int)⟩,⟨o.value,s⟩,xd⟩:WHit)],U,U,by omega,(by rw [Wt.hitsO_take ho,if_pos he,←List.append_assoc,←hl1]),(by rw [List.length_append];exact hd8),(by rw [List.length_append,List.length_singleton];omega),H⟩⟩
    ·omega
    ·with_reducible repeat first|exact .refl|refine .f ?_ ?_ ?_;kernel_rfl;kernel_rfl|refine .u ?_ ?_;kernel_rfl
    ·refine ⟨?_,trivial⟩
     ·exact vi (by omega)
  ·obtain rfl:k=xt.outs.length:=by simp at hc17;omega
   rw [List.take_length] at hl1
   refine y_exit (xQ (xQ ?_))
   refine xH (y_nil (yb_end (y_nil (round_n ?_))))
   refine ⟨⟨A1,c1,xs1,l1⟩,⟨?_,hc1,?_⟩,H.sub (L':=[_,_,_,_]) (by repeat (first|exact .refl _|exact List.nil_sublist _|refine .cons_cons _ ?_|refine .cons _ ?_))⟩
   ·show l1=_
    rw [hl1,hC,pls_snoc,Wt.hitsF_snoc];rfl
   ·show l1.length<=_
    rw [List.length_append,List.length_singleton];omega
 ·rintro D xs z W hS ⟨hC,hzc,-⟩ H
  have hv:Wt.found (Tx.dig Tx.tTx) p s=z.l:=by rw [flat_fd,hC,hS]
  replace H:St nT w W (Fact.obj D (.deferred (some []))::[Fact.row 43 36 (.slice z.A z.l.length z.c) z.l.length z.xs,Fact.hits z.xs z.l,Fact.blk gl [.slice z.A z.l.length z.c] 34,Fact.blk gs [.slice As s.length cs_] 23]):=H
  refine kn (zE (kR (sR (d_ld U H U ta34 U) (sf (esk (v:=.slice z.A z.l.length z.c) (vs:=[.slice z.A z.l.length z.c]) ([.slice z.A z.l.length z.c]) U U U ts34 U U H (Nat.le_of_ble_eq_true U) U ?_)))))
  clear H;intro W H
  refine ln (kx ?_)
  rw [hv]
  refine q_M1 H (fun W H=>?_)
  exact q_retc1 U H U ta34 ⟨_,U,z.A,z.c,z.xs,U,hzc,H.sub (L':=[_,_]) (by repeat (first|exact .refl _|exact List.nil_sublist _|refine .cons_cons _ ?_|refine .cons _ ?_))⟩
 ·rintro D pre z W _ hC _
  exact hC.elim

theorem sumB {S:Nat->Prop} {v:Value} {b:List UInt8} (w:World) (hG:Old.Gl w) (hb:Bs w S v b) (hbl:b.length<=1000000000000):Calls Tryz.prog 24 [v].toArray w (Ret (Is w (.agg ((Old.Bl.sum b).map u8v).toArray))) :=
 Calls.mono (Old.sum_any v b w hb hbl hG) (fun e w' h=>by
  obtain ⟨h1,h2⟩:=h
  exact ⟨_,h1,U,h2⟩)
namespace Wt
section
variable {SUM:List UInt8->List UInt8}
theorem inAt_is {p:DPoint}:∀{l:List DIn} {k n:Nat},inAt p l k=some n->k<=n∧∃x,l[n - k]?=some x∧beqPoint x.point p=true
 | [],_,_,h=>by cases h
 | x::l,k,n,h=>by
  rw [inAt] at h
  split at h
  ·rename_i hb
   obtain rfl:k=n:=by simpa using h
   exact ⟨Nat.le_refl _,x,by simp,hb⟩
  ·obtain ⟨h1,y,h2,h3⟩:=inAt_is h
   refine ⟨by omega,y,?_,h3⟩
   rw [show n - k=(n - (k+1))+1 by omega,List.getElem?_cons_succ]
   exact h2
theorem spent_in {p:DPoint} {N:Nat} {x:DTx × Nat × Int}:∀{l:List DBlock} {i:Nat},spentN p N l i=some x->(∃b∈l,x.1∈b.txs)∧inAt p x.1.ins 0=some x.2.1
 | [],_,h=>by cases h
 | b::l,i,h=>by
  rw [spentN] at h
  cases hb:spentB p ((N:Int) - i) b.txs with
  | some y =>
   rw [hb] at h
   obtain rfl:y=x:=by simpa using h
   obtain ⟨_,h1,h2⟩:=spentB_of hb
   exact ⟨⟨b,.head _,h1⟩,h2⟩
  | none =>
   rw [hb] at h
   obtain ⟨⟨c,h1,h2⟩,h3⟩:=spent_in (l:=l) h
   exact ⟨⟨c,.tail _ h1,h2⟩,h3⟩
theorem secretW_app {h:List UInt8}:∀(a b:List (List UInt8)),secretW SUM h (a++b)=match secretW SUM h a with
  | some x=>some x
  | none=>secretW SUM h b
 | [],b=>rfl
 | x::a,b=>by
  have ih:secretW SUM h (a++b)=_:=secretW_app a b
  rw [List.cons_append,secretW,secretW]
  split
  ·rfl
  ·rw [ih]
theorem secretW_no {h y:List UInt8} {l:List (List UInt8)} {k:Nat} (hy:l[k]?=some y) (h0:secretW SUM h (l.take k)=none) (h1:¬(y.length=32∧SUM y=h)):secretW SUM h (l.take (k+1))=none:=by
 rw [take_get hy,secretW_app,h0]
 show secretW SUM h [y]=none
 rw [secretW,if_neg h1];rfl
theorem secretW_yes {h y:List UInt8} {l:List (List UInt8)} {k:Nat} (hy:l[k]?=some y) (h0:secretW SUM h (l.take k)=none) (h1:y.length=32∧SUM y=h):secretW SUM h l=some y:=by
 rw [take_cons hy,secretW_app,h0]
 show secretW SUM h (y::_)=some y
 rw [secretW,if_pos h1]
end
end Wt
def secV (o:Option (List UInt8)):List UInt8:=o.getD (List.replicate 32 0)
def Lst (S:Nat->Prop) (A:Option Addr) (xs:List Value) (l:List (List UInt8)) (W:World):Prop:=Rd W S 1 A l.length xs∧∀(i:Nat) (y:List UInt8),l[i]?=some y->RB W S (sub xs (i*1) 1) y
def Fact.lst (S:Nat->Prop) (A:Option Addr) (xs:List Value) (l:List (List UInt8)):Fact:=⟨S,Lst S A xs l,fun _ _ h k=>⟨h.1.keep (fun g _ hg=>k g hg),fun i y hy=>keeps_B _ _ _ _ _ (h.2 i y hy) (fun g _ hg=>k g hg)⟩⟩
theorem lst_bs {T:Nat->Prop} {w0 W:World} {L:List Fact} {S:Nat->Prop} {A B:Option Addr} {xs:List Value} {l:List (List UInt8)} {i c:Nat} {y:List UInt8} (H:St T w0 W L) [h:In (Fact.lst S A xs l) L] (hL:sub xs (i*1) 1=[.slice B y.length c]) (hy:l[i]?=some y):Bs W S (.slice B y.length c) y:=by
 obtain ⟨v,h1,h2⟩:=(H.get (f:=Fact.lst S A xs l)).2 i y hy
 rw [hL] at h1
 cases h1
 exact h2
theorem bs_rd {W:World} {S:Nat->Prop} {B:Option Addr} {y:List UInt8} {c:Nat} (h:Bs W S (.slice B y.length c) y):Rd W S 1 B y.length (y.map u8v):=by
 obtain ⟨A,c,e,_,_,hr⟩:=h.op
 cases e
 exact hr

theorem secretP {S:Nat->Prop} {B:Option Addr} {c:Nat} {p:List DBlock} (w:World) (hl:RL 66 RBlock w S [.slice B p.length c] p) (hG:Gat w 2 formsC) (hB:Old.Gl w) (hP:∀b∈p,∀t∈b.txs,Tx.FitW t) {pt:DPoint} (hp:pt.tx.length=32) (hn:I64 pt.n) {h:List UInt8} (hh:h.length=32):Calls Tryz.prog 17 [.slice B p.length c,.agg (pointC pt).toArray,.agg (h.map u8v).toArray].toArray w (Ret (Is w (.tuple #[.agg ((secV (Wt.secret Old.Bl.sum p pt h)).map u8v).toArray,.bool (Wt.secret Old.Bl.sum p pt h).isSome]))):=by
 have hhl:(h.map u8v).length=32:=by rw [List.length_map];exact hh
 refine kE (l:=[_,_,_]) Tryz.func17 U U ?_
 have H:=St.start nT w
 refine kR (sf (ebx (vs:=(pointC pt)) U U H ?_))
 clear H;intro gp W H
 refine sf (ebx (vs:=(h.map u8v)) U U H ?_)
 clear H;intro gh W H
 refine sf (eal (List.replicate 32 (u8v 0)) tz25 H ?_)
 clear H;intro go W H
 refine sAb U (lkR (sMs U (sR (dM (g:=gp) (off:=0) U H (sa (len_point hp)) (len_point hp) U U U ta27 ts27) (sf (ecl Tryz.func13 U U (spentP _ (keeps_L keeps_Block _ _ _ _ _ hl (fun g hg _=>H.fr.block g hg (fun h=>h))) hP hp hn) ?_)))))
 rintro _ W ⟨⟨Sz,Az,cz,Bz,dz,t,n0,k0⟩,hz,rfl,hn1⟩
 replace H:=H.add1 hn1
 replace H:St nT w W (Fact.zc 71 41 Sz Az cz Bz dz t::_):=H
 clear hn1
 refine sMt U (sEx U U (sEx U U (sf (eal (spC none 0 0 none 0 0 0 0 0) tz49 H ?_))))
 clear H;intro gs W H
 refine sf (esk (spC Az t.ins.length cz Bz t.outs.length dz t.lock n0 k0) U U U ts49 U U H (by decide) U ?_)
 clear H;intro W H
 refine sAb U (ln (kQ (kR (sMb U (sR (d_not U U) (ln (kC U (fun hc19=>?_) (fun hc19=>?_))))))))
 ·have hsp:Wt.spent p pt=none:=by simpa using hc19
  refine kR (sR (dB (vs:=(List.replicate 32 (0:UInt8)).map u8v) U (by kernel_rfl)) ?_)
  refine sf (esk ((List.replicate 32 (0:UInt8)).map u8v) U U U ts25 (by simp) (all_u8L _) H (by decide) (spl_all (by simp)) ?_)
  clear H;intro W H
  refine sAb U (ln (kx ?_))
  have hv:Wt.secret Old.Bl.sum p pt h=none:=by unfold Wt.secret;rw [hsp];rfl
  rw [hv]
  refine q_cell2 (c:=(List.replicate 32 (0:UInt8)).map u8v) (g:=go) U H U ta25 ts25 U ⟨_,U,U,H.under⟩
 ·have hsm:(Wt.spent p pt).isSome=true:=by simpa using hc19
  obtain ⟨⟨t1,n1,d1⟩,hsp⟩:=Option.isSome_iff_exists.1 hsm
  unfold SpO.Is at hz
  rw [hsp] at hz
  dsimp only at hz
  obtain ⟨rfl,rfl,rfl⟩:=hz
  obtain ⟨⟨b0,hb0,ht0⟩,hat⟩:=Wt.spent_in (x:=(t,n1,k0)) hsp
  dsimp only at ht0 hat
  have hft:=hP b0 hb0 t ht0
  obtain ⟨-,x,hx,-⟩:=Wt.inAt_is hat
  rw [Nat.sub_zero] at hx
  have hnl:n1<t.ins.length:=(List.getElem?_eq_some_iff.1 hx).1
  have hz_:=(H.get (f:=Fact.zc 71 41 Sz Az cz Bz dz t)).1.r
  obtain ⟨A3,c3,B3,d3,hLz,hIz,-,-⟩:=tx_of hz_
  unfold txC at hLz
  cases hLz
  obtain ⟨A_,c_,xs,hv_,-,-,hr,hel⟩:=hIz
  cases hv_
  obtain ⟨gi0,oi0,rfl,-⟩:=hr.2 (by omega)
  obtain ⟨Aw,cw,hL,hW,hpx,hnx⟩:=in_of (hel n1 x hx)
  obtain ⟨A_,c_,zs,hv_,-,-,hrw_,helw_⟩:=hW
  cases hv_
  have hfy:=(hft.2.fits.1 x (List.mem_of_getElem? hx)).2
  have hzl:=(hft.2.fits.1 x (List.mem_of_getElem? hx)).1
  clear hz_ hsm
  refine kS (kQ (kR (sFa U tf49_0 (sFa U tf47_0 (sR (dX (g:=gs) (off:=0) U H U U U ta44) (sFa U tf49_1 (sR (dX (g:=gs) (off:=3) U H U U U ta3) (sR (dG U (hr) U U (q:=n1) U hnl tu44 ts71) (sFa U tf71_1 (sR (dE (off:=33) U (hr) hnl hL (sub_in_w hpx) U U (by omega) ta66) (sLn U tu66 (sMi U ?_))))))))))))
  refine ln ?_
  replace H:=(H.perm (.swap _ _ _)).turn0 (f':=Fact.lst Sz Aw zs x.wit) Fr.refl ⟨hrw_,helw_⟩ (fun g hg=>.inl hg)
  clear hrw_ helw_
  refine kb (kL 30 [7,11] (fun mm sl W=>∃k:Nat,x.wit.length - k=mm∧sl=[(30,.int .i64 (k:Int))]∧(k<=x.wit.length)∧(Wt.secretW Old.Bl.sum h (x.wit.take k)=none)∧St nT w W [Fact.lst Sz Aw zs x.wit,Fact.blk go (List.replicate 32 (u8v 0)) 25,Fact.blk gh (h.map u8v) 25]) _ _ ⟨0,U,U,Nat.zero_le _,U,(H.sub (L':=[Fact.lst Sz Aw zs x.wit,Fact.blk go (List.replicate 32 (u8v 0)) 25,Fact.blk gh (h.map u8v) 25]) (by repeat (first|exact .refl _|exact List.nil_sublist _|refine .cons_cons _ ?_|refine .cons _ ?_)))⟩ ⟨U,trivial⟩ (fun mm sl ρv W hJ=>?_))
  clear H;obtain ⟨k,rfl,rfl,hk,hno,H⟩:=hJ
  refine ko (kR (sLt U U (ln (kQ (kC U (fun hc31=>?_) (fun hc31=>?_))))))
  ·have hlk:k<x.wit.length:=by simp at hc31;omega
   obtain ⟨hrw,helw⟩:=H.get (f:=Fact.lst Sz Aw zs x.wit)
   obtain ⟨gw0,ow0,rfl,-⟩:=hrw.2 (by omega)
   obtain ⟨y,hy⟩:=get_lt hlk
   obtain ⟨Ay,cy,hLk,hBy⟩:=rb_of (helw k y hy)
   have hyl:=hfy y (List.mem_of_getElem? hy)
   refine kS (kQ (kb (kR (sR (dG U (hrw) U U (q:=k) U hlk tu66 ts23) (sR (dE (off:=0) U (hrw) hlk hLk U U U (by omega) ta23) (sAs U (ln (kQ ?_))))))))
   rcases Nat.decEq y.length 32 with hln|hln
   ·skip
    refine k_drawT (.rd 0 (.rd 1 (.rd 2 (.rd 3 (.rd 4 (.rd 5 (.rd 6 (.rd 7 (.rd 8 .nil))))))))) [Fact.lst Sz (some ⟨gw0,ow0,none⟩) zs x.wit,Fact.blk gh (h.map u8v) 25] (by kernel_rfl) (by kernel_rfl) H (by repeat (first|exact .refl _|exact List.nil_sublist _|refine .cons_cons _ ?_|refine .cons _ ?_)) ?_
    clear H;intro W H
    refine tR U (fun W H=>mv_s U U) (tR U (fun W H=>d_len U U tu23) (tR U (fun W H=>d_eq U U U) (tR U (fun W H=>mv_bx (c:=false) U U (by simp;omega)) (t_skip U (wO U U U U U) U (t_skip U (wO U U U U U) U (t_skip U (wO U U U U U) U (t_skip U (wO U U U U U) U (tR U (fun W H=>d_pickF U U U) (t_nil (kF U (by first|(simp;done)|(simp;omega)) ?_))))))))))
    refine kS (kn (zE (kr (sAd U U (by omega) (sMi U (ln (kn (kY ?_))))))))
    refine ⟨_,_,_,?_,U,?_,?_,⟨k+1,U,U,by omega,Wt.secretW_no hy hno (fun h=>hln h.1),H⟩⟩
    ·omega
    ·with_reducible repeat first|exact .refl|refine .f ?_ ?_ ?_;kernel_rfl;kernel_rfl|refine .u ?_ ?_;kernel_rfl
    ·refine ⟨?_,trivial⟩
     ·exact vi (by omega)
   ·skip
    refine k_drawT (.rd 0 (.rd 1 (.rd 2 (.rd 3 (.rd 4 (.rd 6 (.ef 5 (.rd 7 (.rd 8 .nil))))))))) [Fact.lst Sz (some ⟨gw0,ow0,none⟩) zs x.wit,Fact.blk gh (h.map u8v) 25] (by kernel_rfl) (by kernel_rfl) H (by repeat (first|exact .refl _|exact List.nil_sublist _|refine .cons_cons _ ?_|refine .cons _ ?_)) ?_
    clear H;intro W H
    refine tR U (fun W H=>mv_s U U) (tR U (fun W H=>d_len U U tu23) (tR U (fun W H=>d_eq U U U) (tR U (fun W H=>mv_bx (c:=true) U U (by simp [hln])) ?_)))
    refine t_run U (w_g U U U U) U (fun W H=>mv_s U U) (t_run U (w_g U U U U) U (fun W H=>d_ldm0 (g:=gh) U H U ta25 ts25 hhl) (tf U (e_call (w_g U U U U) U U Tryz.func24 U U U (sumB _ (H.gl hB) (lst_bs (S:=Sz) (A:=some ⟨gw0,ow0,none⟩) H hLk hy) hyl) ?_)))
    rintro _ W ⟨rfl,hb⟩
    replace H:=H.below hb
    clear hb
    refine ⟨_,fun _ h=>h,H.sb,?_⟩
    refine t_run U (w_g U U U U) U (fun W H=>d_eqarr U U U tu25 tu5 ts5 (Old.Bl.len_sum _) hh (by kernel_rfl)) ?_
    refine tR U (fun W H=>d_pickT U U U) (t_nil (kC U (fun hc42=>?_) (fun hc42=>?_)))
    ·have hs:Old.Bl.sum y=h:=by simpa using hc42
     refine kR (sMs U (sR (d_s2a U U tu25 (by omega)) (sR (d_ldmA U (bs_rd (lst_bs (S:=Sz) (A:=some ⟨gw0,ow0,none⟩) H hLk hy)) U ta25 (by rw [hln];exact ts25) (by omega)) ?_)))
     refine sf (esk (y.map u8v) U U U ts25 (by rw [List.length_map];exact hln) (all_u8L _) H (by decide) (spl_all (by rw [List.length_map,List.length_replicate];exact hln)) ?_)
     clear H;intro W H
     refine sAb U (ln (kx ?_))
     have hv:Wt.secret Old.Bl.sum p pt h=some y:=by unfold Wt.secret;rw [hsp];unfold Wt.secretS;dsimp only;rw [hx];exact Wt.secretW_yes hy hno ⟨hln,hs⟩
     rw [hv]
     refine q_cell2 (c:=y.map u8v) (g:=go) U H U ta25 (by rw [List.length_map,hln];exact ts25) U ⟨_,U,U,H.under⟩
    ·have hs:¬Old.Bl.sum y=h:=by simpa using hc42
     refine kS (kn (zE (kr (sAd U U (by omega) (sMi U (ln (kn (kY ?_))))))))
     refine ⟨_,_,_,?_,U,?_,?_,⟨k+1,U,U,by omega,Wt.secretW_no hy hno (fun h=>hs h.2),H⟩⟩
     ·omega
     ·with_reducible repeat first|exact .refl|refine .f ?_ ?_ ?_;kernel_rfl;kernel_rfl|refine .u ?_ ?_;kernel_rfl
     ·refine ⟨?_,trivial⟩
      ·exact vi (by omega)
  ·obtain rfl:k=x.wit.length:=by simp at hc31;omega
   rw [List.take_length] at hno
   refine ke (xQ (xQ ?_))
   refine xH (kR (sR (dB (vs:=(List.replicate 32 (0:UInt8)).map u8v) U (by kernel_rfl)) ?_))
   refine sf (esk ((List.replicate 32 (0:UInt8)).map u8v) U U U ts25 (by simp) (all_u8L _) H (by decide) (spl_all (by simp)) ?_)
   clear H;intro W H
   refine sAb U (ln (kx ?_))
   have hv:Wt.secret Old.Bl.sum p pt h=none:=by unfold Wt.secret;rw [hsp];unfold Wt.secretS;dsimp only;rw [hx];exact hno
   rw [hv]
   refine q_cell2 (c:=(List.replicate 32 (0:UInt8)).map u8v) (g:=go) U H U ta25 ts25 U ⟨_,U,U,H.under⟩
end Go.Proofs.YtjjodibkmeefpaaGreatDoor
