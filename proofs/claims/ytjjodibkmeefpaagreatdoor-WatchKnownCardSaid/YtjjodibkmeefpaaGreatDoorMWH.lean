import Derived.Test.YtjjodibkmeefpaaGreatDoorMWG
import Derived.Test.YtjjodibkmeefpaaGreatDoorMR
import Derived.Test.YtjjodibkmeefpaaGreatDoorMOR
set_option linter.unusedVariables false
set_option linter.unusedSimpArgs false
set_option maxHeartbeats 4000000

namespace Go.Proofs.YtjjodibkmeefpaaGreatDoor
open Go Go.RowKit
attribute [local irreducible] wpList

theorem sumR {S:Nat->Prop} {v:Value} {b:List UInt8} (w:World) (hb:Bs w S v b) (hbl:b.length<=1000000000000):Calls Tryz.prog 46 [v].toArray w (Ret (Is w (.agg ((Old.Bl.sum b).map u8v).toArray))) :=
 Calls.mono (Old.sum_ref v b w hb hbl) (fun e w' h=>by
  obtain ⟨h1,h2⟩:=h
  exact ⟨_,h1,U,h2⟩)
theorem St.addrep {α:Type} {R:Rep α} [RepK R] {T:Nat->Prop} {w0 W:World} {L:List Fact} {cs:List Value} {a:α} (H:St T w0 W L) (h:R W (fun _=>False) cs a):St T w0 W (Fact.rep R (fun _=>False) cs a::L) :=
 ⟨H.fr,fun f hf=>by
  rcases List.mem_cons.1 hf with rfl|hf
  ·exact h
  ·exact H.holds f hf,fun f hf g hg=>by
  rcases List.mem_cons.1 hf with rfl|hf
  ·exact absurd hg (fun h=>h)
  ·exact H.own f hf g hg,List.pairwise_cons.2 ⟨fun f _ g hg=>absurd hg (fun h=>h),H.apart⟩⟩

theorem depthR {S:Nat->Prop} {B:Option Addr} {c:Nat} {p:List DBlock} (w:World) (hl:RL 66 RBlock w S [.slice B p.length c] p) {iq:List UInt8} (hid:iq.length=32):Calls Tryz.prog 20 [.slice B p.length c,.agg (iq.map u8v).toArray].toArray w (Ret (Is w (.int .i64 (Wt.depth (Tx.dig Tx.tTx) p iq)))):=by
 have hll:=rl_len hl
 have hl0:=hl
 obtain ⟨B_,c_,xs,hv_,-,-,hr,hel⟩:=hl0
 cases hv_
 have hil:(iq.map u8v).length=32:=by rw [List.length_map];exact hid
 refine kE (l:=[_,_]) Tryz.func20 U U ?_
 have H:=St.start nT w
 refine kR (sf (ebx (vs:=(iq.map u8v)) U U H ?_))
 clear H;intro gi W H
 refine sAi U (ln (kQ (kR (sAi U (ln (kb (kL 4 [] (fun mm sl W=>∃i:Nat,p.length - i=mm∧sl=[(5,.int .i64 (i:Int))]∧(i<=p.length)∧(∀y∈Wt.flat p.length (p.take i) 0,(Tx.dig Tx.tTx) y.2≠iq)∧St nT w W [Fact.blk gi (iq.map u8v) 25]) _ _ ⟨0,U,U,Nat.zero_le _,(fun y hy=>by cases hy),H⟩ ⟨U,trivial⟩ (fun mm sl ρv W hJ=>?_))))))))
 clear H;obtain ⟨i,rfl,rfl,hi,hno,H⟩:=hJ
 refine ko (kQ (kR (sMi U (sMs U (sLn U tu22 (sLt U U (ln (kC U (fun hc10=>?_) (fun hc10=>?_)))))))))
 ·have hlt:i<p.length:=by simp at hc10;omega
  obtain ⟨g0,o0,rfl,-⟩:=hr.2 (by omega)
  obtain ⟨b,hib⟩:=get_lt hlt
  obtain ⟨Ab,cb,hLb,hTx,hh⟩:=blk_of (hel i b hib)
  obtain ⟨A2_,c2_,ys,hv2,_,hcb2,hr2,hel2⟩:=hTx
  cases hv2
  have hbl2:b.txs.length<=9223372036854775807:=by omega
  refine kS (kQ (kb (kR (sAi U (ln (kb (kL 13 [4,6] (fun mm sl W=>∃k:Nat,b.txs.length - k=mm∧sl=[(6,.int .i64 (k:Int))]∧(k<=b.txs.length)∧(∀y∈Wt.flat p.length (p.take i) 0++(b.txs.take k).map (fun t=>((p.length:Int) - (i:Int),t)),(Tx.dig Tx.tTx) y.2≠iq)∧St nT w W [Fact.blk gi (iq.map u8v) 25]) _ _ ⟨0,U,U,Nat.zero_le _,(by rw [List.take_zero,List.map_nil,List.append_nil];exact hno),H⟩ ⟨U,trivial⟩ (fun mm sl ρv W hJ=>?_))))))))
  clear H;obtain ⟨k,rfl,rfl,hk,hno2,H⟩:=hJ
  refine ko (kQ (kR (sMi U (sMs U (sMi U (sR (dG U (H.rd hr) U U (q:=i) U hlt tu22 ts76) (sFa U tf76_1 (sR (dE (off:=65) U (H.rd hr) hlt hLb (sub_b_txs hh) U U (by omega) ta74) (sLn U tu74 (sLt U U (ln (kC U (fun hc20=>?_) (fun hc20=>?_)))))))))))))
  ·have hlk:k<b.txs.length:=by simp at hc20;omega
   obtain ⟨g1,o1,rfl,-⟩:=hr2.2 (by omega)
   obtain ⟨t,ht⟩:=get_lt hlk
   have hRt:=hel2 k t ht
   obtain ⟨Ai,ci,Bi,di,hL,hIx,hOx,hkt⟩:=tx_of hRt
   rw [hL] at hRt
   refine kS (kQ (kb (kQ (k_draw [(0,true),(1,true),(2,true),(3,true),(4,true),(5,true),(6,true),(7,true),(9,true),(8,false),(10,true)] _ (by kernel_rfl) (by kernel_rfl) H (.refl _) ?_))))
   clear H;intro W H
   refine cMs U U (cMi U U (cR U (fun W H=>dG U (H.rd hr) U U (q:=i) U hlt tu22 ts76) (cFa U U tf76_1 (cR U (fun W H=>dE (off:=65) U (H.rd hr) hlt hLb (sub_b_txs hh) U U (by omega) ta74) (cMi U U (cR U (fun W H=>dG U (H.rd hr2) U U (q:=k) U hlk tu74 ts47) (cR U (fun W H=>dN (off:=0) U (H.rd hr2) hlk hL (sa (a:=txC Ai t.ins.length ci Bi t.outs.length di t.lock) (m:=3) U) U U (by omega) ta47 ts47) (cR U (fun W H=>d_ldm0 (g:=gi) U H U ta25 ts25 hil) (cf U (eI Tryz.func36 U U (idTR _ (keeps_Tx _ _ _ _ _ hRt (fun g hg _=>H.fr.block g hg (fun h=>h)))) H ?_))))))))))
   clear H;intro W H
   refine ⟨H.sb,?_⟩
   refine cR U (fun W H=>d_eqarr U U U tu25 tu5 ts5 Tx.len_dig hid (by kernel_rfl)) ?_
   refine c_nil (kC U (fun hc33=>?_) (fun hc33=>?_))
   ·have he:Tx.dig Tx.tTx t=iq:=by simpa using hc33
    have hv:Wt.depth (Tx.dig Tx.tTx) p iq=(p.length:Int) - (i:Int):=by
     obtain ⟨rest,hfl⟩:=Wt.flat_at (N:=p.length) hib ht
     unfold Wt.depth
     rw [Wt.depth_flat,hfl,←List.append_assoc]
     exact Wt.depthF_hit hno2 he
    refine kR (sMs U (sLn U tu22 (sMi U (sR (d_sub U U U (by omega)) (sAi U (ln (kx ?_)))))))
    exact qr (v:=.int _ _) U U ⟨_,U,by rw [hv],H.under⟩
   ·have he:¬Tx.dig Tx.tTx t=iq:=by simpa using hc33
    refine kS (kn (zE (kI U U U (by omega) U (kn (kY ?_)))))
    skip
    refine ⟨_,_,_,?_,U,?_,?_,⟨k+1,U,U,by omega,(by rw [take_get ht,List.map_append,←List.append_assoc];exact Wt.depthF_snoc hno2 (by exact he)),H⟩⟩
    ·omega
    ·with_reducible repeat first|exact .refl|refine .f ?_ ?_ ?_;kernel_rfl;kernel_rfl|refine .u ?_ ?_;kernel_rfl
    ·refine ⟨?_,trivial⟩
     ·exact vi (by omega)
  ·obtain rfl:k=b.txs.length:=by simp at hc20;omega
   refine ke (xQ (xQ ?_))
   refine xH (kn (zE (kI U U U (by omega) U (kn (kY ?_)))))
   refine ⟨_,_,_,?_,U,?_,?_,⟨i+1,U,U,by omega,(by rw [Wt.flat_step hib];rw [List.take_length] at hno2;exact hno2),H⟩⟩
   ·omega
   ·with_reducible repeat first|exact .refl|refine .f ?_ ?_ ?_;kernel_rfl;kernel_rfl|refine .u ?_ ?_;kernel_rfl
   ·refine ⟨?_,trivial⟩
    ·exact vi (by omega)
 ·obtain rfl:i=p.length:=by simp at hc10;omega
  rw [List.take_length] at hno
  refine ke (xQ (xQ ?_))
  refine xH (kR (sAi U (ln (kx ?_))))
  have hv:Wt.depth (Tx.dig Tx.tTx) p iq=0:=by unfold Wt.depth;rw [Wt.depth_flat];exact Wt.depthF_none hno
  exact qr (v:=.int _ _) U U ⟨_,U,by rw [hv],H.under⟩

theorem spentR {S:Nat->Prop} {B:Option Addr} {c:Nat} {p:List DBlock} (w:World) (hl:RL 66 RBlock w S [.slice B p.length c] p) (hP:∀b∈p,∀t∈b.txs,Tx.FitW t) {pt:DPoint} (hp:pt.tx.length=32) (hn:I64 pt.n):Calls Tryz.prog 14 [.slice B p.length c,.agg (pointC pt).toArray].toArray w (Ret (fun v' w'=>∃z:SpO,z.Is p pt∧v'=.tuple #[.agg z.sp.toArray,.bool (Wt.spent p pt).isSome]∧St nT w w' [Fact.rep RTx z.S z.cs z.t])):=by
 have hll:=rl_len hl
 have hl0:=hl
 obtain ⟨B_,c_,xs,hv_,-,-,hr,hel⟩:=hl0
 cases hv_
 refine kE (l:=[_,_]) Tryz.func14 U U ?_
 have H:=St.start nT w
 refine kR (sf (ebx (vs:=(pointC pt)) U U H ?_))
 clear H;intro gp W H
 refine sf (eal (spC none 0 0 none 0 0 0 0 0) tz52 H ?_)
 clear H;intro go W H
 refine sAb U (ln (kQ (kR (sAi U (ln (kb (kL 5 [] (fun mm sl W=>∃i:Nat,p.length - i=mm∧sl=[(6,.int .i64 (i:Int))]∧(i<=p.length)∧(Wt.spentF pt (Wt.flat p.length (p.take i) 0)=none)∧St nT w W [Fact.blk go (spC none 0 0 none 0 0 0 0 0) 52,Fact.blk gp (pointC pt) 27]) _ _ ⟨0,U,U,Nat.zero_le _,U,H⟩ ⟨U,trivial⟩ (fun mm sl ρv W hJ=>?_))))))))
 clear H;obtain ⟨i,rfl,rfl,hi,hno,H⟩:=hJ
 refine ko (kQ (kR (sMi U (sMs U (sLn U tu22 (sLt U U (ln (kC U (fun hc13=>?_) (fun hc13=>?_)))))))))
 ·have hlt:i<p.length:=by simp at hc13;omega
  obtain ⟨g0,o0,rfl,-⟩:=hr.2 (by omega)
  obtain ⟨b,hib⟩:=get_lt hlt
  obtain ⟨Ab,cb,hLb,hTx,hh⟩:=blk_of (hel i b hib)
  obtain ⟨A2_,c2_,ys,hv2,_,hcb2,hr2,hel2⟩:=hTx
  cases hv2
  have hbl2:b.txs.length<=9223372036854775807:=by omega
  refine kS (kQ (kb (kR (sAi U (ln (kb (kL 16 [5,7,8,9] (fun mm sl W=>∃k:Nat,b.txs.length - k=mm∧sl=[(7,.int .i64 (k:Int))]∧(k<=b.txs.length)∧(Wt.spentF pt (Wt.flat p.length (p.take i) 0++(b.txs.take k).map (fun t=>((p.length:Int) - (i:Int),t)))=none)∧St nT w W [Fact.blk go (spC none 0 0 none 0 0 0 0 0) 52,Fact.blk gp (pointC pt) 27]) _ _ ⟨0,U,U,Nat.zero_le _,(by rw [List.take_zero,List.map_nil,List.append_nil];exact hno),H⟩ ⟨U,trivial⟩ (fun mm sl ρv W hJ=>?_))))))))
  clear H;obtain ⟨k,rfl,rfl,hk,hno2,H⟩:=hJ
  refine ko (kQ (kR (sMi U (sMs U (sMi U (sR (dG U (H.rd hr) U U (q:=i) U hlt tu22 ts76) (sFa U tf76_1 (sR (dE (off:=65) U (H.rd hr) hlt hLb (sub_b_txs hh) U U (by omega) ta74) (sLn U tu74 (sLt U U (ln (kC U (fun hc23=>?_) (fun hc23=>?_)))))))))))))
  ·have hlk:k<b.txs.length:=by simp at hc23;omega
   obtain ⟨g1,o1,rfl,-⟩:=hr2.2 (by omega)
   obtain ⟨t,ht⟩:=get_lt hlk
   have hRt:=hel2 k t ht
   obtain ⟨Ai,ci,Bi,di,hL,hIx,hOx,hkt⟩:=tx_of hRt
   rw [hL] at hRt
   have hft:=(hP b (List.mem_of_getElem? hib) t (List.mem_of_getElem? ht)).1
   have hIl:=rl_len hIx
   obtain ⟨A3_,c3_,zs,hv3,_,_,hr3,hel3⟩:=hIx
   cases hv3
   refine kS (kQ (kb (kR (sMs U (sMi U (sR (dG U (H.rd hr) U U (q:=i) U hlt tu22 ts76) (sFa U tf76_1 (sR (dE (off:=65) U (H.rd hr) hlt hLb (sub_b_txs hh) U U (by omega) ta74) (sMi U (sR (dG U (H.rd hr2) U U (q:=k) U hlk tu74 ts47) (sR (dN (off:=0) U (H.rd hr2) hlk hL (sa (a:=txC Ai t.ins.length ci Bi t.outs.length di t.lock) (m:=3) U) U U (by omega) ta47 ts47) (sf (eal [.slice none 0 0,.slice none 0 0,.int .i64 0] tz47 H ?_)))))))))))))
   clear H;intro gt W H
   refine sf (esk (txC Ai t.ins.length ci Bi t.outs.length di t.lock) U U U ts47 U U H (by decide) U ?_)
   clear H;intro W H
   refine lkR (sAi U (ln (kb (kL 34 [5,9] (fun mm sl W=>∃n:Nat,t.ins.length - n=mm∧sl=[(9,.int .i64 (n:Int))]∧(n<=t.ins.length)∧(Wt.inAt pt (t.ins.take n) 0=none)∧St nT w W [Fact.blk gt (txC Ai t.ins.length ci Bi t.outs.length di t.lock) 47,Fact.blk go (spC none 0 0 none 0 0 0 0 0) 52,Fact.blk gp (pointC pt) 27]) _ _ ⟨0,U,U,Nat.zero_le _,U,H⟩ ⟨U,trivial⟩ (fun mm sl ρv W hJ=>?_)))))
   clear H;obtain ⟨n,rfl,rfl,hm,hno3,H⟩:=hJ
   refine ko (kQ (kR (sMi U (sFa U tf47_0 (sR (dX (g:=gt) (off:=0) U H U U U ta44) (sLn U tu44 (sLt U U (ln (kC U (fun hc38=>?_) (fun hc38=>?_))))))))))
   ·have hln:n<t.ins.length:=by simp at hc38;omega
    obtain ⟨g2,o2,rfl,-⟩:=hr3.2 (by omega)
    obtain ⟨x,hx⟩:=get_lt hln
    obtain ⟨Aw,cw,hLn,-,hpx,hnx⟩:=in_of (hel3 n x hx)
    refine kS (kQ (kb (kQ (k_draw [(0,true),(1,true),(2,true),(3,true),(4,true),(5,true),(6,true),(7,true)] _ (by kernel_rfl) (by kernel_rfl) H (.refl _) ?_))))
    clear H;intro W H
    refine cFa U U tf47_0 (cR U (fun W H=>dX (g:=gt) (off:=0) U H U U U ta44) (cMi U U (cR U (fun W H=>dG U (H.rd hr3) U U (q:=n) U hln tu44 ts71) (cFa U U tf71_0 (cR U (fun W H=>dN (off:=0) U (H.rd hr3) hln hLn (sub_in_p hpx) U U (by omega) ta27 ts27) (cR U (fun W H=>dM (g:=gp) (off:=0) U H (sa (len_point hp)) (len_point hp) U U U ta27 ts27) (cR U (fun W H=>d_eqst (r:=beqPoint x.point pt) U U U (eq_Point (d:=9997) (point_rep (W:=w) (S:=nT) hpx hnx) (point_rep (W:=w) (S:=nT) hp hn)) (by kernel_rfl)) ?_)))))))
    refine c_nil (kC U (fun hc48=>?_) (fun hc48=>?_))
    ·have heq:beqPoint x.point pt=true:=hc48
     have hat:=Wt.inAt_yes hx hno3 heq
     have hsp:Wt.spent p pt=some (t,n,(p.length:Int) - (i:Int)):=by
      obtain ⟨rest,hfl⟩:=Wt.flat_at (N:=p.length) hib ht
      unfold Wt.spent
      rw [Wt.spent_flat,hfl,←List.append_assoc]
      exact Wt.spentF_hit hno2 hat
     refine kR (sR (dM (g:=gt) (off:=0) U H (sa (a:=txC (some ⟨g2,o2,none⟩) t.ins.length ci Bi t.outs.length di t.lock) (m:=3) U) U U U U ta47 ts47) (sf (ecl Tryz.func40 U U (copyTx _ (keeps_Tx _ _ _ _ _ hRt (fun g hg _=>H.fr.block g hg (fun h=>h))) hft) ?_)))
     rintro _ W hs_
     obtain ⟨Sn5,An5,cn5,Bn5,dn5,rfl,H1_⟩:=NewTx.rep hs_ H hkt
     clear H hs_
     have H:=H1_
     clear H1_
     refine sMi U (sMs U (sLn U tu22 (sMi U (sR (d_sub U U U (by omega)) (sR (dB (vs:=spC An5 t.ins.length cn5 Bn5 t.outs.length dn5 t.lock (n:Int) ((p.length:Int) - (i:Int))) U (built_fields (places:=[(0,3),(3,1),(4,1)]) tz52 (by kernel_rfl) (by kernel_rfl) (fN (vs:=txC An5 t.ins.length cn5 Bn5 t.outs.length dn5 t.lock) (.agg (txC An5 t.ins.length cn5 Bn5 t.outs.length dn5 t.lock).toArray) U U U U (Nat.le_of_ble_eq_true U) (fN (vs:=[.int .i64 (n:Int)]) (.int .i64 (n:Int)) U (by rfl) U U (Nat.le_of_ble_eq_true U) (fN (vs:=[.int .i64 ((p.length:Int) - (i:Int))]) (.int .i64 ((p.length:Int) - (i:Int))) U (by rfl) U U (Nat.le_of_ble_eq_true U) (fill_end (by rfl))))))) ?_)))))
     refine sf (esk (spC An5 t.ins.length cn5 Bn5 t.outs.length dn5 t.lock (n:Int) ((p.length:Int) - (i:Int))) U U U ts52 U U H (by decide) U ?_)
     clear H;intro W H
     refine sAb U (ln (kx ?_))
     refine q_cell2 (c:=spC An5 t.ins.length cn5 Bn5 t.outs.length dn5 t.lock (n:Int) ((p.length:Int) - (i:Int))) (g:=go) U H U ta52 ts52 U ⟨_,U,⟨Sn5,An5,cn5,Bn5,dn5,t,n,(p.length:Int) - (i:Int)⟩,?_,?_,H.sub (L':=[Fact.rep RTx Sn5 (txC An5 t.ins.length cn5 Bn5 t.outs.length dn5 t.lock) t]) (by repeat (first|exact .refl _|exact List.nil_sublist _|refine .cons_cons _ ?_|refine .cons _ ?_))⟩
     ·unfold SpO.Is;rw [hsp];exact ⟨rfl,rfl,rfl⟩
     ·rw [hsp];rfl
    ·have heq:beqPoint x.point pt=false:=hc48
     refine kS (kn (zE (kI U U U (by omega) U (kn (kY ?_)))))
     refine ⟨_,_,_,?_,U,?_,?_,⟨n+1,U,U,by omega,Wt.inAt_no hx hno3 (by exact heq),H⟩⟩
     ·omega
     ·with_reducible repeat first|exact .refl|refine .f ?_ ?_ ?_;kernel_rfl;kernel_rfl|refine .u ?_ ?_;kernel_rfl
     ·refine ⟨?_,trivial⟩
      ·exact vi (by omega)
   ·obtain rfl:n=t.ins.length:=by simp at hc38;omega
    refine ke (xQ (xQ ?_))
    refine xH (kn (zE (kI U U U (by omega) U (kn (kY ?_)))))
    replace H:=H.drop
    refine ⟨_,_,_,?_,U,?_,?_,⟨k+1,U,U,by omega,(by rw [take_get ht,List.map_append,←List.append_assoc];rw [List.take_length] at hno3;exact Wt.spentF_snoc hno2 hno3),H⟩⟩
    ·omega
    ·with_reducible repeat first|exact .refl|refine .f ?_ ?_ ?_;kernel_rfl;kernel_rfl|refine .u ?_ ?_;kernel_rfl
    ·refine ⟨?_,trivial⟩
     ·exact vi (by omega)
  ·obtain rfl:k=b.txs.length:=by simp at hc23;omega
   refine ke (xQ (xQ ?_))
   refine xH (kn (zE (kI U U U (by omega) U (kn (kY ?_)))))
   refine ⟨_,_,_,?_,U,?_,?_,⟨i+1,U,U,by omega,(by rw [Wt.flat_step hib];rw [List.take_length] at hno2;exact hno2),H⟩⟩
   ·omega
   ·with_reducible repeat first|exact .refl|refine .f ?_ ?_ ?_;kernel_rfl;kernel_rfl|refine .u ?_ ?_;kernel_rfl
   ·refine ⟨?_,trivial⟩
    ·exact vi (by omega)
 ·obtain rfl:i=p.length:=by simp at hc13;omega
  rw [List.take_length] at hno
  refine ke (xQ (xQ ?_))
  refine xH (kR (sR (dB (vs:=spC none 0 0 none 0 0 0 0 0) U (by kernel_rfl)) ?_))
  refine sf (esk (spC none 0 0 none 0 0 0 0 0) U U U ts52 U U H (by decide) U ?_)
  clear H;intro W H
  refine sAb U (ln (kx ?_))
  have hsp:Wt.spent p pt=none:=by unfold Wt.spent;rw [Wt.spent_flat];exact hno
  refine q_cell2 (c:=spC none 0 0 none 0 0 0 0 0) (g:=go) U H U ta52 ts52 U ⟨_,U,zSp,?_,?_,(H.addrep (R:=RTx) (cs:=txC none 0 0 none 0 0 0) (a:=Tx.zero) (tx_rep (l:=[]) (r:=[]) rl_nil rl_nil (by unfold I64;constructor <;> decide))).sub (L':=[_]) (by repeat (first|exact .refl _|exact List.nil_sublist _|refine .cons_cons _ ?_|refine .cons _ ?_))⟩
  ·unfold SpO.Is;rw [hsp];exact ⟨rfl,rfl,rfl⟩
  ·rw [hsp];rfl

def RHt:Rep WHit:=fun W S cs h=>∃A c,cs=hitC h A h.out.script.length c∧OkHit h∧Bs W S (.slice A h.out.script.length c) h.out.script
theorem rl_hits {W:World} {e c:Nat} {A:Option Addr} {xs:List Value} {l:List WHit} (hr:W.ownsRow 0 e 36 (.slice A l.length c) l.length xs) (hh:Hits xs l W) (hc:l.length<=c∧c<=9223372036854775807):RL 36 RHt W (0<=·) [.slice A l.length c] l :=
 ⟨A,c,xs,rfl,hc.1,hc.2,(Rd.of_own hr).swap (fun _ _ _=>Nat.zero_le _),fun i x hx=>by
  obtain ⟨B,d,e,ho,hw⟩:=hh.2.1 i x hx
  exact ⟨B,d,e,ho,(bs_own hw U).mono (fun _ _ _=>Nat.zero_le _)⟩⟩

theorem le_step {a x k m c:Nat} (h:a<=x+k*c+m) (hm:m<=c):a<=x+(k+1)*c:=by
 rw [Nat.add_mul,Nat.one_mul];omega
theorem le_step2 {a i k c d:Nat} (h:a<=i*d+k*c) (hk:k<=1000) (hd:1000*c<=d):a<=(i+1)*d:=by
 have h1:k*c<=1000*c:=Nat.mul_le_mul_right c hk
 rw [Nat.add_mul,Nat.one_mul];omega

theorem secretR {S:Nat->Prop} {B:Option Addr} {c:Nat} {p:List DBlock} (w:World) (hl:RL 66 RBlock w S [.slice B p.length c] p) (hP:∀b∈p,∀t∈b.txs,Tx.FitW t) {pt:DPoint} (hp:pt.tx.length=32) (hn:I64 pt.n) {hq:List UInt8} (hh:hq.length=32):Calls Tryz.prog 18 [.slice B p.length c,.agg (pointC pt).toArray,.agg (hq.map u8v).toArray].toArray w (Ret (Is w (.tuple #[.agg ((secV (Wt.secret Old.Bl.sum p pt hq)).map u8v).toArray,.bool (Wt.secret Old.Bl.sum p pt hq).isSome]))):=by
 have hhl:(hq.map u8v).length=32:=by rw [List.length_map];exact hh
 refine kE (l:=[_,_,_]) Tryz.func18 U U ?_
 have H:=St.start nT w
 refine kR (sf (ebx (vs:=(pointC pt)) U U H ?_))
 clear H;intro gp W H
 refine sf (ebx (vs:=(hq.map u8v)) U U H ?_)
 clear H;intro gh W H
 refine sf (eal (List.replicate 32 (u8v 0)) tz25 H ?_)
 clear H;intro go W H
 refine sAb U (lkR (sMs U (sR (dM (g:=gp) (off:=0) U H (sa (len_point hp)) (len_point hp) U U U ta27 ts27) (sf (ecl Tryz.func14 U U (spentR _ (keeps_L keeps_Block _ _ _ _ _ hl (fun g hg _=>H.fr.block g hg (fun h=>h))) hP hp hn) ?_)))))
 rintro _ W ⟨⟨Sz,Az,cz,Bz,dz,t,n0,k0⟩,hz,rfl,hn1⟩
 replace H:=H.add1 hn1
 replace H:St nT w W (Fact.rep RTx Sz (txC Az t.ins.length cz Bz t.outs.length dz t.lock) t::_):=H
 clear hn1
 refine sMt U (sEx U U (sEx U U (sf (eal (spC none 0 0 none 0 0 0 0 0) tz52 H ?_))))
 clear H;intro gs W H
 refine sf (esk (spC Az t.ins.length cz Bz t.outs.length dz t.lock n0 k0) U U U ts52 U U H (by decide) U ?_)
 clear H;intro W H
 refine sAb U (ln (kQ (kR (sMb U (sR (d_not U U) (ln (kC U (fun hc20=>?_) (fun hc20=>?_))))))))
 ·have hsp:Wt.spent p pt=none:=by simpa using hc20
  refine kR (sR (dB (vs:=(List.replicate 32 (0:UInt8)).map u8v) U (by kernel_rfl)) ?_)
  refine sf (esk ((List.replicate 32 (0:UInt8)).map u8v) U U U ts25 (by simp) (all_u8L _) H (by decide) (spl_all (by simp)) ?_)
  clear H;intro W H
  refine sAb U (ln (kx ?_))
  have hv:Wt.secret Old.Bl.sum p pt hq=none:=by unfold Wt.secret;rw [hsp];rfl
  rw [hv]
  refine q_cell2 (c:=(List.replicate 32 (0:UInt8)).map u8v) (g:=go) U H U ta25 ts25 U ⟨_,U,U,H.under⟩
 ·have hsm:(Wt.spent p pt).isSome=true:=by simpa using hc20
  obtain ⟨⟨t1,n1,d1⟩,hsp⟩:=Option.isSome_iff_exists.1 hsm
  unfold SpO.Is at hz
  rw [hsp] at hz
  dsimp only at hz
  obtain ⟨rfl,rfl,rfl⟩:=hz
  obtain ⟨⟨b0,hb0,ht0⟩,hat⟩:=Wt.spent_in (x:=(t,n1,k0)) hsp
  dsimp only at ht0 hat
  have hft:=hP b0 hb0 t ht0
  obtain ⟨-,x,hx,-⟩:=Wt.inAt_is hat
  rw [Nat.sub_zero] at hx
  have hnl:n1<t.ins.length:=(List.getElem?_eq_some_iff.1 hx).1
  have hz_:=H.get (f:=Fact.rep RTx Sz (txC Az t.ins.length cz Bz t.outs.length dz t.lock) t)
  obtain ⟨A3,c3,B3,d3,hLz,hIz,-,-⟩:=tx_of hz_
  unfold txC at hLz
  cases hLz
  obtain ⟨A_,c_,xs,hv_,-,-,hr,hel⟩:=hIz
  cases hv_
  obtain ⟨gi0,oi0,rfl,-⟩:=hr.2 (by omega)
  obtain ⟨Aw,cw,hL,hW,hpx,hnx⟩:=in_of (hel n1 x hx)
  obtain ⟨A_,c_,zs,hv_,-,-,hrw_,helw_⟩:=hW
  cases hv_
  have hfy:=(hft.2.fits.1 x (List.mem_of_getElem? hx)).2
  have hzl:=(hft.2.fits.1 x (List.mem_of_getElem? hx)).1
  clear hz_ hsm
  refine kS (kR (sFa U tf52_0 (sFa U tf47_0 (sR (dX (g:=gs) (off:=0) U H U U U ta44) (sFa U tf52_1 (sR (dX (g:=gs) (off:=3) U H U U U ta3) (sR (dG U (hr) U U (q:=n1) U hnl tu44 ts71) (sFa U tf71_1 (sR (dE (off:=33) U (hr) hnl hL (sub_in_w hpx) U U (by omega) ta66) (sAs U (ln ?_)))))))))))
  replace H:=(H.perm (.swap _ _ _)).turn0 (f':=Fact.lst Sz Aw zs x.wit) Fr.refl ⟨hrw_,helw_⟩ (fun g hg=>.inl hg)
  clear hrw_ helw_
  refine kQ (kR (sAi U (ln (kb (kL 30 [7,11,12] (fun mm sl W=>∃k:Nat,x.wit.length - k=mm∧sl=[(11,.int .i64 (k:Int))]∧(k<=x.wit.length)∧(Wt.secretW Old.Bl.sum hq (x.wit.take k)=none)∧St nT w W [Fact.lst Sz Aw zs x.wit,Fact.blk go (List.replicate 32 (u8v 0)) 25,Fact.blk gh (hq.map u8v) 25]) _ _ ⟨0,U,U,Nat.zero_le _,U,(H.sub (L':=[Fact.lst Sz Aw zs x.wit,Fact.blk go (List.replicate 32 (u8v 0)) 25,Fact.blk gh (hq.map u8v) 25]) (by repeat (first|exact .refl _|exact List.nil_sublist _|refine .cons_cons _ ?_|refine .cons _ ?_)))⟩ ⟨U,trivial⟩ (fun mm sl ρv W hJ=>?_))))))
  clear H;obtain ⟨k,rfl,rfl,hk,hno,H⟩:=hJ
  refine ko (kQ (kR (sMi U (sMs U (sLn U tu66 (sLt U U (ln (kC U (fun hc33=>?_) (fun hc33=>?_)))))))))
  ·have hlk:k<x.wit.length:=by simp at hc33;omega
   obtain ⟨hrw,helw⟩:=H.get (f:=Fact.lst Sz Aw zs x.wit)
   obtain ⟨gw0,ow0,rfl,-⟩:=hrw.2 (by omega)
   obtain ⟨y,hy⟩:=get_lt hlk
   obtain ⟨Ay,cy,hLk,hBy⟩:=rb_of (helw k y hy)
   have hyl:=hfy y (List.mem_of_getElem? hy)
   refine kS (kQ (kb (kQ ?_)))
   rcases Nat.decEq y.length 32 with hln|hln
   ·skip
    refine k_drawT (.rd 0 (.rd 1 (.rd 2 (.rd 3 (.rd 4 (.rd 5 (.rd 6 (.rd 7 (.rd 8 (.rd 9 (.rd 10 (.rd 11 (.rd 12 (.rd 13 (.rd 14 .nil))))))))))))))) [Fact.lst Sz (some ⟨gw0,ow0,none⟩) zs x.wit,Fact.blk gh (hq.map u8v) 25] (by kernel_rfl) (by kernel_rfl) H (by repeat (first|exact .refl _|exact List.nil_sublist _|refine .cons_cons _ ?_|refine .cons _ ?_)) ?_
    clear H;intro W H
    refine tR U (fun W H=>mv_s U U) (tR U (fun W H=>mv_i U U) (tR U (fun W H=>dG U ((H.get (f:=Fact.lst Sz (some ⟨gw0,ow0,none⟩) zs x.wit)).1) U U (q:=k) U hlk tu66 ts23) (tR U (fun W H=>dE (off:=0) U ((H.get (f:=Fact.lst Sz (some ⟨gw0,ow0,none⟩) zs x.wit)).1) hlk hLk U U U (by omega) ta23) (tR U (fun W H=>d_len U U tu23) (tR U (fun W H=>d_eq U U U) (tR U (fun W H=>mv_bx (c:=false) U U (by simp;omega)) (t_skip U (wO U U U U U) U (t_skip U (wO U U U U U) U (t_skip U (wO U U U U U) U (t_skip U (wO U U U U U) U (t_skip U (wO U U U U U) U (t_skip U (wO U U U U U) U ?_))))))))))))
    refine t_skip U (wO U U U U U) U (tR U (fun W H=>d_pickF U U U) (t_nil (kF U (by first|(simp;done)|(simp;omega)) ?_)))
    refine kS (kn (zE (kI U U U (by omega) U (kn (kY ?_)))))
    refine ⟨_,_,_,?_,U,?_,?_,⟨k+1,U,U,by omega,Wt.secretW_no hy hno (fun h=>hln h.1),H⟩⟩
    ·omega
    ·with_reducible repeat first|exact .refl|refine .f ?_ ?_ ?_;kernel_rfl;kernel_rfl|refine .u ?_ ?_;kernel_rfl
    ·refine ⟨?_,trivial⟩
     ·exact vi (by omega)
   ·obtain ⟨gy0,oy0,rfl,-⟩:=(bs_rd hBy).2 (by omega)
    refine k_drawT (.rd 0 (.rd 1 (.rd 2 (.rd 3 (.rd 4 (.rd 5 (.rd 6 (.rd 7 (.rd 8 (.rd 9 (.rd 10 (.rd 12 (.ef 11 (.rd 13 (.rd 14 .nil))))))))))))))) [Fact.lst Sz (some ⟨gw0,ow0,none⟩) zs x.wit,Fact.blk gh (hq.map u8v) 25] (by kernel_rfl) (by kernel_rfl) H (by repeat (first|exact .refl _|exact List.nil_sublist _|refine .cons_cons _ ?_|refine .cons _ ?_)) ?_
    clear H;intro W H
    refine tR U (fun W H=>mv_s U U) (tR U (fun W H=>mv_i U U) (tR U (fun W H=>dG U ((H.get (f:=Fact.lst Sz (some ⟨gw0,ow0,none⟩) zs x.wit)).1) U U (q:=k) U hlk tu66 ts23) (tR U (fun W H=>dE (off:=0) U ((H.get (f:=Fact.lst Sz (some ⟨gw0,ow0,none⟩) zs x.wit)).1) hlk hLk U U U (by omega) ta23) (tR U (fun W H=>d_len U U tu23) (tR U (fun W H=>d_eq U U U) (tR U (fun W H=>mv_bx (c:=true) U U (by simp [hln])) ?_))))))
    refine t_run U (w_g U U U U) U (fun W H=>mv_s U U) (t_run U (w_g U U U U) U (fun W H=>mv_i U U) (t_run U (w_g U U U U) U (fun W H=>dG U ((H.get (f:=Fact.lst Sz (some ⟨gw0,ow0,none⟩) zs x.wit)).1) U U (q:=k) U hlk tu66 ts23) (t_run U (w_g U U U U) U (fun W H=>dE (off:=0) U ((H.get (f:=Fact.lst Sz (some ⟨gw0,ow0,none⟩) zs x.wit)).1) hlk hLk U U U (by omega) ta23) (t_run U (w_g U U U U) U (fun W H=>d_ldm0 (g:=gh) U H U ta25 ts25 hhl) (tf U (e_call (w_g U U U U) U U Tryz.func46 U U U (sumR _ (lst_bs (S:=Sz) (A:=some ⟨gw0,ow0,none⟩) H hLk hy) hyl) ?_))))))
    rintro _ W ⟨rfl,hb⟩
    replace H:=H.below hb
    clear hb
    refine ⟨_,fun _ h=>h,H.sb,?_⟩
    refine t_run U (w_g U U U U) U (fun W H=>d_eqarr U U U tu25 tu5 ts5 (Old.Bl.len_sum _) hh (by kernel_rfl)) ?_
    refine tR U (fun W H=>d_pickT U U U) (t_nil (kC U (fun hc50=>?_) (fun hc50=>?_)))
    ·have hs:Old.Bl.sum y=hq:=by simpa using hc50
     refine kR (sf (eal (List.replicate 32 (u8v 0)) tz25 H ?_))
     clear H;intro gq W H
     refine ln (kQ (k_draw [(0,true),(1,true),(2,true),(3,true),(4,true),(5,false)] [Fact.lst Sz (some ⟨gw0,ow0,none⟩) zs x.wit] (by kernel_rfl) (by kernel_rfl) H (by repeat (first|exact .refl _|exact List.nil_sublist _|refine .cons_cons _ ?_|refine .cons _ ?_)) ?_))
     clear H;intro W H
     refine cR U (fun W H=>d_arrA U U tu25 ts5) (cMs U U (cMi U U (cR U (fun W H=>dG U ((H.get (f:=Fact.lst Sz (some ⟨gw0,ow0,none⟩) zs x.wit)).1) U U (q:=k) U hlk tu66 ts23) (cR U (fun W H=>dE (off:=0) U ((H.get (f:=Fact.lst Sz (some ⟨gw0,ow0,none⟩) zs x.wit)).1) hlk hLk U U U (by omega) ta23) (cf U (e_copy (m:=32) (y.map u8v) (wn U) U U tu23 ts5 U U H (bs_rd (lst_bs (S:=Sz) (A:=some ⟨gw0,ow0,none⟩) H hLk hy)) (by rw [hln];rfl) (by decide) (by simp) (all_u8L _) (by rw [List.take_of_length_le (by rw [List.length_map];omega)];exact spl_all (by rw [List.length_map,List.length_replicate];exact hln)) ?_))))))
     clear H;intro W H
     refine ⟨H.sb,?_⟩
     refine c_nil (kR (sR (d_ldm0 (g:=gq) U H U ta25 ts25 (by rw [List.length_map];exact hln)) ?_))
     refine sf (esk (y.map u8v) U U U ts25 (by rw [List.length_map];exact hln) (all_u8L _) H (by decide) (spl_all (by rw [List.length_map,List.length_replicate];exact hln)) ?_)
     clear H;intro W H
     refine sAb U (ln (kx ?_))
     have hv:Wt.secret Old.Bl.sum p pt hq=some y:=by unfold Wt.secret;rw [hsp];unfold Wt.secretS;dsimp only;rw [hx];exact Wt.secretW_yes hy hno ⟨hln,hs⟩
     rw [hv]
     refine q_cell2 (c:=y.map u8v) (g:=go) U H U ta25 (by rw [List.length_map,hln];exact ts25) U ⟨_,U,U,H.under⟩
    ·have hs:¬Old.Bl.sum y=hq:=by simpa using hc50
     refine kS (kn (zE (kI U U U (by omega) U (kn (kY ?_)))))
     refine ⟨_,_,_,?_,U,?_,?_,⟨k+1,U,U,by omega,Wt.secretW_no hy hno (fun h=>hs h.2),H⟩⟩
     ·omega
     ·with_reducible repeat first|exact .refl|refine .f ?_ ?_ ?_;kernel_rfl;kernel_rfl|refine .u ?_ ?_;kernel_rfl
     ·refine ⟨?_,trivial⟩
      ·exact vi (by omega)
  ·obtain rfl:k=x.wit.length:=by simp at hc33;omega
   rw [List.take_length] at hno
   refine ke (xQ (xQ ?_))
   refine xH (kR (sR (dB (vs:=(List.replicate 32 (0:UInt8)).map u8v) U (by kernel_rfl)) ?_))
   refine sf (esk ((List.replicate 32 (0:UInt8)).map u8v) U U U ts25 (by simp) (all_u8L _) H (by decide) (spl_all (by simp)) ?_)
   clear H;intro W H
   refine sAb U (ln (kx ?_))
   have hv:Wt.secret Old.Bl.sum p pt hq=none:=by unfold Wt.secret;rw [hsp];unfold Wt.secretS;dsimp only;rw [hx];exact hno
   rw [hv]
   refine q_cell2 (c:=(List.replicate 32 (0:UInt8)).map u8v) (g:=go) U H U ta25 ts25 U ⟨_,U,U,H.under⟩

theorem foundR {S:Nat->Prop} {B:Option Addr} {c:Nat} {p:List DBlock} (w:World) (hl:RL 66 RBlock w S [.slice B p.length c] p) (hpl:p.length<=1000) (hpt:∀b∈p,b.txs.length<=1000) (hP:∀b∈p,∀t∈b.txs,Tx.FitW t) {S1:Nat->Prop} {u:Value} {s:List UInt8} (hs:Bs w S1 u s) (hsl:s.length<=1000000000000):Calls Tryz.prog 10 [.slice B p.length c,u].toArray w (Ret (fun v' w'=>∃A c2 xs,v'=.slice A (Wt.found (Tx.dig Tx.tTx) p s).length c2∧((Wt.found (Tx.dig Tx.tTx) p s).length<=c2∧c2<=9223372036854775807)∧St nT w w' [Fact.row 83 36 (.slice A (Wt.found (Tx.dig Tx.tTx) p s).length c2) (Wt.found (Tx.dig Tx.tTx) p s).length xs,Fact.hits xs (Wt.found (Tx.dig Tx.tTx) p s)])):=by
 have hll:=rl_len hl
 have hl0:=hl
 obtain ⟨B_,c_,xs,hv_,-,-,hr,hel⟩:=hl0
 cases hv_
 obtain ⟨As,cs_,rfl,-,-,-⟩:=hs.op
 refine kE (l:=[_,_]) Tryz.func10 U U ?_
 have H:=St.start nT w
 refine kR (sAs U (lkR (sAs U (ln (kQ (kR (sAi U (ln (kb (kL 5 [] (fun mm sl W=>∃i:Nat,∃A1:Option Addr,∃c1:Nat,∃xs1:List Value,∃l1:List WHit,p.length - i=mm∧sl=[(6,.int .i64 (i:Int)),(5,.slice A1 l1.length c1)]∧(i<=p.length)∧(l1=Wt.hitsF (Tx.dig Tx.tTx) s (Wt.flat p.length (p.take i) 0))∧(l1.length<=c1∧c1<=9223372036854775807)∧(l1.length<=i*1000000000)∧St nT w W [Fact.row 83 36 (.slice A1 l1.length c1) l1.length xs1,Fact.hits xs1 l1]) _ _ ⟨0,none,0,[],[],U,U,Nat.zero_le _,U,⟨Nat.le_refl _,by decide⟩,Nat.zero_le _,((H.hits0).nilrow 83 36)⟩ ⟨U,U,trivial⟩ (fun mm sl ρv W hJ=>?_)))))))))))
 clear H;obtain ⟨i,A1,c1,xs1,l1,rfl,rfl,hi,hno,hc1,hn1,H⟩:=hJ
 refine ko (kQ (kR (sMi U (sMs U (sLn U tu22 (sLt U U (ln (kC U (fun hc14=>?_) (fun hc14=>?_)))))))))
 ·have hlt:i<p.length:=by simp at hc14;omega
  obtain ⟨g0,o0,rfl,-⟩:=hr.2 (by omega)
  obtain ⟨b,hib⟩:=get_lt hlt
  obtain ⟨Ab,cb,hLb,hTx,hh⟩:=blk_of (hel i b hib)
  obtain ⟨A2_,c2_,ys,hv2,_,hcb2,hr2,hel2⟩:=hTx
  cases hv2
  have hbl2:b.txs.length<=9223372036854775807:=by omega
  have hbt:=hpt b (List.mem_of_getElem? hib)
  refine kS (kQ (kb (kR (sAi U (ln (kb (kL 17 [5,7,8,9,10] (fun mm sl W=>∃k:Nat,∃A1:Option Addr,∃c1:Nat,∃xs1:List Value,∃l1:List WHit,b.txs.length - k=mm∧sl=[(7,.int .i64 (k:Int)),(5,.slice A1 l1.length c1)]∧(k<=b.txs.length)∧(l1=Wt.hitsF (Tx.dig Tx.tTx) s (Wt.flat p.length (p.take i) 0++(b.txs.take k).map (fun t=>((p.length:Int) - (i:Int),t))))∧(l1.length<=c1∧c1<=9223372036854775807)∧(l1.length<=i*1000000000+k*1000000)∧St nT w W [Fact.row 83 36 (.slice A1 l1.length c1) l1.length xs1,Fact.hits xs1 l1]) _ _ ⟨0,A1,c1,xs1,l1,U,U,Nat.zero_le _,(by rw [List.take_zero,List.map_nil,List.append_nil];exact hno),hc1,(Nat.le_trans hn1 (Nat.le_add_right _ _)),H⟩ ⟨U,U,trivial⟩ (fun mm sl ρv W hJ=>?_))))))))
  clear H;obtain ⟨k,A1,c1,xs1,l1,rfl,rfl,hk,hno2,hc1,hn2,H⟩:=hJ
  refine ko (kQ (kR (sMi U (sMs U (sMi U (sR (dG U (H.rd hr) U U (q:=i) U hlt tu22 ts76) (sFa U tf76_1 (sR (dE (off:=65) U (H.rd hr) hlt hLb (sub_b_txs hh) U U (by omega) ta74) (sLn U tu74 (sLt U U (ln (kC U (fun hc24=>?_) (fun hc24=>?_)))))))))))))
  ·have hlk:k<b.txs.length:=by simp at hc24;omega
   obtain ⟨g1,o1,rfl,-⟩:=hr2.2 (by omega)
   obtain ⟨t,ht⟩:=get_lt hlk
   have hRt:=hel2 k t ht
   obtain ⟨Ai,ci,Bi,di,hL,hIx,hOx,hkt⟩:=tx_of hRt
   rw [hL] at hRt
   have hfw:=hP b (List.mem_of_getElem? hib) t (List.mem_of_getElem? ht)
   have hon:=hfw.2.n.2
   have hOl:=rl_len hOx
   obtain ⟨B3_,c3_,zs,hv3,_,_,hr3,hel3⟩:=hOx
   cases hv3
   refine kS (kQ (kb (kR (sMs U (sMi U (sR (dG U (H.rd hr) U U (q:=i) U hlt tu22 ts76) (sFa U tf76_1 (sR (dE (off:=65) U (H.rd hr) hlt hLb (sub_b_txs hh) U U (by omega) ta74) (sMi U (sR (dG U (H.rd hr2) U U (q:=k) U hlk tu74 ts47) (sR (dN (off:=0) U (H.rd hr2) hlk hL (sa (a:=txC Ai t.ins.length ci Bi t.outs.length di t.lock) (m:=3) U) U U (by omega) ta47 ts47) (sf (eal [.slice none 0 0,.slice none 0 0,.int .i64 0] tz47 H ?_)))))))))))))
   clear H;intro gt W H
   refine sf (esk (txC Ai t.ins.length ci Bi t.outs.length di t.lock) U U U ts47 U U H (by decide) U ?_)
   clear H;intro W H
   refine lkR (sAi U (ln (kb (kL 35 [5,9,10] (fun mm sl W=>∃n:Nat,∃A1:Option Addr,∃c1:Nat,∃xs1:List Value,∃l1:List WHit,t.outs.length - n=mm∧sl=[(9,.int .i64 (n:Int)),(5,.slice A1 l1.length c1)]∧(n<=t.outs.length)∧(l1=Wt.hitsF (Tx.dig Tx.tTx) s (Wt.flat p.length (p.take i) 0++(b.txs.take k).map (fun t=>((p.length:Int) - (i:Int),t)))++Wt.hitsO (Tx.dig Tx.tTx) t ((p.length:Int) - (i:Int)) s (t.outs.take n) 0)∧(l1.length<=c1∧c1<=9223372036854775807)∧(l1.length<=i*1000000000+k*1000000+n)∧St nT w W [Fact.blk gt (txC Ai t.ins.length ci Bi t.outs.length di t.lock) 47,Fact.row 83 36 (.slice A1 l1.length c1) l1.length xs1,Fact.hits xs1 l1]) _ _ ⟨0,A1,c1,xs1,l1,U,U,Nat.zero_le _,(hno2.trans (List.append_nil _).symm),hc1,(Nat.le_trans hn2 (Nat.le_add_right _ _)),H⟩ ⟨U,U,trivial⟩ (fun mm sl ρv W hJ=>?_)))))
   clear H;obtain ⟨n,A1,c1,xs1,l1,rfl,rfl,hm,hno3,hc1,hn3,H⟩:=hJ
   refine ko (kQ (kR (sMi U (sFa U tf47_1 (sR (dX (g:=gt) (off:=1) U H U U U ta45) (sLn U tu45 (sLt U U (ln (kC U (fun hc39=>?_) (fun hc39=>?_))))))))))
   ·have hln:n<t.outs.length:=by simp at hc39;omega
    obtain ⟨g2,o2,rfl,-⟩:=hr3.2 (by omega)
    obtain ⟨o,hx⟩:=get_lt hln
    obtain ⟨Ao,co,hLn,hBo,hno_⟩:=out_of (hel3 n o hx)
    have hdl:(Tx.dig Tx.tTx t).length=32:=Tx.len_dig
    have hdm:((Tx.dig Tx.tTx t).map u8v).length=32:=by rw [List.length_map];exact hdl
    have hol:∀a c,(outC o.value a s.length c).length=2:=fun _ _=>rfl
    have hplen:(pointC ⟨Tx.dig Tx.tTx t,(n:Int)⟩).length=33:=len_point hdl
    have hok:OkHit (⟨⟨Tx.dig Tx.tTx t,(n:Int)⟩,⟨o.value,s⟩,(p.length:Int) - (i:Int)⟩:WHit):=⟨hdl,⟨by dsimp only;omega,by dsimp only;omega⟩,hno_⟩
    refine kS (kQ (kb (kR (sFa U tf47_1 (sR (dX (g:=gt) (off:=1) U H U U U ta45) (sMi U (sR (dG U (H.rd hr3) U U (q:=n) U hln tu45 ts41) (sFa U tf41_1 (sR (dE (off:=1) U (H.rd hr3) hln hLn U U U (by omega) ta23) (sMs U (sf (eI Tryz.func35 U U (sameBytes _ _ o.script s _ (H.bs hBo) (H.bs hs)) H ?_))))))))))))
    clear H;intro W H
    refine ln (kC U (fun hc49=>?_) (fun hc49=>?_))
    ·have he:o.script=s:=by simpa using hc49
     refine kQ (k_cut 50 [10] (fun sl W=>∃A5:Option Addr,∃c5:Nat,∃go:Nat,sl=[(10,.pointer (some ⟨go,0,none⟩))]∧St nT w W [Fact.blk go (outC o.value A5 s.length c5) 41,Fact.row 5 1 (.slice A5 s.length c5) s.length (s.map u8v),Fact.blk gt (txC Ai t.ins.length ci (some ⟨g2,o2,none⟩) t.outs.length di t.lock) 47,Fact.row 83 36 (.slice A1 l1.length c1) l1.length xs1,Fact.hits xs1 l1]) ?_ (fun sl ρv W hJ=>?_))
     ·skip
      refine k_drawT (.rd 0 (.rd 1 (.rd 2 (.rd 3 (.rd 4 (.rd 5 (.rd 6 (.many 3 [7,9] fun j=>(bif Nat.beq j 7 then (.rd 8 (.ef 9 (.ef 10 .nil))) else (.ef 7 (.rd 8 (.ef 10 .nil)))))))))))) [Fact.blk gt (txC Ai t.ins.length ci (some ⟨g2,o2,none⟩) t.outs.length di t.lock) 47] (by kernel_rfl) (by kernel_rfl) H (by repeat (first|exact .refl _|exact List.nil_sublist _|refine .cons_cons _ ?_|refine .cons _ ?_)) ?_
      clear H;intro W H
      refine tR U (fun W H=>dF U U tf47_1) (tR U (fun W H=>dX (g:=gt) (off:=1) U H U U U ta45) (tR U (fun W H=>mv_i U U) (tR U (fun W H=>dG U (H.rd hr3) U U (q:=n) U hln tu45 ts41) (tR U (fun W H=>dF U U tf41_0) (tR U (fun W H=>dE (off:=0) U (H.rd hr3) hln hLn U U U (by omega) ta3) (tR U (fun W H=>mv_s U U) (t_each ?_ ?_)))))))
      ·skip
       refine tf U (eN Tryz.func28 U U (copyBytes _ s _ (H.bs hs) hsl) H ?_)
       clear H;intro A5 c5 W hc5 hd5 H
       refine ⟨_,fun _ h=>h,H.sb,?_⟩
       refine tR U (fun W H=>dB (vs:=outC o.value A5 s.length c5) U (built_fields (places:=[(0,1),(1,1)]) tz41 (by kernel_rfl) (by kernel_rfl) (fN (vs:=[.int .i64 o.value]) (.int .i64 o.value) U U U U (Nat.le_of_ble_eq_true U) (fN (vs:=[.slice A5 s.length c5]) (.slice A5 s.length c5) U (by rfl) U U (Nat.le_of_ble_eq_true U) (fill_end (by rfl)))))) ?_
       refine tf U (eal [.int .i64 0,.slice none 0 0] tz41 H ?_)
       clear H;intro go W H
       refine ⟨_,fun _ h=>h,H.sb,?_⟩
       refine tf U (esk (outC o.value A5 s.length c5) U U U ts41 U U H (by decide) U ?_)
       clear H;intro W H
       refine ⟨_,fun _ h=>h,H.sb,?_⟩
       refine t_nil (kn (n_then ?_))
       refine ⟨_,_,U,?_,?_,⟨A5,c5,go,U,H.pm⟩⟩
       ·with_reducible repeat first|exact .refl|refine .f ?_ ?_ ?_;kernel_rfl;kernel_rfl|refine .u ?_ ?_;kernel_rfl
       ·refine ⟨?_,trivial⟩
        ·exact U
      refine t_each ?_ ?_
      ·skip
       refine tf U (eal [.int .i64 0,.slice none 0 0] tz41 H ?_)
       clear H;intro go W H
       refine ⟨_,fun _ h=>h,H.sb,?_⟩
       refine tf U (eN Tryz.func28 U U (copyBytes _ s _ (H.bs hs) hsl) H ?_)
       clear H;intro A5 c5 W hc5 hd5 H
       refine ⟨_,fun _ h=>h,H.sb,?_⟩
       refine tR U (fun W H=>dB (vs:=outC o.value A5 s.length c5) U (built_fields (places:=[(0,1),(1,1)]) tz41 (by kernel_rfl) (by kernel_rfl) (fN (vs:=[.int .i64 o.value]) (.int .i64 o.value) U U U U (Nat.le_of_ble_eq_true U) (fN (vs:=[.slice A5 s.length c5]) (.slice A5 s.length c5) U (by rfl) U U (Nat.le_of_ble_eq_true U) (fill_end (by rfl)))))) ?_
       refine tf U (esk (outC o.value A5 s.length c5) U U U ts41 U U H (by decide) U ?_)
       clear H;intro W H
       refine ⟨_,fun _ h=>h,H.sb,?_⟩
       refine t_nil (kn (n_then ?_))
       refine ⟨_,_,U,?_,?_,⟨A5,c5,go,U,H.pm⟩⟩
       ·with_reducible repeat first|exact .refl|refine .f ?_ ?_ ?_;kernel_rfl;kernel_rfl|refine .u ?_ ?_;kernel_rfl
       ·refine ⟨?_,trivial⟩
        ·exact U
      exact t_none
     clear H;obtain ⟨A5,c5,go,rfl,H⟩:=hJ
     refine k_draw [(0,true),(1,true),(3,true),(5,true),(6,true),(7,true),(8,true),(9,true),(2,false),(4,true),(10,true),(11,false),(12,false),(13,true)] [Fact.blk go (outC o.value A5 s.length c5) 41,Fact.blk gt (txC Ai t.ins.length ci (some ⟨g2,o2,none⟩) t.outs.length di t.lock) 47] (by kernel_rfl) (by kernel_rfl) H (by repeat (first|exact .refl _|exact List.nil_sublist _|refine .cons_cons _ ?_|refine .cons _ ?_)) ?_
     clear H;intro W H
     refine cMs U U (cR U (fun W H=>dM (g:=gt) (off:=0) U H (sa (a:=txC Ai t.ins.length ci (some ⟨g2,o2,none⟩) t.outs.length di t.lock) (m:=3) U) U U U U ta47 ts47) (cMi U U (cR U (fun W H=>dM (g:=go) (off:=0) U H (sa (a:=outC o.value A5 s.length c5) (m:=2) U) U U U U ta41 ts41) (cMs U U (cR U (fun W H=>d_len U U tu22) (cMi U U (cR U (fun W H=>d_sub U U U (by omega)) (cf U (eI Tryz.func36 U U (idTR _ (keeps_Tx _ _ _ _ _ hRt (fun g hg _=>H.fr.block g hg (fun h=>h)))) H ?_)))))))))
     clear H;intro W H
     refine ⟨H.sb,?_⟩
     refine cR U (fun W H=>dB (vs:=pointC ⟨Tx.dig Tx.tTx t,(n:Int)⟩) U (built_fields (places:=[(0,32),(32,1)]) tz27 (by kernel_rfl) (by kernel_rfl) (fN (vs:=(Tx.dig Tx.tTx t).map u8v) (.agg ((Tx.dig Tx.tTx t).map u8v).toArray) U U U hdm (Nat.le_of_ble_eq_true U) (fN (vs:=[.int .i64 (n:Int)]) (.int .i64 (n:Int)) U (by first|(simp [hdm];done)|(simp [hdm];omega)) U U (Nat.le_of_ble_eq_true U) (fill_end (by simp [pointC])))))) ?_
     refine cR U (fun W H=>dB (vs:=hitC (⟨⟨Tx.dig Tx.tTx t,(n:Int)⟩,⟨o.value,s⟩,(p.length:Int) - (i:Int)⟩:WHit) A5 s.length c5) U (built_fields (places:=[(0,33),(33,2),(35,1)]) tz83 (by kernel_rfl) (by kernel_rfl) (fN (vs:=pointC ⟨Tx.dig Tx.tTx t,(n:Int)⟩) (.agg (pointC ⟨Tx.dig Tx.tTx t,(n:Int)⟩).toArray) U U U hplen (Nat.le_of_ble_eq_true U) (fN (vs:=outC o.value A5 s.length c5) (.agg (outC o.value A5 s.length c5).toArray) U (by first|(simp [hplen];done)|(simp [hplen];omega)) U (hol _ _) (Nat.le_of_ble_eq_true U) (fN (vs:=[.int .i64 ((p.length:Int) - (i:Int))]) (.int .i64 ((p.length:Int) - (i:Int))) U (by first|(simp [hplen,(hol _ _)];done)|(simp [hplen,(hol _ _)];omega)) U U (Nat.le_of_ble_eq_true U) (fill_end (by simp [hitC,outC]))))))) ?_
     refine cf U (ebs (xs:=[.tmp 69]) (vals:=[.agg (hitC (⟨⟨Tx.dig Tx.tTx t,(n:Int)⟩,⟨o.value,s⟩,(p.length:Int) - (i:Int)⟩:WHit) A5 s.length c5).toArray]) (vs:=(hitC (⟨⟨Tx.dig Tx.tTx t,(n:Int)⟩,⟨o.value,s⟩,(p.length:Int) - (i:Int)⟩:WHit) A5 s.length c5)) U U U U tu36 ts83 ty83 U (by simp [agg_cells,len_hit hok]) (by simp [agg_cells]) H ?_)
     clear H;intro g14_11 W H
     refine ⟨H.sb,?_⟩
     refine cf U (eap tu36 tx83 U U U H (rd_blk (m:=1) H.blk (len_hit hok)) (hit_one) (by omega) U ?_)
     clear H;intro A8 c8 W hc8 hd8 H
     replace H:=H.drop
     refine ⟨H.sb,?_⟩
     refine cAs U U (c_nil ?_)
     replace H:=H.drop
     replace H:=(H.perm (.cons _ (List.perm_middle (l₁:=[_,_]) (l₂:=[])))).hitsnoc (h:=(⟨⟨Tx.dig Tx.tTx t,(n:Int)⟩,⟨o.value,s⟩,(p.length:Int) - (i:Int)⟩:WHit)) rfl rfl hok
     replace H:=H.perm (List.perm_middle (l₁:=[_,_]) (l₂:=[])).symm
     refine kn (zE (kI U U U (by omega) U (kn (kY ?_))))
     refine ⟨_,_,_,?_,U,?_,?_,⟨n+1,A8,c8,_,l1++[(⟨⟨Tx.dig Tx.tTx t,(n:Int)⟩,⟨o.value,s⟩,(p.length:Int) - (i:Int)⟩:WHit)],U,U,by omega,(by rw [Wt.hitsO_take hx,if_pos he,←List.append_assoc,←hno3]),(by rw [List.length_append];exact ⟨hc8,hd8⟩),(by rw [List.length_append,List.length_singleton];omega),(by rw [List.length_append];exact H)⟩⟩
     ·omega
     ·with_reducible repeat first|exact .refl|refine .f ?_ ?_ ?_;kernel_rfl;kernel_rfl|refine .u ?_ ?_;kernel_rfl
     ·refine ⟨?_,?_,trivial⟩
      ·exact vi (by omega)
      ·exact (by rw [List.length_append];rfl)
    ·have he:¬o.script=s:=by simpa using hc49
     refine kS (kn (zE (kI U U U (by omega) U (kn (kY ?_)))))
     refine ⟨_,_,_,?_,U,?_,?_,⟨n+1,A1,c1,xs1,l1,U,U,by omega,(by rw [Wt.hitsO_take hx,if_neg he,List.append_nil];exact hno3),hc1,(by omega),H⟩⟩
     ·omega
     ·with_reducible repeat first|exact .refl|refine .f ?_ ?_ ?_;kernel_rfl;kernel_rfl|refine .u ?_ ?_;kernel_rfl
     ·refine ⟨?_,?_,trivial⟩
      ·exact vi (by omega)
      ·exact U
   ·obtain rfl:n=t.outs.length:=by simp at hc39;omega
    rw [List.take_length] at hno3
    refine ke (xQ (xQ ?_))
    refine xH (kn (zE (kI U U U (by omega) U (kn (kY ?_)))))
    replace H:=H.drop
    refine ⟨_,_,_,?_,U,?_,?_,⟨k+1,A1,c1,xs1,l1,U,U,by omega,(by rw [take_get ht,List.map_append,←List.append_assoc,List.map_singleton,Wt.hitsF_snoc];exact hno3),hc1,(le_step hn3 hon),H⟩⟩
    ·omega
    ·with_reducible repeat first|exact .refl|refine .f ?_ ?_ ?_;kernel_rfl;kernel_rfl|refine .u ?_ ?_;kernel_rfl
    ·refine ⟨?_,?_,trivial⟩
     ·exact vi (by omega)
     ·exact U
  ·obtain rfl:k=b.txs.length:=by simp at hc24;omega
   refine ke (xQ (xQ ?_))
   refine xH (kn (zE (kI U U U (by omega) U (kn (kY ?_)))))
   refine ⟨_,_,_,?_,U,?_,?_,⟨i+1,A1,c1,xs1,l1,U,U,by omega,(by rw [Wt.flat_step hib];rw [List.take_length] at hno2;exact hno2),hc1,(le_step2 hn2 hbt (Nat.le_of_ble_eq_true U)),H⟩⟩
   ·omega
   ·with_reducible repeat first|exact .refl|refine .f ?_ ?_ ?_;kernel_rfl;kernel_rfl|refine .u ?_ ?_;kernel_rfl
   ·refine ⟨?_,?_,trivial⟩
    ·exact vi (by omega)
    ·exact U
 ·obtain rfl:i=p.length:=by simp at hc14;omega
  rw [List.take_length] at hno
  refine ke (xQ (xQ ?_))
  refine xH (kR (sMs U (sAs U (ln (kx ?_)))))
  have hv:Wt.found (Tx.dig Tx.tTx) p s=l1:=by unfold Wt.found;rw [Wt.found_flat];exact hno.symm
  rw [hv]
  exact qr (v:=.slice _ _ _) U U ⟨_,U,A1,c1,xs1,U,hc1,H⟩
end Go.Proofs.YtjjodibkmeefpaaGreatDoor
