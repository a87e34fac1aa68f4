import Derived.Test.YtjjodibkmeefpaaGreatDoorMWE
import Derived.Test.YtjjodibkmeefpaaGreatDoorMY
set_option linter.unusedVariables false
set_option linter.unusedSimpArgs false
set_option maxHeartbeats 4000000

namespace Go.Proofs.YtjjodibkmeefpaaGreatDoor
open Go Go.RowKit
attribute [local irreducible] wpList

def bigL (l:List DTx):Bool:=decide (20<l.length) || l.any (Tx.big 20 2048)
theorem bigL_1 {l:List DTx} (h:20<l.length):bigL l=true:=by unfold bigL;rw [decide_eq_true h];rfl
theorem bigL_2 {l:List DTx} {t:DTx} (h:t∈l) (hb:Tx.big 20 2048 t=true):bigL l=true:=by
 unfold bigL
 rw [List.any_eq_true.2 ⟨t,h,hb⟩,Bool.or_true]
theorem bigL_0 {l:List DTx} (h:¬20<l.length) (hb:∀t∈l,Tx.big 20 2048 t=false):bigL l=false:=by
 unfold bigL
 rw [decide_eq_false h,Bool.false_or]
 exact Bool.eq_false_iff.2 (fun e=>by
  obtain ⟨t,h1,h2⟩:=List.any_eq_true.1 e
  rw [hb t h1] at h2
  cases h2)

theorem bigLP {S:Nat->Prop} {v:Value} {l:List DTx} (w:World) (hl:RL 3 RTx w S [v] l) (hz:∀t∈l,Tx.Szd t):Calls Tryz.prog 29 [v].toArray w (Ret (Is w (.bool (bigL l)))):=by
 have hll:=rl_len hl
 obtain ⟨A,c,xs,hv_,hcA_,hcmA_,hr,hel⟩:=hl
 obtain rfl:v=.slice A l.length c:=by cases hv_;rfl
 refine kE (l:=[_]) Tryz.func29 U U ?_
 have H:=St.start nT w
 refine kR (sAb U (ln (kQ (kR (sMs U (sLn U tu74 (sR (d_gt U U U) (ln (kC U (fun hc6=>?_) (fun hc6=>?_))))))))))
 ·have hbg:20<l.length:=by simp at hc6;omega
  refine kR (sAb U (ln (kx ?_)))
  exact qr (v:=.bool _) U U ⟨_,U,vb ((bigL_1 hbg).symm),H.under⟩
 ·have hbg:¬20<l.length:=by simp at hc6;omega
  refine kS (kQ (kR (sAi U (ln (kb (kL 7 [2,3] (fun mm sl W=>∃i:Nat,l.length - i=mm∧sl=[(3,.int .i64 (i:Int))]∧(i<=l.length)∧(∀t∈l.take i,Tx.big 20 2048 t=false)∧St nT w W []) _ _ ⟨0,U,U,Nat.zero_le _,fun t h=>by simp at h,H⟩ ⟨U,trivial⟩ (fun mm sl ρv W hJ=>?_)))))))
  clear H;obtain ⟨i,rfl,rfl,hi,hs,H⟩:=hJ
  refine ko (kQ (kR (sMi U (sMs U (sLn U tu74 (sLt U U (ln (kC U (fun hc10=>?_) (fun hc10=>?_)))))))))
  ·have hlt:i<l.length:=by simp at hc10;omega
   obtain ⟨g0,o0,rfl,-⟩:=hr.2 (by omega)
   obtain ⟨x,hx⟩:=get_lt hlt
   have hX:=hel i x hx
   obtain ⟨Ai,ci,Bi,di,hL,-,-,-⟩:=tx_of hX
   rw [hL] at hX
   refine kS (kQ (kb (kR (sMs U (sMi U (sR (dG U (H.rd hr) U U (q:=i) U hlt tu74 ts47) (sR (dN (off:=0) U (H.rd hr) hlt hL (sa (a:=txC Ai x.ins.length ci Bi x.outs.length di x.lock) (m:=3) U) U U (by omega) ta47 ts47) (sf (eI Tryz.func50 U U (bigTx (rows:=20) (bytes:=2048) _ (keeps_Tx _ _ _ _ _ hX (fun g hg _=>H.fr.block g hg (fun h=>h))) (hz x (List.mem_of_getElem? hx))) H ?_)))))))))
   clear H;intro W H
   refine ln (kC U (fun hc17=>?_) (fun hc17=>?_))
   ·have hbx:Tx.big 20 2048 x=true:=hc17
    refine kR (sAb U (ln (kx ?_)))
    exact qr (v:=.bool _) U U ⟨_,U,vb ((bigL_2 (List.mem_of_getElem? hx) hbx).symm),H.under⟩
   ·have hbx:Tx.big 20 2048 x=false:=hc17
    refine kS (kn (zE (kI U U U (by omega) U (kn (kY ?_)))))
    refine ⟨_,_,_,?_,U,?_,?_,⟨i+1,U,U,by omega,fun t h=>by
      rw [take_get hx] at h
      rcases List.mem_append.1 h with h|h
      ·exact hs t h
      ·rw [List.mem_singleton.1 h];exact hbx,H⟩⟩
    ·omega
    ·with_reducible repeat first|exact .refl|refine .f ?_ ?_ ?_;kernel_rfl;kernel_rfl|refine .u ?_ ?_;kernel_rfl
    ·refine ⟨?_,trivial⟩
     ·exact vi (by omega)
  ·obtain rfl:i=l.length:=by simp at hc10;omega
   rw [List.take_length] at hs
   refine ke (xQ (xQ ?_))
   refine xH (kR (sAb U (ln (kx ?_))))
   exact qr (v:=.bool _) U U ⟨_,U,vb ((bigL_0 hbg hs).symm),H.under⟩

theorem bigL_f {l:List DTx} (h:bigL l=false):l.length<=20∧∀t∈l,Tx.FitW t:=by
 unfold bigL at h
 rw [Bool.or_eq_false_iff] at h
 refine ⟨by have:=of_decide_eq_false h.1;omega,fun t ht=>?_⟩
 have hs:=Tx.not_big (Bool.eq_false_iff.2 (fun e=>Bool.eq_false_iff.1 h.2 (List.any_eq_true.2 ⟨t,ht,e⟩))) (by decide)
 have h1:=hs.ins;have h2:=hs.outs
 exact ⟨Tx.fits hs (by decide) (by decide),⟨⟨fun x hx=>⟨by have:=(hs.wit x hx).1;omega,fun b hb=>by have:=(hs.wit x hx).2 b hb;omega⟩,fun o ho=>by have:=hs.scr o ho;omega⟩,by omega,by omega⟩⟩
def bigP (l:List DBlock):Bool:=decide (12<l.length) || l.any (fun b=>bigL b.txs)
theorem bigP_1 {l:List DBlock} (h:12<l.length):bigP l=true:=by unfold bigP;rw [decide_eq_true h];rfl
theorem bigP_2 {l:List DBlock} {b:DBlock} (h:b∈l) (hb:bigL b.txs=true):bigP l=true:=by
 unfold bigP
 rw [List.any_eq_true.2 ⟨b,h,hb⟩,Bool.or_true]
theorem bigP_0 {l:List DBlock} (h:¬12<l.length) (hb:∀b∈l,bigL b.txs=false):bigP l=false:=by
 unfold bigP
 rw [decide_eq_false h,Bool.false_or]
 exact Bool.eq_false_iff.2 (fun e=>by
  obtain ⟨t,h1,h2⟩:=List.any_eq_true.1 e
  rw [hb t h1] at h2
  cases h2)
theorem flat_le {N K:Nat}:∀{l:List DBlock} {i:Nat},(∀b∈l,b.txs.length<=K)->(Wt.flat N l i).length<=l.length*K
 | [],_,_=>by simp [Wt.flat]
 | b::l,i,h=>by
  rw [Wt.flat,List.length_append,List.length_map,List.length_cons,Nat.succ_mul]
  have h1:=h b (.head _)
  have h2:=flat_le (N:=N) (K:=K) (l:=l) (i:=i+1) (fun x hx=>h x (.tail _ hx))
  omega
theorem bigP_f {l:List DBlock} (h:bigP l=false):l.length<=12∧(∀b∈l,b.txs.length<=20)∧∀b∈l,∀t∈b.txs,Tx.FitW t:=by
 unfold bigP at h
 rw [Bool.or_eq_false_iff] at h
 have hb:∀b∈l,bigL b.txs=false:=fun b hb=>Bool.eq_false_iff.2 (fun e=>Bool.eq_false_iff.1 h.2 (List.any_eq_true.2 ⟨b,hb,e⟩))
 exact ⟨by have:=of_decide_eq_false h.1;omega,fun b hb'=>(bigL_f (hb b hb')).1,fun b hb'=>(bigL_f (hb b hb')).2⟩

theorem big13 {S:Nat->Prop} {v:Value} {l:List DBlock} (w:World) (hl:RL 66 RBlock w S [v] l) (hz:∀b∈l,∀t∈b.txs,Tx.Szd t):Calls Tryz.prog 5 [v].toArray w (Ret (Is w (.bool (bigP l)))):=by
 have hll:=rl_len hl
 obtain ⟨A,c,xs,hv_,hcA_,hcmA_,hr,hel⟩:=hl
 obtain rfl:v=.slice A l.length c:=by cases hv_;rfl
 refine kE (l:=[_]) Tryz.func5 U U ?_
 have H:=St.start nT w
 refine kR (sAb U (ln (kQ (kR (sMs U (sLn U tu22 (sR (d_gt U U U) (ln (kC U (fun hc6=>?_) (fun hc6=>?_))))))))))
 ·have hbg:12<l.length:=by simp at hc6;omega
  refine kR (sAb U (ln (kx ?_)))
  exact qr (v:=.bool _) U U ⟨_,U,vb ((bigP_1 hbg).symm),H.under⟩
 ·have hbg:¬12<l.length:=by simp at hc6;omega
  refine kS (kQ (kR (sAi U (ln (kb (kL 7 [2,3] (fun mm sl W=>∃i:Nat,l.length - i=mm∧sl=[(3,.int .i64 (i:Int))]∧(i<=l.length)∧(∀b∈l.take i,bigL b.txs=false)∧St nT w W []) _ _ ⟨0,U,U,Nat.zero_le _,fun b h=>by simp at h,H⟩ ⟨U,trivial⟩ (fun mm sl ρv W hJ=>?_)))))))
  clear H;obtain ⟨i,rfl,rfl,hi,hs,H⟩:=hJ
  refine ko (kQ (kR (sMi U (sMs U (sLn U tu22 (sLt U U (ln (kC U (fun hc10=>?_) (fun hc10=>?_)))))))))
  ·have hlt:i<l.length:=by simp at hc10;omega
   obtain ⟨g0,o0,rfl,-⟩:=hr.2 (by omega)
   obtain ⟨b,hib⟩:=get_lt hlt
   obtain ⟨Ab,cb,hLb,hTx,hh⟩:=blk_of (hel i b hib)
   refine kS (kQ (kb (kR (sMs U (sMi U (sR (dG U (H.rd hr) U U (q:=i) U hlt tu22 ts76) (sFa U tf76_1 (sR (dE (off:=65) U (H.rd hr) hlt hLb (sub_b_txs hh) U U (by omega) ta74) (sf (eI Tryz.func29 U U (bigLP _ (keeps_L keeps_Tx _ _ _ _ _ hTx (fun g hg _=>H.fr.block g hg (fun h=>h))) (hz b (List.mem_of_getElem? hib))) H ?_))))))))))
   clear H;intro W H
   refine ln (kC U (fun hc18=>?_) (fun hc18=>?_))
   ·have hbx:bigL b.txs=true:=hc18
    refine kR (sAb U (ln (kx ?_)))
    exact qr (v:=.bool _) U U ⟨_,U,vb ((bigP_2 (List.mem_of_getElem? hib) hbx).symm),H.under⟩
   ·have hbx:bigL b.txs=false:=hc18
    refine kS (kn (zE (kI U U U (by omega) U (kn (kY ?_)))))
    refine ⟨_,_,_,?_,U,?_,?_,⟨i+1,U,U,by omega,fun y h=>by
      rw [take_get hib] at h
      rcases List.mem_append.1 h with h|h
      ·exact hs y h
      ·rw [List.mem_singleton.1 h];exact hbx,H⟩⟩
    ·omega
    ·with_reducible repeat first|exact .refl|refine .f ?_ ?_ ?_;kernel_rfl;kernel_rfl|refine .u ?_ ?_;kernel_rfl
    ·refine ⟨?_,trivial⟩
     ·exact vi (by omega)
  ·obtain rfl:i=l.length:=by simp at hc10;omega
   rw [List.take_length] at hs
   refine ke (xQ (xQ ?_))
   refine xH (kR (sAb U (ln (kx ?_))))
   exact qr (v:=.bool _) U U ⟨_,U,vb ((bigP_0 hbg hs).symm),H.under⟩

theorem watchSpendsB {S:Nat->Prop} {B:Option Addr} {c:Nat} {p:List DBlock} (w:World) (hl:RL 66 RBlock w S [.slice B p.length c] p) (hG:Gat w 2 formsC) (hB:Old.Gl w) (hsz:∀b∈p,∀t∈b.txs,Tx.Szd t) {pt:DPoint} (hp:pt.tx.length=32) (hn:I64 pt.n):Calls Tryz.prog 27 [.slice B p.length c,.agg (pointC pt).toArray].toArray w (Ret (Is w (.bool true))):=by
 have hll:=rl_len hl
 have hl0:=hl
 obtain ⟨B_,c_,xs,hv_,-,-,hr,hel⟩:=hl
 cases hv_
 refine kE (l:=[_,_]) Tryz.func27 U U ?_
 have H:=St.start nT w
 refine kR (sf (ebx (vs:=(pointC pt)) U U H ?_))
 clear H;intro gp W H
 refine sAb U (ln (kQ (kR (sMs U (sf (eI Tryz.func5 U U (big13 _ (keeps_L keeps_Block _ _ _ _ _ hl0 (fun g hg _=>H.fr.block g hg (fun h=>h))) hsz) H ?_))))))
 clear H;intro W H
 refine ln (kC U (fun hc12=>?_) (fun hc12=>?_))
 ·skip
  refine kR (sf (eI Tryz.func6 U U (works13 _ (H.gat hG) (H.gl hB)) H ?_))
  clear H;intro W H
  refine sAb U (ln (kx ?_))
  exact qr (v:=.bool _) U U ⟨_,U,vb (U),H.under⟩
 ·obtain ⟨hpl,htl,hP⟩:=bigP_f (by exact hc12)
  refine kS (kR (sMs U (sR (dM (g:=gp) (off:=0) U H (sa (len_point hp)) (len_point hp) U U U ta27 ts27) (sf (ecl Tryz.func13 U U (spentP _ (keeps_L keeps_Block _ _ _ _ _ hl0 (fun g hg _=>H.fr.block g hg (fun h=>h))) hP hp hn) ?_)))))
  rintro _ W ⟨⟨Sz,Az,cz,Bz,dz,tz,nz,kz⟩,hz,rfl,hn1⟩
  replace hn1:St nT _ W [Fact.zc 71 41 Sz Az cz Bz dz tz]:=hn1
  replace H:=H.add1 hn1
  clear hn1
  refine sMt U (sEx U U (sEx U U (sf (eal (spC none 0 0 none 0 0 0 0 0) tz49 H ?_))))
  clear H;intro gs W H
  refine sf (esk (spC Az tz.ins.length cz Bz tz.outs.length dz tz.lock nz kz) U U U ts49 U U H (by decide) U ?_)
  clear H;intro W H
  refine sAb U (ln (kQ (kR (sAi U (ln (kb (kL 20 [4,7,8,9,10] (fun mm sl W=>∃i:Nat,p.length - i=mm∧sl=[(7,.int .i64 (i:Int))]∧(i<=p.length)∧(Wt.spentF pt (Wt.flat p.length (p.take i) 0)=none)∧St nT w W [Fact.blk gs (spC Az tz.ins.length cz Bz tz.outs.length dz tz.lock nz kz) 49,Fact.zc 71 41 Sz Az cz Bz dz tz,Fact.blk gp (pointC pt) 27]) _ _ ⟨0,U,U,Nat.zero_le _,U,H⟩ ⟨U,trivial⟩ (fun mm sl ρv W hJ=>?_))))))))
  clear H;obtain ⟨i,rfl,rfl,hi,hno,H⟩:=hJ
  refine ko (kQ (kR (sMi U (sMs U (sLn U tu22 (sLt U U (ln (kC U (fun hc23=>?_) (fun hc23=>?_)))))))))
  ·have hlt:i<p.length:=by simp at hc23;omega
   obtain ⟨g0,o0,rfl,-⟩:=hr.2 (by omega)
   obtain ⟨b,hib⟩:=get_lt hlt
   obtain ⟨Ab,cb,hLb,hTx,hh⟩:=blk_of (hel i b hib)
   obtain ⟨A2_,c2_,ys,hv2,_,hcb2,hr2,hel2⟩:=hTx
   cases hv2
   have hbl2:b.txs.length<=9223372036854775807:=by omega
   refine kS (kQ (kb (kR (sAi U (ln (kb (kL 26 [4,8,9,10] (fun mm sl W=>∃k:Nat,b.txs.length - k=mm∧sl=[(8,.int .i64 (k:Int))]∧(k<=b.txs.length)∧(Wt.spentF pt (Wt.flat p.length (p.take i) 0++(b.txs.take k).map (fun t=>((p.length:Int) - (i:Int),t)))=none)∧St nT w W [Fact.blk gs (spC Az tz.ins.length cz Bz tz.outs.length dz tz.lock nz kz) 49,Fact.zc 71 41 Sz Az cz Bz dz tz,Fact.blk gp (pointC pt) 27]) _ _ ⟨0,U,U,Nat.zero_le _,(by rw [List.take_zero,List.map_nil,List.append_nil];exact hno),H⟩ ⟨U,trivial⟩ (fun mm sl ρv W hJ=>?_))))))))
   clear H;obtain ⟨k,rfl,rfl,hk,hno2,H⟩:=hJ
   refine ko (kQ (kR (sMi U (sMs U (sMi U (sR (dG U (H.rd hr) U U (q:=i) U hlt tu22 ts76) (sFa U tf76_1 (sR (dE (off:=65) U (H.rd hr) hlt hLb (sub_b_txs hh) U U (by omega) ta74) (sLn U tu74 (sLt U U (ln (kC U (fun hc33=>?_) (fun hc33=>?_)))))))))))))
   ·have hlk:k<b.txs.length:=by simp at hc33;omega
    obtain ⟨g1,o1,rfl,-⟩:=hr2.2 (by omega)
    obtain ⟨t,ht⟩:=get_lt hlk
    have hRt:=hel2 k t ht
    obtain ⟨Ai,ci,Bi,di,hL,hIx,-,-⟩:=tx_of hRt
    rw [hL] at hRt
    have hft:=hP b (List.mem_of_getElem? hib) t (List.mem_of_getElem? ht)
    have hIl:=rl_len hIx
    obtain ⟨A3_,c3_,zs,hv3,_,_,hr3,hel3⟩:=hIx
    cases hv3
    refine kS (kQ (kb (kR (sMs U (sMi U (sR (dG U (H.rd hr) U U (q:=i) U hlt tu22 ts76) (sFa U tf76_1 (sR (dE (off:=65) U (H.rd hr) hlt hLb (sub_b_txs hh) U U (by omega) ta74) (sMi U (sR (dG U (H.rd hr2) U U (q:=k) U hlk tu74 ts47) (sR (dN (off:=0) U (H.rd hr2) hlk hL (sa (a:=txC Ai t.ins.length ci Bi t.outs.length di t.lock) (m:=3) U) U U (by omega) ta47 ts47) (sf (eal [.slice none 0 0,.slice none 0 0,.int .i64 0] tz47 H ?_)))))))))))))
    clear H;intro gt W H
    refine sf (esk (txC Ai t.ins.length ci Bi t.outs.length di t.lock) U U U ts47 U U H (by decide) U ?_)
    clear H;intro W H
    refine lkR (sAi U (ln (kb (kL 44 [4,10] (fun mm sl W=>∃n:Nat,t.ins.length - n=mm∧sl=[(10,.int .i64 (n:Int))]∧(n<=t.ins.length)∧(Wt.inAt pt (t.ins.take n) 0=none)∧St nT w W [Fact.blk gt (txC Ai t.ins.length ci Bi t.outs.length di t.lock) 47,Fact.blk gs (spC Az tz.ins.length cz Bz tz.outs.length dz tz.lock nz kz) 49,Fact.zc 71 41 Sz Az cz Bz dz tz,Fact.blk gp (pointC pt) 27]) _ _ ⟨0,U,U,Nat.zero_le _,U,H⟩ ⟨U,trivial⟩ (fun mm sl ρv W hJ=>?_)))))
    clear H;obtain ⟨n,rfl,rfl,hm,hno3,H⟩:=hJ
    refine ko (kQ (kR (sMi U (sFa U tf47_0 (sR (dX (g:=gt) (off:=0) U H U U U ta44) (sLn U tu44 (sLt U U (ln (kC U (fun hc48=>?_) (fun hc48=>?_))))))))))
    ·have hln:n<t.ins.length:=by simp at hc48;omega
     obtain ⟨g2,o2,rfl,-⟩:=hr3.2 (by omega)
     obtain ⟨x,hx⟩:=get_lt hln
     obtain ⟨Aw,cw,hLn,-,hpx,hnx⟩:=in_of (hel3 n x hx)
     refine kS (kQ (kb (kQ (k_draw [(0,true),(1,true),(2,true),(3,true),(4,true),(5,true),(6,true),(7,true)] _ (by kernel_rfl) (by kernel_rfl) H (.refl _) ?_))))
     clear H;intro W H
     refine cFa U U tf47_0 (cR U (fun W H=>dX (g:=gt) (off:=0) U H U U U ta44) (cMi U U (cR U (fun W H=>dG U (H.rd hr3) U U (q:=n) U hln tu44 ts71) (cFa U U tf71_0 (cR U (fun W H=>dN (off:=0) U (H.rd hr3) hln hLn (sub_in_p hpx) U U (by omega) ta27 ts27) (cR U (fun W H=>dM (g:=gp) (off:=0) U H (sa (len_point hp)) (len_point hp) U U U ta27 ts27) (cR U (fun W H=>d_eqst (r:=beqPoint x.point pt) U U U (eq_Point (d:=9997) (point_rep (W:=w) (S:=nT) hpx hnx) (point_rep (W:=w) (S:=nT) hp hn)) (by kernel_rfl)) ?_)))))))
     refine c_nil (kC U (fun hc58=>?_) (fun hc58=>?_))
     ·have heq:beqPoint x.point pt=true:=hc58
      have hat:=Wt.inAt_yes hx hno3 heq
      have hsp:Wt.spent p pt=some (t,n,(p.length:Int) - (i:Int)):=by
       obtain ⟨rest,hfl⟩:=Wt.flat_at (N:=p.length) hib ht
       unfold Wt.spent
       rw [Wt.spent_flat,hfl,←List.append_assoc]
       exact Wt.spentF_hit hno2 hat
      unfold SpO.Is at hz
      rw [hsp] at hz
      dsimp only at hz
      obtain ⟨rfl,rfl,rfl⟩:=hz
      refine kR (sMb U (sBt U (by rw [hsp];rfl) ?_))
      refine sr (w_g U U U U) U (dF U U tf49_1) (sr (w_g U U U U) U (dX (g:=gs) (off:=3) U H U U U ta3) (sr (w_g U U U U) U (mv_i U U) (sr (w_g U U U U) U (d_eq U U U) (sPT U U (sBt U (by simp) (sr (w_g U U U U) U (dF U U tf49_2) (sr (w_g U U U U) U (dX (g:=gs) (off:=4) U H U U U ta3) (sr (w_g U U U U) U (mv_s U U) (sr (w_g U U U U) U (d_len U U tu22) (sr (w_g U U U U) U (mv_i U U) (sr (w_g U U U U) U (d_sub U U U (by omega)) (sr (w_g U U U U) U (d_eq U U U) ?_))))))))))))
      refine sPT U U (sBt U (by simp) (sr (w_g U U U U) U (dF U U tf49_0) (sr (w_g U U U U) U (dM (g:=gs) (off:=0) (cs:=txC Az tz.ins.length cz Bz tz.outs.length dz tz.lock) U H U U U U U ta47 ts47) (sr (w_g U U U U) U (dM (g:=gt) (off:=0) U H (sa (a:=txC (some ⟨g2,o2,none⟩) tz.ins.length ci Bi tz.outs.length di tz.lock) (m:=3) U) U U U U ta47 ts47) (sf (e_call (w_g U U U U) U U Tryz.func15 U U U (sameTx _ (H.zcrep (eI:=71) (eO:=41) (S:=Sz)) (keeps_Tx _ _ _ _ _ hRt (fun g hg _=>H.fr.block g hg (fun h=>h)))) ?_))))))
      rintro _ W ⟨rfl,hb⟩
      replace H:=H.below hb
      clear hb
      refine sPT U U (sBt U (by simp) (sf (e_call (w_g U U U U) U U Tryz.func6 U U U (works13 _ (H.gat hG) (H.gl hB)) ?_)))
      rintro _ W ⟨rfl,hb⟩
      replace H:=H.below hb
      clear hb
      refine sPT U U (sAb U (ln (kx ?_)))
      exact qr (v:=.bool _) U U ⟨_,U,vb (U),H.under⟩
     ·have heq:beqPoint x.point pt=false:=hc58
      refine kS (kn (zE (kI U U U (by omega) U (kn (kY ?_)))))
      refine ⟨_,_,_,?_,U,?_,?_,⟨n+1,U,U,by omega,Wt.inAt_no hx hno3 (by exact heq),H⟩⟩
      ·omega
      ·with_reducible repeat first|exact .refl|refine .f ?_ ?_ ?_;kernel_rfl;kernel_rfl|refine .u ?_ ?_;kernel_rfl
      ·refine ⟨?_,trivial⟩
       ·exact vi (by omega)
    ·obtain rfl:n=t.ins.length:=by simp at hc48;omega
     refine ke (xQ (xQ ?_))
     refine xH (kn (zE (kI U U U (by omega) U (kn (kY ?_)))))
     replace H:=H.drop
     refine ⟨_,_,_,?_,U,?_,?_,⟨k+1,U,U,by omega,(by rw [take_get ht,List.map_append,←List.append_assoc];rw [List.take_length] at hno3;exact Wt.spentF_snoc hno2 hno3),H⟩⟩
     ·omega
     ·with_reducible repeat first|exact .refl|refine .f ?_ ?_ ?_;kernel_rfl;kernel_rfl|refine .u ?_ ?_;kernel_rfl
     ·refine ⟨?_,trivial⟩
      ·exact vi (by omega)
   ·obtain rfl:k=b.txs.length:=by simp at hc33;omega
    refine ke (xQ (xQ ?_))
    refine xH (kn (zE (kI U U U (by omega) U (kn (kY ?_)))))
    refine ⟨_,_,_,?_,U,?_,?_,⟨i+1,U,U,by omega,(by rw [Wt.flat_step hib];rw [List.take_length] at hno2;exact hno2),H⟩⟩
    ·omega
    ·with_reducible repeat first|exact .refl|refine .f ?_ ?_ ?_;kernel_rfl;kernel_rfl|refine .u ?_ ?_;kernel_rfl
    ·refine ⟨?_,trivial⟩
     ·exact vi (by omega)
  ·obtain rfl:i=p.length:=by simp at hc23;omega
   rw [List.take_length] at hno
   have hsp:Wt.spent p pt=none:=by unfold Wt.spent;rw [Wt.spent_flat];exact hno
   unfold SpO.Is at hz
   rw [hsp] at hz
   dsimp only at hz
   obtain ⟨rfl,rfl,rfl⟩:=hz
   refine ke (xQ (xQ ?_))
   refine xH (kR (sMb U (sR (d_not U U) (sBt U (by rw [hsp];rfl) ?_))))
   refine sr (w_g U U U U) U (dF U U tf49_2) (sr (w_g U U U U) U (dX (g:=gs) (off:=4) U H U U U ta3) (sr (w_g U U U U) U (d_eq U U U) (sPT U U (sBt U (by simp) (sr (w_g U U U U) U (dF U U tf49_0) (sr (w_g U U U U) U (dF U U tf47_0) (sr (w_g U U U U) U (dX (g:=gs) (off:=0) U H U U U ta44) (sr (w_g U U U U) U (d_len U U tu44) (sr (w_g U U U U) U (d_eq U U U) (sPT U U (sBt U (by simp [Tx.zero]) ?_)))))))))))
   refine sf (e_call (w_g U U U U) U U Tryz.func6 U U U (works13 _ (H.gat hG) (H.gl hB)) ?_)
   rintro _ W ⟨rfl,hb⟩
   replace H:=H.below hb
   clear hb
   refine sPT U U (sAb U (ln (kx ?_)))
   exact qr (v:=.bool _) U U ⟨_,U,vb (U),H.under⟩
end Go.Proofs.YtjjodibkmeefpaaGreatDoor
