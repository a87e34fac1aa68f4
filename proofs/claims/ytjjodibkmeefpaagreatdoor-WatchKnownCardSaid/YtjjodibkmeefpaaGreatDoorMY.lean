import Derived.Test.YtjjodibkmeefpaaGreatDoorMX
import Derived.Test.YtjjodibkmeefpaaGreatDoorMB
import Derived.Test.YtjjodibkmeefpaaGreatDoorML
set_option linter.unusedVariables false
set_option linter.unusedSimpArgs false
set_option maxHeartbeats 4000000

namespace Go.Proofs.YtjjodibkmeefpaaGreatDoor
open Go Go.RowKit
attribute [local irreducible] wpList

theorem rb_of {W:World} {S:Nat->Prop} {xs:List Value} {b:List UInt8} {i:Nat} (h:RB W S (sub xs (i*1) 1) b):∃A c,sub xs (i*1) 1=[.slice A b.length c]∧Bs W S (.slice A b.length c) b:=by
 obtain ⟨v,h1,hb⟩:=h
 have hb0:=hb
 obtain ⟨A,c,rfl,_⟩:=hb.op
 exact ⟨A,c,h1,hb0⟩

theorem allN {S:Nat->Prop} {v:Value} {l:List (List UInt8)} (w:World) (hl:RL 1 RB w S [v] l) (hz:∀b∈l,b.length<=140737488355328):Calls Tryz.prog 65 [v].toArray w (Ret (Is w (.int .i64 ((min (allS l) 1099511627776:Nat):Int)))):=by
 have hll:=rl_len hl
 obtain ⟨A,c,xs,hv_,hcA_,hcmA_,hr,hel⟩:=hl
 obtain rfl:v=.slice A l.length c:=by cases hv_;rfl
 refine kE (l:=[_]) Tryz.func65 U U ?_
 have H:=St.start nT w
 refine kR (sAi U (lkR (sAi U (ln (kQ (kR (sAi U (ln (kb (kL 3 [] (fun mm sl W=>∃i:Nat,l.length - i=mm∧sl=[(4,.int .i64 (i:Int)),(3,.int .i64 ((min (allS (l.take i)) 1099511627776:Nat):Int))]∧(i<=l.length)∧St nT w W []) _ _ ⟨0,U,U,Nat.zero_le _,H⟩ ⟨U,vi (by simp [allS]),trivial⟩ (fun mm sl ρv W hJ=>?_)))))))))))
 clear H;obtain ⟨i,rfl,rfl,hi,H⟩:=hJ
 refine ko (kQ (kR (sMi U (sMs U (sLn U tu66 (sLt U U (ln (kC U (fun hc8=>?_) (fun hc8=>?_)))))))))
 ·replace hc8:=of_decide_eq_true hc8
  have hlt:i<l.length:=by omega
  obtain ⟨g0,o0,rfl,-⟩:=hr.2 (by omega)
  obtain ⟨b,hx⟩:=get_lt hlt
  obtain ⟨B,d,hL,hB⟩:=rb_of (hel i b hx)
  have hz1:=hz b (List.mem_of_getElem? hx)
  refine kS (kQ (kb (kr (sMi U (sMs U (sMi U (sR (dG U (H.rd hr) U U (q:=i) U hlt tu66 ts23) (sR (dE (off:=0) U (H.rd hr) hlt hL U U U (by omega) ta23) (sLn U tu23 (sAd U U (by omega) (sAd U U (by omega) (sR (d_min U U U) ?_))))))))))))
  refine sAi U (ln (kn (zE (kI U U U (by omega) U (kn (kY ?_))))))
  refine ⟨_,_,_,?_,U,?_,?_,⟨i+1,U,U,by omega,H⟩⟩
  ·omega
  ·with_reducible repeat first|exact .refl|refine .f ?_ ?_ ?_;kernel_rfl;kernel_rfl|refine .u ?_ ?_;kernel_rfl
  ·refine ⟨?_,?_,trivial⟩
   ·exact vi (by omega)
   ·exact vi (by rw [allS_at hx];omega)
 ·replace hc8:=of_decide_eq_false hc8
  refine ke (xQ (xQ ?_))
  refine xH (kQ ?_)
  obtain rfl:i=l.length:=by omega
  rw [List.take_length]
  refine kr (sMi U (sAi U (ln (kx ?_))))
  exact qr (v:=.int _ _) U U ⟨_,U,U,H.under⟩

theorem bigTx {S:Nat->Prop} {cs:List Value} {t:DTx} (w:World) (ht:RTx w S cs t) {rows bytes:Nat} (hz:Tx.Szd t):Calls Tryz.prog 50 [.agg cs.toArray,.int .i64 (rows:Int),.int .i64 (bytes:Int)].toArray w (Ret (Is w (.bool (Tx.big rows bytes t)))):=by
 obtain ⟨A,c,B,d,rfl,hI,hO,hk⟩:=tx_of ht
 have hIl:=rl_len hI
 have hOl:=rl_len hO
 have hI0:=hI
 obtain ⟨A_,c_,xs,hv_,_,_,hr,hel⟩:=hI
 cases hv_
 have hO0:=hO
 obtain ⟨A_,c_,ys,hv_,_,_,hs,hes⟩:=hO
 cases hv_
 refine kE (l:=[_,_,_]) Tryz.func50 U U ?_
 have H:=St.start nT w
 refine kR (sf (ebx (vs:=(txC A t.ins.length c B t.outs.length d t.lock)) U U H ?_))
 clear H;intro gm W H
 refine sAb U (ln (kQ (kQ ?_)))
 rcases Nat.lt_or_ge rows t.ins.length with h1|h1
 ·skip
  refine kr (sFa U tf47_0 (sR (d_ld U H U ta44 U) (sLn U tu44 (sMi U (sR (d_gt U U U) (sBt U (by simp;omega) (sK (wO U U U U U) U (sK (wO U U U U U) U (sK (wO U U U U U) U (sK (wO U U U U U) U (sK (wO U U U U U) U (sPT U U ?_))))))))))))
  refine ln (kT U U (kR (sAb U (ln (kx ?_)))))
  exact qr (v:=.bool _) U U ⟨_,U,vb (by unfold Tx.big;simp;omega),H.under⟩
 ·skip
  refine kr (sFa U tf47_0 (sR (d_ld U H U ta44 U) (sLn U tu44 (sMi U (sR (d_gt U U U) (sBf U (by simp;omega) (sr (w_g U U U U) U (dF U U tf47_1) (sr (w_g U U U U) U (d_ld U H U ta45 U) (sr (w_g U U U U) U (d_len U U tu45) (sr (w_g U U U U) U (mv_i U U) (sr (w_g U U U U) U (d_gt U U U) (sPF U U ?_))))))))))))
  refine ln (kC U (fun hc21=>?_) (fun hc21=>?_))
  ·replace hc21:=of_decide_eq_true hc21
   refine kR (sAb U (ln (kx ?_)))
   exact qr (v:=.bool _) U U ⟨_,U,vb (by unfold Tx.big;simp;omega),H.under⟩
  ·replace hc21:=of_decide_eq_false hc21
   refine kS (kR (sAi U (ln (kQ (kR (sAi U (ln (kb (kL 22 [7,8] (fun mm sl W=>∃i:Nat,t.ins.length - i=mm∧sl=[(8,.int .i64 (i:Int)),(7,.int .i64 ((min (((t.ins.take i).map (fun x=>allS x.wit)).sum) 1099511627776:Nat):Int))]∧(i<=t.ins.length)∧St nT w W [Fact.blk gm (txC A t.ins.length c B t.outs.length d t.lock) 47]) _ _ ⟨0,U,U,Nat.zero_le _,H⟩ ⟨U,vi (by simp),trivial⟩ (fun mm sl ρv W hJ=>?_))))))))))
   clear H;obtain ⟨i,rfl,rfl,hi,H⟩:=hJ
   refine ko (kQ (kR (sMi U (sFa U tf47_0 (sR (d_ld U H U ta44 U) (sLn U tu44 (sLt U U (ln (kC U (fun hc26=>?_) (fun hc26=>?_))))))))))
   ·replace hc26:=of_decide_eq_true hc26
    have hlt:i<t.ins.length:=by omega
    obtain ⟨g0,o0,rfl,-⟩:=hr.2 (by omega)
    obtain ⟨x,hx⟩:=get_lt hlt
    obtain ⟨B2,d2,hL,hW,hp,hn⟩:=in_of (hel i x hx)
    have hz1:=hz.1 x (List.mem_of_getElem? hx)
    refine kS (kQ (kb (kr (sMi U (sFa U tf47_0 (sR (d_ld U H U ta44 U) (sMi U (sR (dG (q:=i) U (H.rd hr) U U U hlt tu44 ts71) (sFa U tf71_1 (sR (dE (off:=33) U (H.rd hr) hlt hL (sub_in_w hp) U U (by omega) ta66) (sf (eI Tryz.func65 U U (allN _ (keeps_L keeps_B _ _ _ _ _ hW (fun g hg _=>H.fr.block g hg (fun h=>h))) hz1) H ?_))))))))))))
    clear H;intro W H
    refine sAd U U (by omega) (sR (d_min U U U) (sAi U (ln (kn (zE (kI U U U (by omega) U (kn (kY ?_))))))))
    refine ⟨_,_,_,?_,U,?_,?_,⟨i+1,U,U,by omega,H⟩⟩
    ·omega
    ·with_reducible repeat first|exact .refl|refine .f ?_ ?_ ?_;kernel_rfl;kernel_rfl|refine .u ?_ ?_;kernel_rfl
    ·refine ⟨?_,?_,trivial⟩
     ·exact vi (by omega)
     ·exact vi (by rw [sum_at hx];omega)
   ·replace hc26:=of_decide_eq_false hc26
    obtain rfl:i=t.ins.length:=by omega
    rw [List.take_length]
    refine ke (xQ (xQ ?_))
    refine xH (kQ (kR (sAi U (ln (kb (kL 39 [7,9] (fun mm sl W=>∃i:Nat,t.outs.length - i=mm∧sl=[(9,.int .i64 (i:Int)),(7,.int .i64 ((min ((t.ins.map (fun x=>allS x.wit)).sum+((t.outs.take i).map (fun o=>o.script.length)).sum) 1099511627776:Nat):Int))]∧(i<=t.outs.length)∧St nT w W [Fact.blk gm (txC A t.ins.length c B t.outs.length d t.lock) 47]) _ _ ⟨0,U,U,Nat.zero_le _,H⟩ ⟨U,vi (by simp),trivial⟩ (fun mm sl ρv W hJ=>?_)))))))
    clear H;obtain ⟨i,rfl,rfl,hi,H⟩:=hJ
    refine ko (kQ (kR (sMi U (sFa U tf47_1 (sR (d_ld U H U ta45 U) (sLn U tu45 (sLt U U (ln (kC U (fun hc43=>?_) (fun hc43=>?_))))))))))
    ·replace hc43:=of_decide_eq_true hc43
     have hlt:i<t.outs.length:=by omega
     obtain ⟨g0,o0,rfl,-⟩:=hs.2 (by omega)
     obtain ⟨x,hx⟩:=get_lt hlt
     obtain ⟨B2,d2,hL,hB,hn⟩:=out_of (hes i x hx)
     have hz1:=hz.2 x (List.mem_of_getElem? hx)
     refine kS (kQ (kb (kr (sMi U (sFa U tf47_1 (sR (d_ld U H U ta45 U) (sMi U (sR (dG (q:=i) U (H.rd hs) U U U hlt tu45 ts41) (sFa U tf41_1 (sR (dE (off:=1) U (H.rd hs) hlt hL U U U (by omega) ta23) (sLn U tu23 (sAd U U (by omega) ?_))))))))))))
     refine sR (d_min U U U) (sAi U (ln (kn (zE (kI U U U (by omega) U (kn (kY ?_)))))))
     refine ⟨_,_,_,?_,U,?_,?_,⟨i+1,U,U,by omega,H⟩⟩
     ·omega
     ·with_reducible repeat first|exact .refl|refine .f ?_ ?_ ?_;kernel_rfl;kernel_rfl|refine .u ?_ ?_;kernel_rfl
     ·refine ⟨?_,?_,trivial⟩
      ·exact vi (by omega)
      ·exact vi (by rw [sum_at hx];omega)
    ·replace hc43:=of_decide_eq_false hc43
     obtain rfl:i=t.outs.length:=by omega
     rw [List.take_length]
     refine ke (xQ (xQ ?_))
     refine xH (kR (sMi U (sMi U (sR (d_gt U U U) (sAb U (ln (kx ?_)))))))
     exact qr (v:=.bool _) U U ⟨_,U,vb (by unfold Tx.big Tx.size;rw [decide_eq_false (show ¬rows<t.ins.length by omega),decide_eq_false (show ¬rows<t.outs.length by omega),Bool.false_or,Bool.false_or];exact decide_eq_decide.2 (by omega)),H.under⟩

theorem sameNested {S S1:Nat->Prop} {v u:Value} {l r:List (List UInt8)} (w:World) (hl:RL 1 RB w S [v] l) (hr:RL 1 RB w S1 [u] r):Calls Tryz.prog 56 [v,u].toArray w (Ret (Is w (.bool (decide (l=r))))):=by
 have hll:=rl_len hl
 obtain ⟨A,c,xs,hv_,hcA_,hcmA_,hr1,hel⟩:=hl
 obtain rfl:v=.slice A l.length c:=by cases hv_;rfl
 obtain ⟨B,d,ys,hv_,hcB_,hcmB_,hr,hes⟩:=hr
 obtain rfl:u=.slice B r.length d:=by cases hv_;rfl
 refine kE (l:=[_,_]) Tryz.func56 U U ?_
 have H:=St.start nT w
 refine kR (sAb U (ln (kQ (kR (sMs U (sLn U tu66 (sMs U (sLn U tu66 (sNe U U (ln (kC U (fun hc10=>?_) (fun hc10=>?_))))))))))))
 ·have hc10:¬l.length=r.length:=by simp at hc10;omega
  refine kR (sAb U (ln (kx ?_)))
  exact qr (v:=.bool _) U U ⟨_,U,vb (decide_eq_false (fun e=>by rw [e] at hc10;exact hc10 U)).symm,H.under⟩
 ·have hc10:l.length=r.length:=by simp at hc10;omega
  refine kS (kQ (kR (sAi U (ln (kb (kL 11 [4,5] (fun mm sl W=>∃i:Nat,l.length - i=mm∧sl=[(5,.int .i64 (i:Int))]∧(i<=l.length)∧(l.take i=r.take i)∧St nT w W []) _ _ ⟨0,U,U,Nat.zero_le _,U,H⟩ ⟨U,trivial⟩ (fun mm sl ρv W hJ=>?_)))))))
  clear H;obtain ⟨i,rfl,rfl,hi,ht,H⟩:=hJ
  refine ko (kQ (kR (sMi U (sMs U (sLn U tu66 (sLt U U (ln (kC U (fun hc14=>?_) (fun hc14=>?_)))))))))
  ·replace hc14:=of_decide_eq_true hc14
   have hlt:i<l.length:=by omega
   have hlt2:i<r.length:=by omega
   obtain ⟨g0,o0,rfl,-⟩:=hr1.2 (by omega)
   obtain ⟨x,hx⟩:=get_lt hlt
   obtain ⟨E,e,hL,hB⟩:=rb_of (hel i x hx)
   obtain ⟨g1,o1,rfl,-⟩:=hr.2 (by omega)
   obtain ⟨y,hy⟩:=get_lt hlt2
   obtain ⟨F,f,hL2,hB2⟩:=rb_of (hes i y hy)
   refine kS (kQ (kb (kQ (k_draw [(0,true),(1,true),(2,true),(3,true),(4,true),(5,true),(6,true),(7,true),(8,false),(9,true)] _ (by kernel_rfl) (by kernel_rfl) H (.refl _) ?_))))
   clear H;intro W H
   refine cMs U U (cMi U U (cR U (fun W H=>dG U (H.rd hr1) U U (q:=i) U hlt tu66 ts23) (cR U (fun W H=>dE (off:=0) U (H.rd hr1) hlt hL U U U (by omega) ta23) (cMs U U (cMi U U (cR U (fun W H=>dG U (H.rd hr) U U (q:=i) U hlt2 tu66 ts23) (cR U (fun W H=>dE (off:=0) U (H.rd hr) hlt2 hL2 U U U (by omega) ta23) (cf U (eI Tryz.func35 U U (sameBytes _ _ x y _ (H.bs hB) (H.bs hB2)) H ?_)))))))))
   clear H;intro W H
   refine ⟨H.sb,?_⟩
   refine cR U (fun W H=>d_not U U) (c_nil (kC U (fun hc26=>?_) (fun hc26=>?_)))
   ·replace hc26:¬x=y:=by simpa using hc26
    refine kR (sAb U (ln (kx ?_)))
    exact qr (v:=.bool _) U U ⟨_,U,vb (decide_eq_false (ne_at hx hy hc26)).symm,H.under⟩
   ·replace hc26:x=y:=by simpa using hc26
    refine kS (kn (zE (kI U U U (by omega) U (kn (kY ?_)))))
    refine ⟨_,_,_,?_,U,?_,?_,⟨i+1,U,U,by omega,take_eq_step ht hx (hc26 ▸ hy),H⟩⟩
    ·omega
    ·with_reducible repeat first|exact .refl|refine .f ?_ ?_ ?_;kernel_rfl;kernel_rfl|refine .u ?_ ?_;kernel_rfl
    ·refine ⟨?_,trivial⟩
     ·exact vi (by omega)
  ·replace hc14:=of_decide_eq_false hc14
   refine ke (xQ (xQ ?_))
   refine xH (kR (sAb U (ln (kx ?_))))
   obtain rfl:i=l.length:=by omega
   exact qr (v:=.bool _) U U ⟨_,U,vb (decide_eq_true (all_take (by omega) ht)).symm,H.under⟩

theorem sameIns {S S1:Nat->Prop} {v u:Value} {l r:List DIn} (w:World) (hl:RL 34 RIn w S [v] l) (hr:RL 34 RIn w S1 [u] r):Calls Tryz.prog 41 [v,u].toArray w (Ret (Is w (.bool (decide (l=r))))):=by
 have hll:=rl_len hl
 obtain ⟨A,c,xs,hv_,hcA_,hcmA_,hr1,hel⟩:=hl
 obtain rfl:v=.slice A l.length c:=by cases hv_;rfl
 obtain ⟨B,d,ys,hv_,hcB_,hcmB_,hr,hes⟩:=hr
 obtain rfl:u=.slice B r.length d:=by cases hv_;rfl
 refine kE (l:=[_,_]) Tryz.func41 U U ?_
 have H:=St.start nT w
 refine kR (sAb U (ln (kQ (kR (sMs U (sLn U tu44 (sMs U (sLn U tu44 (sNe U U (ln (kC U (fun hc10=>?_) (fun hc10=>?_))))))))))))
 ·have hc10:¬l.length=r.length:=by simp at hc10;omega
  refine kR (sAb U (ln (kx ?_)))
  exact qr (v:=.bool _) U U ⟨_,U,vb (decide_eq_false (fun e=>by rw [e] at hc10;exact hc10 U)).symm,H.under⟩
 ·have hc10:l.length=r.length:=by simp at hc10;omega
  refine kS (kQ (kR (sAi U (ln (kb (kL 11 [4,5] (fun mm sl W=>∃i:Nat,l.length - i=mm∧sl=[(5,.int .i64 (i:Int))]∧(i<=l.length)∧(l.take i=r.take i)∧St nT w W []) _ _ ⟨0,U,U,Nat.zero_le _,U,H⟩ ⟨U,trivial⟩ (fun mm sl ρv W hJ=>?_)))))))
  clear H;obtain ⟨i,rfl,rfl,hi,ht,H⟩:=hJ
  refine ko (kQ (kR (sMi U (sMs U (sLn U tu44 (sLt U U (ln (kC U (fun hc14=>?_) (fun hc14=>?_)))))))))
  ·replace hc14:=of_decide_eq_true hc14
   have hlt:i<l.length:=by omega
   have hlt2:i<r.length:=by omega
   obtain ⟨g0,o0,rfl,-⟩:=hr1.2 (by omega)
   obtain ⟨x,hx⟩:=get_lt hlt
   obtain ⟨E,e,hL,hW,hp,hn⟩:=in_of (hel i x hx)
   obtain ⟨g1,o1,rfl,-⟩:=hr.2 (by omega)
   obtain ⟨y,hy⟩:=get_lt hlt2
   obtain ⟨F,f,hL2,hW2,hp2,hn2⟩:=in_of (hes i y hy)
   refine kS (kQ (kb (kQ ?_)))
   rcases hb1:beqPoint x.point y.point with _|_
   ·skip
    refine k_draw [(0,true),(1,true),(2,true),(3,true),(4,true),(5,true),(6,true),(7,true),(8,true),(9,true),(10,true),(11,true),(12,true),(13,true),(14,true),(15,true),(16,true),(17,true),(18,true),(19,true),(20,true),(21,true),(22,true),(23,true),(24,true)] [] (by kernel_rfl) (by kernel_rfl) H (.refl _) ?_
    clear H;intro W H
    refine cMs U U (cMi U U (cR U (fun W H=>dG U (H.rd hr1) U U (q:=i) U hlt tu44 ts71) (cFa U U tf71_0 (cR U (fun W H=>dN (off:=0) U (H.rd hr1) hlt hL (sub_in_p hp) U U (by omega) ta27 ts27) (cMs U U (cMi U U (cR U (fun W H=>dG U (H.rd hr) U U (q:=i) U hlt2 tu44 ts71) (cFa U U tf71_0 (cR U (fun W H=>dN (off:=0) U (H.rd hr) hlt2 hL2 (sub_in_p hp2) U U (by omega) ta27 ts27) (cR U (fun W H=>d_eqst (r:=beqPoint x.point y.point) U U U (eq_Point (d:=9997) (point_rep (W:=w) (S:=nT) hp hn) (point_rep (W:=w) (S:=nT) hp2 hn2)) (by kernel_rfl)) ?_))))))))))
    refine cR U (fun W H=>mv_bx (c:=false) U U (by rw [hb1])) ?_
    refine cK U (wO U U U U U) U (cK U (wO U U U U U) U (cK U (wO U U U U U) U (cK U (wO U U U U U) U (cK U (wO U U U U U) U (cK U (wO U U U U U) U (cK U (wO U U U U U) U (cK U (wO U U U U U) U (cK U (wO U U U U U) U (cK U (wO U U U U U) U (cK U (wO U U U U U) U (cR U (fun W H=>d_pickF U U U) (cR U (fun W H=>d_not U U) ?_))))))))))))
    refine c_nil (kT U U (kR (sAb U (ln (kx ?_)))))
    have hxy:¬x=y:=fun e=>by rw [e,beqPoint_iff.2 rfl] at hb1;cases hb1
    exact qr (v:=.bool _) U U ⟨_,U,vb (decide_eq_false (ne_at hx hy hxy)).symm,H.under⟩
   ·skip
    refine k_draw [(0,true),(1,true),(2,true),(3,true),(4,true),(5,true),(6,true),(7,true),(8,true),(9,true),(10,true),(11,true),(12,true),(13,true),(14,true),(15,true),(16,true),(17,true),(18,true),(19,true),(20,true),(21,true),(22,false),(23,true),(24,true)] [] (by kernel_rfl) (by kernel_rfl) H (.refl _) ?_
    clear H;intro W H
    refine cMs U U (cMi U U (cR U (fun W H=>dG U (H.rd hr1) U U (q:=i) U hlt tu44 ts71) (cFa U U tf71_0 (cR U (fun W H=>dN (off:=0) U (H.rd hr1) hlt hL (sub_in_p hp) U U (by omega) ta27 ts27) (cMs U U (cMi U U (cR U (fun W H=>dG U (H.rd hr) U U (q:=i) U hlt2 tu44 ts71) (cFa U U tf71_0 (cR U (fun W H=>dN (off:=0) U (H.rd hr) hlt2 hL2 (sub_in_p hp2) U U (by omega) ta27 ts27) (cR U (fun W H=>d_eqst (r:=beqPoint x.point y.point) U U U (eq_Point (d:=9997) (point_rep (W:=w) (S:=nT) hp hn) (point_rep (W:=w) (S:=nT) hp2 hn2)) (by kernel_rfl)) ?_))))))))))
    refine cR U (fun W H=>mv_bx (c:=true) U U (by rw [hb1])) ?_
    refine c_run U (w_g U U U U) U (fun W H=>mv_s U U) (c_run U (w_g U U U U) U (fun W H=>mv_i U U) (c_run U (w_g U U U U) U (fun W H=>dG U (H.rd hr1) U U (q:=i) U hlt tu44 ts71) (c_run U (w_g U U U U) U (fun W H=>dF U U tf71_1) (c_run U (w_g U U U U) U (fun W H=>dE (off:=33) U (H.rd hr1) hlt hL (sub_in_w hp) U U (by omega) ta66) (c_run U (w_g U U U U) U (fun W H=>mv_s U U) (c_run U (w_g U U U U) U (fun W H=>mv_i U U) (c_run U (w_g U U U U) U (fun W H=>dG U (H.rd hr) U U (q:=i) U hlt2 tu44 ts71) (c_run U (w_g U U U U) U (fun W H=>dF U U tf71_1) (c_run U (w_g U U U U) U (fun W H=>dE (off:=33) U (H.rd hr) hlt2 hL2 (sub_in_w hp2) U U (by omega) ta66) (cf U (e_call (w_g U U U U) U U Tryz.func56 U U U (sameNested _ (keeps_L keeps_B _ _ _ _ _ hW (fun g hg _=>H.fr.block g hg (fun h=>h))) (keeps_L keeps_B _ _ _ _ _ hW2 (fun g hg _=>H.fr.block g hg (fun h=>h)))) ?_)))))))))))
    rintro _ W ⟨rfl,hb⟩
    replace H:=H.below hb
    clear hb
    refine ⟨H.sb,?_⟩
    refine cR U (fun W H=>d_pickT U U U) (cR U (fun W H=>d_not U U) (c_nil (kC U (fun hc41=>?_) (fun hc41=>?_))))
    ·replace hc41:¬x.wit=y.wit:=by simpa using hc41
     have hxy:¬x=y:=fun e=>hc41 (by rw [e])
     refine kR (sAb U (ln (kx ?_)))
     exact qr (v:=.bool _) U U ⟨_,U,vb (decide_eq_false (ne_at hx hy hxy)).symm,H.under⟩
    ·replace hc41:x.wit=y.wit:=by simpa using hc41
     have hxy:x=y:=by
      have h1:=beqPoint_iff.1 hb1
      cases x;cases y
      simp_all
     refine kS (kn (zE (kI U U U (by omega) U (kn (kY ?_)))))
     refine ⟨_,_,_,?_,U,?_,?_,⟨i+1,U,U,by omega,take_eq_step ht hx (hxy ▸ hy),H⟩⟩
     ·omega
     ·with_reducible repeat first|exact .refl|refine .f ?_ ?_ ?_;kernel_rfl;kernel_rfl|refine .u ?_ ?_;kernel_rfl
     ·refine ⟨?_,trivial⟩
      ·exact vi (by omega)
  ·replace hc14:=of_decide_eq_false hc14
   refine ke (xQ (xQ ?_))
   refine xH (kR (sAb U (ln (kx ?_))))
   obtain rfl:i=l.length:=by omega
   exact qr (v:=.bool _) U U ⟨_,U,vb (decide_eq_true (all_take (by omega) ht)).symm,H.under⟩

theorem sameOuts {S S1:Nat->Prop} {v u:Value} {l r:List DOut} (w:World) (hl:RL 2 ROut w S [v] l) (hr:RL 2 ROut w S1 [u] r):Calls Tryz.prog 42 [v,u].toArray w (Ret (Is w (.bool (decide (l=r))))):=by
 have hll:=rl_len hl
 obtain ⟨A,c,xs,hv_,hcA_,hcmA_,hr1,hel⟩:=hl
 obtain rfl:v=.slice A l.length c:=by cases hv_;rfl
 obtain ⟨B,d,ys,hv_,hcB_,hcmB_,hr,hes⟩:=hr
 obtain rfl:u=.slice B r.length d:=by cases hv_;rfl
 refine kE (l:=[_,_]) Tryz.func42 U U ?_
 have H:=St.start nT w
 refine kR (sAb U (ln (kQ (kR (sMs U (sLn U tu45 (sMs U (sLn U tu45 (sNe U U (ln (kC U (fun hc10=>?_) (fun hc10=>?_))))))))))))
 ·have hc10:¬l.length=r.length:=by simp at hc10;omega
  refine kR (sAb U (ln (kx ?_)))
  exact qr (v:=.bool _) U U ⟨_,U,vb (decide_eq_false (fun e=>by rw [e] at hc10;exact hc10 U)).symm,H.under⟩
 ·have hc10:l.length=r.length:=by simp at hc10;omega
  refine kS (kQ (kR (sAi U (ln (kb (kL 11 [4,5] (fun mm sl W=>∃i:Nat,l.length - i=mm∧sl=[(5,.int .i64 (i:Int))]∧(i<=l.length)∧(l.take i=r.take i)∧St nT w W []) _ _ ⟨0,U,U,Nat.zero_le _,U,H⟩ ⟨U,trivial⟩ (fun mm sl ρv W hJ=>?_)))))))
  clear H;obtain ⟨i,rfl,rfl,hi,ht,H⟩:=hJ
  refine ko (kQ (kR (sMi U (sMs U (sLn U tu45 (sLt U U (ln (kC U (fun hc14=>?_) (fun hc14=>?_)))))))))
  ·replace hc14:=of_decide_eq_true hc14
   have hlt:i<l.length:=by omega
   have hlt2:i<r.length:=by omega
   obtain ⟨g0,o0,rfl,-⟩:=hr1.2 (by omega)
   obtain ⟨x,hx⟩:=get_lt hlt
   obtain ⟨E,e,hL,hB,hn⟩:=out_of (hel i x hx)
   obtain ⟨g1,o1,rfl,-⟩:=hr.2 (by omega)
   obtain ⟨y,hy⟩:=get_lt hlt2
   obtain ⟨F,f,hL2,hB2,hn2⟩:=out_of (hes i y hy)
   refine kS (kQ (kb (kQ ?_)))
   rcases hb1:(x.value == y.value) with _|_
   ·skip
    refine k_draw [(0,true),(1,true),(2,true),(3,true),(4,true),(5,true),(6,true),(7,true),(8,true),(9,true),(10,true),(11,true),(12,true),(13,true),(14,true),(15,true),(16,true),(17,true),(18,true),(19,true),(20,true),(21,true),(22,true),(23,true),(24,true)] [] (by kernel_rfl) (by kernel_rfl) H (.refl _) ?_
    clear H;intro W H
    refine cMs U U (cMi U U (cR U (fun W H=>dG U (H.rd hr1) U U (q:=i) U hlt tu45 ts41) (cFa U U tf41_0 (cR U (fun W H=>dE (off:=0) U (H.rd hr1) hlt hL U U U (by omega) ta3) (cMs U U (cMi U U (cR U (fun W H=>dG U (H.rd hr) U U (q:=i) U hlt2 tu45 ts41) (cFa U U tf41_0 (cR U (fun W H=>dE (off:=0) U (H.rd hr) hlt2 hL2 U U U (by omega) ta3) (cR U (fun W H=>d_eq U U U) (cR U (fun W H=>mv_bx (c:=false) U U (by rw [hb1])) ?_)))))))))))
    refine cK U (wO U U U U U) U (cK U (wO U U U U U) U (cK U (wO U U U U U) U (cK U (wO U U U U U) U (cK U (wO U U U U U) U (cK U (wO U U U U U) U (cK U (wO U U U U U) U (cK U (wO U U U U U) U (cK U (wO U U U U U) U (cK U (wO U U U U U) U (cK U (wO U U U U U) U (cR U (fun W H=>d_pickF U U U) (cR U (fun W H=>d_not U U) ?_))))))))))))
    refine c_nil (kT U U (kR (sAb U (ln (kx ?_)))))
    have hxy:¬x=y:=fun e=>by rw [e] at hb1;simp at hb1
    exact qr (v:=.bool _) U U ⟨_,U,vb (decide_eq_false (ne_at hx hy hxy)).symm,H.under⟩
   ·skip
    refine k_draw [(0,true),(1,true),(2,true),(3,true),(4,true),(5,true),(6,true),(7,true),(8,true),(9,true),(10,true),(11,true),(12,true),(13,true),(14,true),(15,true),(16,true),(17,true),(18,true),(19,true),(20,true),(21,true),(22,false),(23,true),(24,true)] [] (by kernel_rfl) (by kernel_rfl) H (.refl _) ?_
    clear H;intro W H
    refine cMs U U (cMi U U (cR U (fun W H=>dG U (H.rd hr1) U U (q:=i) U hlt tu45 ts41) (cFa U U tf41_0 (cR U (fun W H=>dE (off:=0) U (H.rd hr1) hlt hL U U U (by omega) ta3) (cMs U U (cMi U U (cR U (fun W H=>dG U (H.rd hr) U U (q:=i) U hlt2 tu45 ts41) (cFa U U tf41_0 (cR U (fun W H=>dE (off:=0) U (H.rd hr) hlt2 hL2 U U U (by omega) ta3) (cR U (fun W H=>d_eq U U U) (cR U (fun W H=>mv_bx (c:=true) U U (by rw [hb1])) ?_)))))))))))
    refine c_run U (w_g U U U U) U (fun W H=>mv_s U U) (c_run U (w_g U U U U) U (fun W H=>mv_i U U) (c_run U (w_g U U U U) U (fun W H=>dG U (H.rd hr1) U U (q:=i) U hlt tu45 ts41) (c_run U (w_g U U U U) U (fun W H=>dF U U tf41_1) (c_run U (w_g U U U U) U (fun W H=>dE (off:=1) U (H.rd hr1) hlt hL U U U (by omega) ta23) (c_run U (w_g U U U U) U (fun W H=>mv_s U U) (c_run U (w_g U U U U) U (fun W H=>mv_i U U) (c_run U (w_g U U U U) U (fun W H=>dG U (H.rd hr) U U (q:=i) U hlt2 tu45 ts41) (c_run U (w_g U U U U) U (fun W H=>dF U U tf41_1) (c_run U (w_g U U U U) U (fun W H=>dE (off:=1) U (H.rd hr) hlt2 hL2 U U U (by omega) ta23) (cf U (e_call (w_g U U U U) U U Tryz.func35 U U U (sameBytes _ _ x.script y.script _ (H.bs hB) (H.bs hB2)) ?_)))))))))))
    rintro _ W ⟨rfl,hb⟩
    replace H:=H.below hb
    clear hb
    refine ⟨H.sb,?_⟩
    refine cR U (fun W H=>d_pickT U U U) (cR U (fun W H=>d_not U U) (c_nil (kC U (fun hc41=>?_) (fun hc41=>?_))))
    ·replace hc41:¬x.script=y.script:=by simpa using hc41
     have hxy:¬x=y:=fun e=>hc41 (by rw [e])
     refine kR (sAb U (ln (kx ?_)))
     exact qr (v:=.bool _) U U ⟨_,U,vb (decide_eq_false (ne_at hx hy hxy)).symm,H.under⟩
    ·replace hc41:x.script=y.script:=by simpa using hc41
     have hxy:x=y:=by
      have h1:=eq_of_beq hb1
      cases x;cases y
      simp_all
     refine kS (kn (zE (kI U U U (by omega) U (kn (kY ?_)))))
     refine ⟨_,_,_,?_,U,?_,?_,⟨i+1,U,U,by omega,take_eq_step ht hx (hxy ▸ hy),H⟩⟩
     ·omega
     ·with_reducible repeat first|exact .refl|refine .f ?_ ?_ ?_;kernel_rfl;kernel_rfl|refine .u ?_ ?_;kernel_rfl
     ·refine ⟨?_,trivial⟩
      ·exact vi (by omega)
  ·replace hc14:=of_decide_eq_false hc14
   refine ke (xQ (xQ ?_))
   refine xH (kR (sAb U (ln (kx ?_))))
   obtain rfl:i=l.length:=by omega
   exact qr (v:=.bool _) U U ⟨_,U,vb (decide_eq_true (all_take (by omega) ht)).symm,H.under⟩

theorem sameTx {S S1:Nat->Prop} {cs cu:List Value} {t u:DTx} (w:World) (ht:RTx w S cs t) (hu:RTx w S1 cu u):Calls Tryz.prog 15 [.agg cs.toArray,.agg cu.toArray].toArray w (Ret (Is w (.bool (decide (t=u))))):=by
 obtain ⟨A,c,B,d,rfl,hI,hO,hk⟩:=tx_of ht
 obtain ⟨A1,c1,B1,d1,rfl,hI1,hO1,hk1⟩:=tx_of hu
 refine kE (l:=[_,_]) Tryz.func15 U U ?_
 have H:=St.start nT w
 refine kR (sf (ebx (vs:=(txC A t.ins.length c B t.outs.length d t.lock)) U U H ?_))
 clear H;intro gm W H
 refine sf (ebx (vs:=(txC A1 u.ins.length c1 B1 u.outs.length d1 u.lock)) U U H ?_)
 clear H;intro gu W H
 refine sAb U (ln (kQ ?_))
 rcases (show (t.lock == u.lock)=false∨((t.lock == u.lock)=true∧¬t.ins=u.ins)∨((t.lock == u.lock)=true∧t.ins=u.ins) by cases (t.lock == u.lock) <;> simp;exact Decidable.em _ |>.symm) with hs1|⟨hs1,hs2⟩|⟨hs1,hs2⟩
 ·skip
  refine kr (sFa U tf47_2 (sR (d_ld U H U ta3 U) (sFa U tf47_2 (sR (d_ld U H U ta3 U) (sEq U U (sBf U (by rw [hs1]) ?_))))))
  refine sK (wO U U U U U) U (sK (wO U U U U U) U (sK (wO U U U U U) U (sK (wO U U U U U) U (sK (wO U U U U U) U (sPF U U (sBf U (by first|rfl|exact decide_eq_true hs2|exact decide_eq_false hs2) ?_))))))
  refine sK (wO U U U U U) U (sK (wO U U U U U) U (sK (wO U U U U U) U (sK (wO U U U U U) U (sK (wO U U U U U) U (sPF U U (sAb U (ln (kx ?_))))))))
  exact qr (v:=.bool _) U U ⟨_,U,vb (decide_eq_false (fun e=>by rw [e] at hs1;simp at hs1)).symm,H.under⟩
 ·skip
  refine kr (sFa U tf47_2 (sR (d_ld U H U ta3 U) (sFa U tf47_2 (sR (d_ld U H U ta3 U) (sEq U U (sBt U (by rw [hs1]) ?_))))))
  refine sr (w_g U U U U) U (dF U U tf47_0) (sr (w_g U U U U) U (d_ld U H U ta44 U) (sr (w_g U U U U) U (dF U U tf47_0) (sr (w_g U U U U) U (d_ld U H U ta44 U) (sf (e_call (w_g U U U U) U U Tryz.func41 U U U (sameIns _ (keeps_L keeps_In _ _ _ _ _ hI (fun g hg _=>H.fr.block g hg (fun h=>h))) (keeps_L keeps_In _ _ _ _ _ hI1 (fun g hg _=>H.fr.block g hg (fun h=>h)))) ?_)))))
  rintro _ W ⟨rfl,hb⟩
  replace H:=H.below hb
  clear hb
  refine sPT U U (sBf U (by first|rfl|exact decide_eq_true hs2|exact decide_eq_false hs2) ?_)
  refine sK (wO U U U U U) U (sK (wO U U U U U) U (sK (wO U U U U U) U (sK (wO U U U U U) U (sK (wO U U U U U) U (sPF U U (sAb U (ln (kx ?_))))))))
  exact qr (v:=.bool _) U U ⟨_,U,vb (decide_eq_false (fun e=>hs2 (by rw [e]))).symm,H.under⟩
 ·skip
  refine kr (sFa U tf47_2 (sR (d_ld U H U ta3 U) (sFa U tf47_2 (sR (d_ld U H U ta3 U) (sEq U U (sBt U (by rw [hs1]) ?_))))))
  refine sr (w_g U U U U) U (dF U U tf47_0) (sr (w_g U U U U) U (d_ld U H U ta44 U) (sr (w_g U U U U) U (dF U U tf47_0) (sr (w_g U U U U) U (d_ld U H U ta44 U) (sf (e_call (w_g U U U U) U U Tryz.func41 U U U (sameIns _ (keeps_L keeps_In _ _ _ _ _ hI (fun g hg _=>H.fr.block g hg (fun h=>h))) (keeps_L keeps_In _ _ _ _ _ hI1 (fun g hg _=>H.fr.block g hg (fun h=>h)))) ?_)))))
  rintro _ W ⟨rfl,hb⟩
  replace H:=H.below hb
  clear hb
  refine sPT U U (sBt U (by first|rfl|exact decide_eq_true hs2|exact decide_eq_false hs2) ?_)
  refine sr (w_g U U U U) U (dF U U tf47_1) (sr (w_g U U U U) U (d_ld U H U ta45 U) (sr (w_g U U U U) U (dF U U tf47_1) (sr (w_g U U U U) U (d_ld U H U ta45 U) (sf (e_call (w_g U U U U) U U Tryz.func42 U U U (sameOuts _ (keeps_L keeps_Out _ _ _ _ _ hO (fun g hg _=>H.fr.block g hg (fun h=>h))) (keeps_L keeps_Out _ _ _ _ _ hO1 (fun g hg _=>H.fr.block g hg (fun h=>h)))) ?_)))))
  rintro _ W ⟨rfl,hb⟩
  replace H:=H.below hb
  clear hb
  refine sPT U U (sAb U (ln (kx ?_)))
  exact qr (v:=.bool _) U U ⟨_,U,vb (by have h1:=eq_of_beq hs1;cases t;cases u;simp_all),H.under⟩

theorem in_one {p:DPoint} {A:Option Addr} {m c:Nat}:(inC p A m c).all (·.oneCell')=true:=by
 unfold inC pointC
 rw [List.all_append,List.all_append,all_u8L]
 rfl

theorem copyNested {S:Nat->Prop} {v:Value} {l:List (List UInt8)} (w:World) (hl:RL 1 RB w S [v] l) (hm:l.length<=1000000000) (hz:∀b∈l,b.length<=1000000000000):Calls Tryz.prog 68 [v].toArray w (Ret (fun v w'=>∃A c xs S2,v=.slice A l.length c∧l.length<=c∧c<=9223372036854775807∧St nT w w' [Fact.row 23 1 (.slice A l.length c) l.length xs,Fact.els RB 1 S2 xs l])):=by
 have hll:=rl_len hl
 obtain ⟨A,c,xs,hv_,hcA_,hcmA_,hr,hel⟩:=hl
 obtain rfl:v=.slice A l.length c:=by cases hv_;rfl
 refine kE (l:=[_]) Tryz.func68 U U ?_
 have H:=St.start nT w
 refine kR (sAs U (lkR (sAs U (ln (kQ (kR (sAi U (ln (kb (kL 3 [] (fun mm sl W=>∃i:Nat,∃A2:Option Addr,∃c2:Nat,∃ys:List Value,∃S2:Nat->Prop,l.length - i=mm∧sl=[(4,.int .i64 (i:Int)),(3,.slice A2 i c2)]∧(i<=l.length)∧(i<=c2∧c2<=9223372036854775807)∧St nT w W [Fact.row 23 1 (.slice A2 i c2) i (ys),Fact.els RB 1 S2 ys (l.take i)]) _ _ ⟨0,none,0,[],(fun _=>False),U,U,Nat.zero_le _,⟨Nat.le_refl _,by omega⟩,((H.els0 RB 1).nilrow 23 1)⟩ ⟨U,U,trivial⟩ (fun mm sl ρv W hJ=>?_)))))))))))
 clear H;obtain ⟨i,A2,c2,ys,S2,rfl,rfl,hi,hd,H⟩:=hJ
 refine ko (kQ (kR (sMi U (sMs U (sLn U tu66 (sLt U U (ln (kC U (fun hc8=>?_) (fun hc8=>?_)))))))))
 ·replace hc8:=of_decide_eq_true hc8
  have hlt:i<l.length:=by omega
  obtain ⟨g0,o0,rfl,-⟩:=hr.2 (by omega)
  obtain ⟨b,hx⟩:=get_lt hlt
  obtain ⟨B,d,hL,hB⟩:=rb_of (hel i b hx)
  have hz1:=hz b (List.mem_of_getElem? hx)
  refine kS (kQ (kb (kr (sMs U (sMs U (sMi U (sR (dG U (H.rd hr) U U (q:=i) U hlt tu66 ts23) (sR (dE (off:=0) U (H.rd hr) hlt hL U U U (by omega) ta23) (sf (eN Tryz.func28 U U (copyBytes _ b _ (H.bs hB) hz1) H ?_))))))))))
  clear H;intro A9 c9 W hc9 hd9 H
  replace H:=H.torb rfl
  refine sf (ebs (xs:=[.tmp 16]) (vals:=[.slice _ _ _]) (vs:=[.slice _ _ _]) U U U U tu66 ts23 ty23 U U U H ?_)
  clear H;intro g5_6 W H
  refine sf (eap tu66 tx23 U U U H (rd_blk H.blk U) (U) (by omega) U ?_)
  clear H;intro A1 c1 W hc1 hd1 H
  replace H:=H.drop
  refine sAs U (ln ?_)
  replace H:=(St.elsnoc (H.perm (.cons _ (.swap _ _ _))) rfl).perm (.swap _ _ _)
  refine kn (zE (kI U U U (by omega) U (kn (kY ?_))))
  refine ⟨_,_,_,?_,U,?_,?_,⟨i+1,A1,c1,_,_,U,U,by omega,⟨hc1,hd1⟩,by rw [take_get hx];exact H⟩⟩
  ·omega
  ·with_reducible repeat first|exact .refl|refine .f ?_ ?_ ?_;kernel_rfl;kernel_rfl|refine .u ?_ ?_;kernel_rfl
  ·refine ⟨?_,?_,trivial⟩
   ·exact vi (by omega)
   ·exact U
 ·replace hc8:=of_decide_eq_false hc8
  refine ke (xQ (xQ ?_))
  refine xH (kQ ?_)
  obtain rfl:i=l.length:=by omega
  rw [List.take_length] at H
  refine kr (sMs U (sAs U (ln (kx ?_))))
  exact qr (v:=.slice _ _ _) U U ⟨_,U,A2,c2,ys,S2,U,hd.1,hd.2,H⟩

theorem copyIns {S:Nat->Prop} {v:Value} {l:List DIn} (w:World) (hl:RL 34 RIn w S [v] l) (hm:l.length<=1000000000) (h1:∀x∈l,x.wit.length<=1000000000∧∀b∈x.wit,b.length<=1000000000000):Calls Tryz.prog 54 [v].toArray w (Ret (fun v w'=>∃A c xs S2,v=.slice A l.length c∧l.length<=c∧c<=9223372036854775807∧St nT w w' [Fact.row 71 34 (.slice A l.length c) l.length xs,Fact.els RIn 34 S2 xs l])):=by
 have hll:=rl_len hl
 obtain ⟨A,c,xs,hv_,hcA_,hcmA_,hr,hel⟩:=hl
 obtain rfl:v=.slice A l.length c:=by cases hv_;rfl
 refine kE (l:=[_]) Tryz.func54 U U ?_
 have H:=St.start nT w
 refine kR (sAs U (lkR (sAs U (ln (kQ (kR (sAi U (ln (kb (kL 3 [] (fun mm sl W=>∃i:Nat,∃A2:Option Addr,∃c2:Nat,∃ys:List Value,∃S2:Nat->Prop,l.length - i=mm∧sl=[(4,.int .i64 (i:Int)),(3,.slice A2 i c2)]∧(i<=l.length)∧(i<=c2∧c2<=9223372036854775807)∧St nT w W [Fact.row 71 34 (.slice A2 i c2) i (ys),Fact.els RIn 34 S2 ys (l.take i)]) _ _ ⟨0,none,0,[],(fun _=>False),U,U,Nat.zero_le _,⟨Nat.le_refl _,by omega⟩,((H.els0 RIn 34).nilrow 71 34)⟩ ⟨U,U,trivial⟩ (fun mm sl ρv W hJ=>?_)))))))))))
 clear H;obtain ⟨i,A2,c2,ys,S2,rfl,rfl,hi,hd,H⟩:=hJ
 refine ko (kQ (kR (sMi U (sMs U (sLn U tu44 (sLt U U (ln (kC U (fun hc8=>?_) (fun hc8=>?_)))))))))
 ·replace hc8:=of_decide_eq_true hc8
  have hlt:i<l.length:=by omega
  obtain ⟨g0,o0,rfl,-⟩:=hr.2 (by omega)
  obtain ⟨x,hx⟩:=get_lt hlt
  obtain ⟨B2,d2,hL,hW,hp,hn⟩:=in_of (hel i x hx)
  have hz1:=h1 x (List.mem_of_getElem? hx)
  refine kS (kQ (kb (k_draw [(0,true),(1,true),(2,true),(3,true),(4,true),(5,true),(6,true),(7,true),(8,true),(9,true),(10,true),(11,false),(12,true),(13,false),(14,false),(15,true)] [] (by kernel_rfl) (by kernel_rfl) H (List.nil_sublist _) ?_)))
  clear H;intro W H
  refine cMs U U (cMs U U (cMi U U (cR U (fun W H=>dG U (H.rd hr) U U (q:=i) U hlt tu44 ts71) (cFa U U tf71_0 (cR U (fun W H=>dN (off:=0) U (H.rd hr) hlt hL (sub_in_p hp) U U (by omega) ta27 ts27) (cMs U U (cMi U U (cR U (fun W H=>dG U (H.rd hr) U U (q:=i) U hlt tu44 ts71) (cFa U U tf71_1 (cR U (fun W H=>dE (off:=33) U (H.rd hr) hlt hL (sub_in_w hp) U U (by omega) ta66) (cf U (ecl Tryz.func68 U U (copyNested _ (keeps_L keeps_B _ _ _ _ _ hW (fun g hg _=>H.fr.block g hg (fun h=>h))) hz1.1 hz1.2) ?_))))))))))))
  rintro _ W ⟨A9,c9,xs9,S9,rfl,hc9,hd9,hn⟩
  replace H:=H.addlist hn
  clear hn
  refine ⟨H.sb,?_⟩
  refine cR U (fun W H=>dB (vs:=inC x.point A9 x.wit.length c9) U (built_fields (places:=[(0,33),(33,1)]) tz71 (by kernel_rfl) (by kernel_rfl) (fN (vs:=pointC x.point) (.agg (pointC x.point).toArray) U U U (len_point hp) (Nat.le_of_ble_eq_true U) (fN (vs:=[.slice A9 x.wit.length c9]) (.slice A9 x.wit.length c9) U (by first|(simp [(len_point hp)];done)|(simp [(len_point hp)];omega)) U U (Nat.le_of_ble_eq_true U) (fill_end (by simp [inC])))))) ?_
  refine cf U (ebs (xs:=[.tmp 23]) (vals:=[.agg (inC x.point A9 x.wit.length c9).toArray]) (vs:=(inC x.point A9 x.wit.length c9)) U U U U tu44 ts71 ty71 U (by simp [agg_cells,len_in hp]) (by simp [agg_cells]) H ?_)
  clear H;intro g5_13 W H
  refine ⟨H.sb,?_⟩
  refine cf U (eap tu44 tx71 U U U H (rd_blk (m:=1) H.blk (len_in hp)) (in_one) (by omega) U ?_)
  clear H;intro A1 c1 W hc1 hd1 H
  replace H:=H.drop
  refine ⟨H.sb,?_⟩
  refine cAs U U (c_nil ?_)
  replace H:=H.rerep (R':=RIn) (cs':=inC x.point A9 x.wit.length c9) (b:=x) (fun h=>in_rep hp hn h)
  replace H:=(St.elsnoc (H.perm (.cons _ (.swap _ _ _))) (len_in hp)).perm (.swap _ _ _)
  refine kn (zE (kI U U U (by omega) U (kn (kY ?_))))
  refine ⟨_,_,_,?_,U,?_,?_,⟨i+1,A1,c1,_,_,U,U,by omega,⟨hc1,hd1⟩,by rw [take_get hx];exact H⟩⟩
  ·omega
  ·with_reducible repeat first|exact .refl|refine .f ?_ ?_ ?_;kernel_rfl;kernel_rfl|refine .u ?_ ?_;kernel_rfl
  ·refine ⟨?_,?_,trivial⟩
   ·exact vi (by omega)
   ·exact U
 ·replace hc8:=of_decide_eq_false hc8
  refine ke (xQ (xQ ?_))
  refine xH (kQ ?_)
  obtain rfl:i=l.length:=by omega
  rw [List.take_length] at H
  refine kr (sMs U (sAs U (ln (kx ?_))))
  exact qr (v:=.slice _ _ _) U U ⟨_,U,A2,c2,ys,S2,U,hd.1,hd.2,H⟩

theorem copyOuts {S:Nat->Prop} {v:Value} {l:List DOut} (w:World) (hl:RL 2 ROut w S [v] l) (hm:l.length<=1000000000) (h1:∀x∈l,x.script.length<=1000000000000):Calls Tryz.prog 55 [v].toArray w (Ret (fun v w'=>∃A c xs S2,v=.slice A l.length c∧l.length<=c∧c<=9223372036854775807∧St nT w w' [Fact.row 41 2 (.slice A l.length c) l.length xs,Fact.els ROut 2 S2 xs l])):=by
 have hll:=rl_len hl
 obtain ⟨A,c,xs,hv_,hcA_,hcmA_,hr,hel⟩:=hl
 obtain rfl:v=.slice A l.length c:=by cases hv_;rfl
 refine kE (l:=[_]) Tryz.func55 U U ?_
 have H:=St.start nT w
 refine kR (sAs U (lkR (sAs U (ln (kQ (kR (sAi U (ln (kb (kL 3 [] (fun mm sl W=>∃i:Nat,∃A2:Option Addr,∃c2:Nat,∃ys:List Value,∃S2:Nat->Prop,l.length - i=mm∧sl=[(4,.int .i64 (i:Int)),(3,.slice A2 i c2)]∧(i<=l.length)∧(i<=c2∧c2<=9223372036854775807)∧St nT w W [Fact.row 41 2 (.slice A2 i c2) i (ys),Fact.els ROut 2 S2 ys (l.take i)]) _ _ ⟨0,none,0,[],(fun _=>False),U,U,Nat.zero_le _,⟨Nat.le_refl _,by omega⟩,((H.els0 ROut 2).nilrow 41 2)⟩ ⟨U,U,trivial⟩ (fun mm sl ρv W hJ=>?_)))))))))))
 clear H;obtain ⟨i,A2,c2,ys,S2,rfl,rfl,hi,hd,H⟩:=hJ
 refine ko (kQ (kR (sMi U (sMs U (sLn U tu45 (sLt U U (ln (kC U (fun hc8=>?_) (fun hc8=>?_)))))))))
 ·replace hc8:=of_decide_eq_true hc8
  have hlt:i<l.length:=by omega
  obtain ⟨g0,o0,rfl,-⟩:=hr.2 (by omega)
  obtain ⟨x,hx⟩:=get_lt hlt
  obtain ⟨B2,d2,hL,hB,hn⟩:=out_of (hel i x hx)
  have hz1:=h1 x (List.mem_of_getElem? hx)
  refine kS (kQ (kb (k_draw [(0,true),(1,true),(2,true),(3,true),(4,true),(5,true),(6,true),(7,true),(8,true),(9,true),(10,true),(11,false),(12,true),(13,false),(14,false),(15,true)] [] (by kernel_rfl) (by kernel_rfl) H (List.nil_sublist _) ?_)))
  clear H;intro W H
  refine cMs U U (cMs U U (cMi U U (cR U (fun W H=>dG U (H.rd hr) U U (q:=i) U hlt tu45 ts41) (cFa U U tf41_0 (cR U (fun W H=>dE (off:=0) U (H.rd hr) hlt hL U U U (by omega) ta3) (cMs U U (cMi U U (cR U (fun W H=>dG U (H.rd hr) U U (q:=i) U hlt tu45 ts41) (cFa U U tf41_1 (cR U (fun W H=>dE (off:=1) U (H.rd hr) hlt hL U U U (by omega) ta23) (cf U (eN Tryz.func28 U U (copyBytes _ x.script _ (H.bs hB) hz1) H ?_))))))))))))
  clear H;intro A9 c9 W hc9 hd9 H
  replace H:=H.torb rfl
  refine ⟨H.sb,?_⟩
  refine cR U (fun W H=>dB (vs:=outC x.value A9 x.script.length c9) U (built_fields (places:=[(0,1),(1,1)]) tz41 (by kernel_rfl) (by kernel_rfl) (fN (vs:=[.int .i64 x.value]) (.int .i64 x.value) U U U U (Nat.le_of_ble_eq_true U) (fN (vs:=[.slice A9 x.script.length c9]) (.slice A9 x.script.length c9) U (by rfl) U U (Nat.le_of_ble_eq_true U) (fill_end (by simp [outC])))))) ?_
  refine cf U (ebs (xs:=[.tmp 23]) (vals:=[.agg (outC x.value A9 x.script.length c9).toArray]) (vs:=(outC x.value A9 x.script.length c9)) U U U U tu45 ts41 ty41 U (by simp [agg_cells,outC]) (by simp [agg_cells]) H ?_)
  clear H;intro g5_13 W H
  refine ⟨H.sb,?_⟩
  refine cf U (eap tu45 tx41 U U U H (rd_blk (m:=1) H.blk U) (U) (by omega) U ?_)
  clear H;intro A1 c1 W hc1 hd1 H
  replace H:=H.drop
  refine ⟨H.sb,?_⟩
  refine cAs U U (c_nil ?_)
  replace H:=H.rerep (R':=ROut) (cs':=outC x.value A9 x.script.length c9) (b:=x) (fun h=>by obtain ⟨v,e,hb⟩:=h;cases e;exact out_rep hn hb)
  replace H:=(St.elsnoc (H.perm (.cons _ (.swap _ _ _))) rfl).perm (.swap _ _ _)
  refine kn (zE (kI U U U (by omega) U (kn (kY ?_))))
  refine ⟨_,_,_,?_,U,?_,?_,⟨i+1,A1,c1,_,_,U,U,by omega,⟨hc1,hd1⟩,by rw [take_get hx];exact H⟩⟩
  ·omega
  ·with_reducible repeat first|exact .refl|refine .f ?_ ?_ ?_;kernel_rfl;kernel_rfl|refine .u ?_ ?_;kernel_rfl
  ·refine ⟨?_,?_,trivial⟩
   ·exact vi (by omega)
   ·exact U
 ·replace hc8:=of_decide_eq_false hc8
  refine ke (xQ (xQ ?_))
  refine xH (kQ ?_)
  obtain rfl:i=l.length:=by omega
  rw [List.take_length] at H
  refine kr (sMs U (sAs U (ln (kx ?_))))
  exact qr (v:=.slice _ _ _) U U ⟨_,U,A2,c2,ys,S2,U,hd.1,hd.2,H⟩

def NewTx (w:World) (t:DTx) (v:Value) (w':World):Prop:=∃A c B d xs ys S0 S1,v=.agg (txC A t.ins.length c B t.outs.length d t.lock).toArray∧(t.ins.length<=c∧c<=9223372036854775807)∧(t.outs.length<=d∧d<=9223372036854775807)∧St nT w w' [Fact.row 71 34 (.slice A t.ins.length c) t.ins.length xs,Fact.els RIn 34 S0 xs t.ins,Fact.row 41 2 (.slice B t.outs.length d) t.outs.length ys,Fact.els ROut 2 S1 ys t.outs]
structure Tx.Fits (t:DTx):Prop where
 ins:t.ins.length<=1000000000
 outs:t.outs.length<=1000000000
 wit:∀x∈t.ins,x.wit.length<=1000000000∧∀b∈x.wit,b.length<=1000000000000
 scr:∀o∈t.outs,o.script.length<=1000000000000
theorem Tx.fits {rows bytes:Nat} {t:DTx} (h:Tx.Small rows bytes t) (h1:rows<=1000000000) (h2:bytes<=1000000000):Tx.Fits t :=
 ⟨by have:=h.ins;omega,by have:=h.outs;omega,fun x hx=>⟨by have:=(h.wit x hx).1;omega,fun b hb=>by have:=(h.wit x hx).2 b hb;omega⟩,fun o ho=>by have:=h.scr o ho;omega⟩
theorem NewTx.rep {w W W':World} {T:Nat->Prop} {L:List Fact} {t:DTx} {v:Value} (h:NewTx W t v W') (H:St T w W L) (hk:I64 t.lock):∃S A c B d,v=.agg (txC A t.ins.length c B t.outs.length d t.lock).toArray∧St T w W' (Fact.rep RTx S (txC A t.ins.length c B t.outs.length d t.lock) t::L):=by
 obtain ⟨A,c,B,d,xs,ys,S0,S1,rfl,_,_,hn⟩:=h
 have H4:=H.add4 hn
 have H3:=(H4.tolist.perm (.trans (.swap _ _ _) (.cons _ (.swap _ _ _)))).tolist.perm (.swap _ _ _)
 exact ⟨_,A,c,B,d,U,St.join H3 (fun S2 h1 h2=>tx_rep h1 h2 hk)⟩

theorem copyTx {S:Nat->Prop} {cs:List Value} {t:DTx} (w:World) (ht:RTx w S cs t) (hf:Tx.Fits t):Calls Tryz.prog 40 [.agg cs.toArray].toArray w (Ret (NewTx w t)):=by
 obtain ⟨A,c,B,d,rfl,hI,hO,hk⟩:=tx_of ht
 refine kE (l:=[_]) Tryz.func40 U U ?_
 have H:=St.start nT w
 refine kR (sf (ebx (vs:=(txC A t.ins.length c B t.outs.length d t.lock)) U U H ?_))
 clear H;intro gm W H
 refine sf (eal [.slice none 0 0,.slice none 0 0,.int .i64 0] tz47 H ?_)
 clear H;intro go W H
 refine ln (kQ (k_draw [(0,true),(1,true),(3,true),(4,true),(6,true),(7,true),(2,false),(5,false),(8,true),(9,false)] [Fact.blk gm (txC A t.ins.length c B t.outs.length d t.lock) 47] (by kernel_rfl) (by kernel_rfl) H (.cons _ (.refl _)) ?_))
 clear H;intro W H
 refine cFa U U tf47_0 (cR U (fun W H=>d_ld U H U ta44 U) (cFa U U tf47_1 (cR U (fun W H=>d_ld U H U ta45 U) (cFa U U tf47_2 (cR U (fun W H=>d_ld U H U ta3 U) (cf U (ecl Tryz.func54 U U (copyIns _ (keeps_L keeps_In _ _ _ _ _ hI (fun g hg _=>H.fr.block g hg (fun h=>h))) hf.ins hf.wit) ?_)))))))
 rintro _ W ⟨A1,c1,xs1,S1,rfl,hc1,hd1,hn⟩
 replace H:=H.add2 hn
 clear hn
 refine ⟨H.sb,?_⟩
 refine cf U (ecl Tryz.func55 U U (copyOuts _ (keeps_L keeps_Out _ _ _ _ _ hO (fun g hg _=>H.fr.block g hg (fun h=>h))) hf.outs hf.scr) ?_)
 rintro _ W ⟨A2,c2,xs2,S2,rfl,hc2,hd2,hn⟩
 replace H:=H.add2 hn
 clear hn
 refine ⟨H.sb,?_⟩
 refine cR U (fun W H=>dB (vs:=txC A1 t.ins.length c1 A2 t.outs.length c2 t.lock) U (built_fields (places:=[(0,1),(1,1),(2,1)]) tz47 (by kernel_rfl) (by kernel_rfl) (fN (vs:=[.slice A1 t.ins.length c1]) (.slice A1 t.ins.length c1) U U U U (Nat.le_of_ble_eq_true U) (fN (vs:=[.slice A2 t.outs.length c2]) (.slice A2 t.outs.length c2) U (by rfl) U U (Nat.le_of_ble_eq_true U) (fN (vs:=[.int .i64 t.lock]) (.int .i64 t.lock) U (by rfl) U U (Nat.le_of_ble_eq_true U) (fill_end (by simp [txC]))))))) ?_
 refine cf U (e_sto (wn U) U U U U U ts47 U H U ?_)
 clear H;intro W H
 refine ⟨H.sb,?_⟩
 refine c_nil (kx ?_)
 refine q_retc U (c:=txC A1 t.ins.length c1 A2 t.outs.length c2 t.lock) (g:=go) H U ta47 ts47 ⟨_,U,A1,c1,A2,c2,xs1,xs2,S1,S2,U,⟨hc1,hd1⟩,⟨hc2,hd2⟩,?_⟩
 exact (H.sub (L':=[_,_,_,_]) (by repeat (first|exact .refl _|exact List.nil_sublist _|refine .cons_cons _ ?_|refine .cons _ ?_))).perm (List.perm_append_comm (l₁:=[_,_]) (l₂:=[_,_]))

def zPt:DPoint:=⟨List.replicate 32 0,0⟩
theorem tzIn:((Tryz.prog.info? 71).bind (·.zero)).map (·.cells)=some (inC zPt none 0 0).toArray:=by kernel_rfl
theorem within {n a b:Int} (w:World):Calls Tryz.prog 90 [.int .i64 n,.int .i64 a,.int .i64 b].toArray w (Ret (Is w (.bool (decide (a<=n∧n<=b))))):=by
 refine kE (l:=[_,_,_]) Tryz.func90 U U ?_
 have H:=St.start nT w
 refine kR (sAb U (ln (kQ ?_)))
 rcases Int.lt_or_le n a with h1|h1
 ·skip
  refine kr (sMi U (sMi U (sR (d_ge U U U) (sBf U (by simp;omega) (sK (wO U U U U U) U (sK (wO U U U U U) U (sK (wO U U U U U) U (sPF U U (sAb U (ln (kx ?_)))))))))))
  exact qr (v:=.bool _) U U ⟨_,U,vb (by simp;omega),H.under⟩
 ·skip
  refine kr (sMi U (sMi U (sR (d_ge U U U) (sBt U (by simp;omega) (sr (w_g U U U U) U (mv_i U U) (sr (w_g U U U U) U (mv_i U U) (sr (w_g U U U U) U (d_le U U U) (sPT U U (sAb U (ln (kx ?_)))))))))))
  exact qr (v:=.bool _) U U ⟨_,U,vb (by simp;omega),H.under⟩

theorem farF {p:DPoint} {A:Option Addr} {m c:Nat} {ws:List (List UInt8)} (w:World) (hp:p.tx.length=32):Calls Tryz.prog 89 [.agg (inC p A m c).toArray].toArray w (Ret (Is w (.bool (Tx.far ⟨p,ws⟩)))):=by
 refine kE (l:=[_]) Tryz.func89 U U ?_
 have H:=St.start nT w
 refine kR (sf (ebx (vs:=(inC p A m c)) U U H ?_))
 clear H;intro gx W H
 refine sAb U (lkR (sFa U tf71_0 (sFa U tf27_1 (sR (dX (g:=gx) (off:=32) U H (sub_in_n hp) U U ta3) (sf (eI Tryz.func90 U U (within _) H ?_))))))
 clear H;intro W H
 refine sR (d_not U U) (sAb U (ln (kx ?_)))
 exact qr (v:=.bool _) U U ⟨_,U,vb (Bool.eq_iff_iff.2 (by unfold Tx.far;simp <;> omega)),H.under⟩

theorem itemF {A:Option Addr} {c:Nat} {b:List UInt8} (w:World):Calls Tryz.prog 91 [.slice A b.length c].toArray w (Ret (Is w (.bool (decide (64<b.length))))):=by
 refine kE (l:=[_]) Tryz.func91 U U ?_
 have H:=St.start nT w
 refine kR (sAb U (lkR (sMs U (sLn U tu23 (sR (d_gt U U U) (sAb U (ln (kx ?_))))))))
 exact qr (v:=.bool _) U U ⟨_,U,vb (by simp;omega),H.under⟩

theorem scriptF {A:Option Addr} {c:Nat} {o:DOut} (w:World):Calls Tryz.prog 94 [.agg (outC o.value A o.script.length c).toArray].toArray w (Ret (Is w (.bool (decide (256<o.script.length))))):=by
 refine kE (l:=[_]) Tryz.func94 U U ?_
 have H:=St.start nT w
 refine kR (sf (ebx (vs:=(outC o.value A o.script.length c)) U U H ?_))
 clear H;intro gx W H
 refine sAb U (lkR (sFa U tf41_1 (sR (d_ld U H U ta23 U) (sLn U tu23 (sR (d_gt U U U) (sAb U (ln (kx ?_))))))))
 exact qr (v:=.bool _) U U ⟨_,U,vb (by simp;omega),H.under⟩

theorem any_no {α:Type} {f:α->Bool} {l:List α} {i:Nat} {x:α} (hx:l[i]?=some x) (h:(l.take i).any f=false) (hb:f x=false):(l.take (i+1)).any f=false:=by
 rw [take_get hx,List.any_append,h];simp [hb]
theorem any_yes {α:Type} {f:α->Bool} {l:List α} {i:Nat} {x:α} (hx:l[i]?=some x) (hb:f x=true):l.any f=true:=List.any_eq_true.2 ⟨x,List.mem_of_getElem? hx,hb⟩

theorem idxItem {S:Nat->Prop} {v:Value} {l:List (List UInt8)} (w:World) (hl:RL 1 RB w S [v] l):Calls Tryz.prog 106 [v,.func (.func 91) #[] #[]].toArray w (Ret (fun v' w'=>∃z:Int,v'=.int .i64 z∧decide (0<=z)=l.any (fun b=>decide (64<b.length))∧Below w.heap.size w w')):=by
 have hll:=rl_len hl
 obtain ⟨A,c,xs,hv_,hcA_,hcmA_,hr,hel⟩:=hl
 obtain rfl:v=.slice A l.length c:=by cases hv_;rfl
 refine kE (l:=[_,_]) Tryz.func106 U U ?_
 have H:=St.start nT w
 refine kR (sAi U (ln (kQ (kR (sMs U (sLn U tu66 (sMi U (ln (kb (kL 8 [4,5] (fun mm sl W=>∃i:Nat,l.length - i=mm∧sl=[(8,.int .i64 (i:Int))]∧(i<=l.length)∧((l.take i).any (fun b=>decide (64<b.length))=false)∧St nT w W []) _ _ ⟨0,U,U,Nat.zero_le _,U,H⟩ ⟨U,trivial⟩ (fun mm sl ρv W hJ=>?_)))))))))))
 clear H;obtain ⟨i,rfl,rfl,hi,hno,H⟩:=hJ
 refine ko (kR (sLt U U (ln (kQ (kC U (fun hc9=>?_) (fun hc9=>?_))))))
 ·replace hc9:=of_decide_eq_true hc9
  have hlt:i<l.length:=by omega
  obtain ⟨g0,o0,rfl,-⟩:=hr.2 (by omega)
  obtain ⟨b,hx⟩:=get_lt hlt
  obtain ⟨B,d,hL,hB⟩:=rb_of (hel i b hx)
  refine kS (kQ (kb (kR (sMi U (sAi U (lkR (sMf U (sMs U (sMi U (sR (dG U (H.rd hr) U U (q:=i) U hlt tu66 ts23) (sR (dE (off:=0) U (H.rd hr) hlt hL U U U (by omega) ta23) (sf (e_callv (wn U) U U U Tryz.func91 U U U (itemF _) ?_)))))))))))))
  rintro _ W ⟨rfl,hb⟩
  replace H:=H.below hb
  clear hb
  refine ln (kC U (fun hc16=>?_) (fun hc16=>?_))
  ·skip
   refine kR (sMi U (sAi U (ln (kx ?_))))
   exact qr (v:=.int _ _) U U ⟨_,U,_,U,by rw [any_yes hx hc16];simp,H.under⟩
  ·skip
   refine kS (kn (zE (kr (sAd U U (by omega) (sMi U (ln (kn (kY ?_))))))))
   refine ⟨_,_,_,?_,U,?_,?_,⟨i+1,U,U,by omega,any_no hx hno hc16,H⟩⟩
   ·omega
   ·with_reducible repeat first|exact .refl|refine .f ?_ ?_ ?_;kernel_rfl;kernel_rfl|refine .u ?_ ?_;kernel_rfl
   ·refine ⟨?_,trivial⟩
    ·exact vi (by omega)
 ·replace hc9:=of_decide_eq_false hc9
  refine ke (xQ (xQ ?_))
  refine xH (kQ ?_)
  obtain rfl:i=l.length:=by omega
  rw [List.take_length] at hno
  refine kr (sAi U (ln (kx ?_)))
  exact qr (v:=.int _ _) U U ⟨_,U,_,U,by rw [hno];rfl,H.under⟩

theorem hasItem {S:Nat->Prop} {v:Value} {l:List (List UInt8)} (w:World) (hl:RL 1 RB w S [v] l):Calls Tryz.prog 93 [v,.func (.func 91) #[] #[]].toArray w (Ret (Is w (.bool (l.any (fun b=>decide (64<b.length)))))):=by
 have hl0:=hl
 obtain ⟨A,c,xs,hv_,hcA_,hcmA_,hr,hel⟩:=hl
 obtain rfl:v=.slice A l.length c:=by cases hv_;rfl
 refine kE (l:=[_,_]) Tryz.func93 U U ?_
 have H:=St.start nT w
 refine kR (sAb U (lkR (sMs U (sMf U (sf (ecl Tryz.func106 U U (idxItem _ (keeps_L keeps_B _ _ _ _ _ hl0 (fun g hg _=>H.fr.block g hg (fun h=>h)))) ?_))))))
 rintro _ W ⟨z,rfl,hz,hb⟩
 replace H:=H.below hb
 clear hb
 refine sR (d_ge U U U) (sAb U (ln (kx ?_)))
 exact qr (v:=.bool _) U U ⟨_,U,vb (hz),H.under⟩

theorem idxFar {S:Nat->Prop} {v:Value} {l:List DIn} (w:World) (hl:RL 34 RIn w S [v] l):Calls Tryz.prog 37 [v,.func (.func 89) #[] #[]].toArray w (Ret (fun v' w'=>∃z:Int,v'=.int .i64 z∧decide (0<=z)=l.any Tx.far∧Below w.heap.size w w')):=by
 have hll:=rl_len hl
 obtain ⟨A,c,xs,hv_,hcA_,hcmA_,hr,hel⟩:=hl
 obtain rfl:v=.slice A l.length c:=by cases hv_;rfl
 refine kE (l:=[_,_]) Tryz.func37 U U ?_
 have H:=St.start nT w
 refine kR (sAi U (ln (kQ (kR (sMs U (sLn U tu44 (sMi U (ln (kb (kL 8 [4,5] (fun mm sl W=>∃i:Nat,l.length - i=mm∧sl=[(8,.int .i64 (i:Int))]∧(i<=l.length)∧((l.take i).any Tx.far=false)∧St nT w W []) _ _ ⟨0,U,U,Nat.zero_le _,U,H⟩ ⟨U,trivial⟩ (fun mm sl ρv W hJ=>?_)))))))))))
 clear H;obtain ⟨i,rfl,rfl,hi,hno,H⟩:=hJ
 refine ko (kR (sLt U U (ln (kQ (kC U (fun hc9=>?_) (fun hc9=>?_))))))
 ·replace hc9:=of_decide_eq_true hc9
  have hlt:i<l.length:=by omega
  obtain ⟨g0,o0,rfl,-⟩:=hr.2 (by omega)
  obtain ⟨x,hx⟩:=get_lt hlt
  obtain ⟨B2,d2,hL,hW,hp,hn⟩:=in_of (hel i x hx)
  refine kS (kQ (kb (kR (sMi U (sAi U (lkR (sMf U (sMs U (sMi U (sR (dG U (H.rd hr) U U (q:=i) U hlt tu44 ts71) (sR (dN (off:=0) U (H.rd hr) hlt hL (sa (len_in hp)) U U (by omega) ta71 ts71) (sf (e_callv (wn U) U U U Tryz.func89 U U U (farF (ws:=x.wit) _ hp) ?_)))))))))))))
  rintro _ W ⟨rfl,hb⟩
  replace H:=H.below hb
  clear hb
  refine ln (kC U (fun hc16=>?_) (fun hc16=>?_))
  ·skip
   refine kR (sMi U (sAi U (ln (kx ?_))))
   exact qr (v:=.int _ _) U U ⟨_,U,_,U,by rw [any_yes hx hc16];simp,H.under⟩
  ·skip
   refine kS (kn (zE (kr (sAd U U (by omega) (sMi U (ln (kn (kY ?_))))))))
   refine ⟨_,_,_,?_,U,?_,?_,⟨i+1,U,U,by omega,any_no hx hno hc16,H⟩⟩
   ·omega
   ·with_reducible repeat first|exact .refl|refine .f ?_ ?_ ?_;kernel_rfl;kernel_rfl|refine .u ?_ ?_;kernel_rfl
   ·refine ⟨?_,trivial⟩
    ·exact vi (by omega)
 ·replace hc9:=of_decide_eq_false hc9
  refine ke (xQ (xQ ?_))
  refine xH (kQ ?_)
  obtain rfl:i=l.length:=by omega
  rw [List.take_length] at hno
  refine kr (sAi U (ln (kx ?_)))
  exact qr (v:=.int _ _) U U ⟨_,U,_,U,by rw [hno];rfl,H.under⟩

theorem hasFar {S:Nat->Prop} {v:Value} {l:List DIn} (w:World) (hl:RL 34 RIn w S [v] l):Calls Tryz.prog 95 [v,.func (.func 89) #[] #[]].toArray w (Ret (Is w (.bool (l.any Tx.far)))):=by
 have hl0:=hl
 obtain ⟨A,c,xs,hv_,hcA_,hcmA_,hr,hel⟩:=hl
 obtain rfl:v=.slice A l.length c:=by cases hv_;rfl
 refine kE (l:=[_,_]) Tryz.func95 U U ?_
 have H:=St.start nT w
 refine kR (sAb U (lkR (sMs U (sMf U (sf (ecl Tryz.func37 U U (idxFar _ (keeps_L keeps_In _ _ _ _ _ hl0 (fun g hg _=>H.fr.block g hg (fun h=>h)))) ?_))))))
 rintro _ W ⟨z,rfl,hz,hb⟩
 replace H:=H.below hb
 clear hb
 refine sR (d_ge U U U) (sAb U (ln (kx ?_)))
 exact qr (v:=.bool _) U U ⟨_,U,vb (hz),H.under⟩

theorem idxScript {S:Nat->Prop} {v:Value} {l:List DOut} (w:World) (hl:RL 2 ROut w S [v] l):Calls Tryz.prog 107 [v,.func (.func 94) #[] #[]].toArray w (Ret (fun v' w'=>∃z:Int,v'=.int .i64 z∧decide (0<=z)=l.any (fun o=>decide (256<o.script.length))∧Below w.heap.size w w')):=by
 have hll:=rl_len hl
 obtain ⟨A,c,xs,hv_,hcA_,hcmA_,hr,hel⟩:=hl
 obtain rfl:v=.slice A l.length c:=by cases hv_;rfl
 refine kE (l:=[_,_]) Tryz.func107 U U ?_
 have H:=St.start nT w
 refine kR (sAi U (ln (kQ (kR (sMs U (sLn U tu45 (sMi U (ln (kb (kL 8 [4,5] (fun mm sl W=>∃i:Nat,l.length - i=mm∧sl=[(8,.int .i64 (i:Int))]∧(i<=l.length)∧((l.take i).any (fun o=>decide (256<o.script.length))=false)∧St nT w W []) _ _ ⟨0,U,U,Nat.zero_le _,U,H⟩ ⟨U,trivial⟩ (fun mm sl ρv W hJ=>?_)))))))))))
 clear H;obtain ⟨i,rfl,rfl,hi,hno,H⟩:=hJ
 refine ko (kR (sLt U U (ln (kQ (kC U (fun hc9=>?_) (fun hc9=>?_))))))
 ·replace hc9:=of_decide_eq_true hc9
  have hlt:i<l.length:=by omega
  obtain ⟨g0,o0,rfl,-⟩:=hr.2 (by omega)
  obtain ⟨x,hx⟩:=get_lt hlt
  obtain ⟨B2,d2,hL,hB,hn⟩:=out_of (hel i x hx)
  refine kS (kQ (kb (kR (sMi U (sAi U (lkR (sMf U (sMs U (sMi U (sR (dG U (H.rd hr) U U (q:=i) U hlt tu45 ts41) (sR (dN (off:=0) U (H.rd hr) hlt hL U U U (by omega) ta41 ts41) (sf (e_callv (wn U) U U U Tryz.func94 U U U (scriptF _) ?_)))))))))))))
  rintro _ W ⟨rfl,hb⟩
  replace H:=H.below hb
  clear hb
  refine ln (kC U (fun hc16=>?_) (fun hc16=>?_))
  ·skip
   refine kR (sMi U (sAi U (ln (kx ?_))))
   exact qr (v:=.int _ _) U U ⟨_,U,_,U,by rw [any_yes hx hc16];simp,H.under⟩
  ·skip
   refine kS (kn (zE (kr (sAd U U (by omega) (sMi U (ln (kn (kY ?_))))))))
   refine ⟨_,_,_,?_,U,?_,?_,⟨i+1,U,U,by omega,any_no hx hno hc16,H⟩⟩
   ·omega
   ·with_reducible repeat first|exact .refl|refine .f ?_ ?_ ?_;kernel_rfl;kernel_rfl|refine .u ?_ ?_;kernel_rfl
   ·refine ⟨?_,trivial⟩
    ·exact vi (by omega)
 ·replace hc9:=of_decide_eq_false hc9
  refine ke (xQ (xQ ?_))
  refine xH (kQ ?_)
  obtain rfl:i=l.length:=by omega
  rw [List.take_length] at hno
  refine kr (sAi U (ln (kx ?_)))
  exact qr (v:=.int _ _) U U ⟨_,U,_,U,by rw [hno];rfl,H.under⟩

theorem hasScript {S:Nat->Prop} {v:Value} {l:List DOut} (w:World) (hl:RL 2 ROut w S [v] l):Calls Tryz.prog 98 [v,.func (.func 94) #[] #[]].toArray w (Ret (Is w (.bool (l.any (fun o=>decide (256<o.script.length)))))):=by
 have hl0:=hl
 obtain ⟨A,c,xs,hv_,hcA_,hcmA_,hr,hel⟩:=hl
 obtain rfl:v=.slice A l.length c:=by cases hv_;rfl
 refine kE (l:=[_,_]) Tryz.func98 U U ?_
 have H:=St.start nT w
 refine kR (sAb U (lkR (sMs U (sMf U (sf (ecl Tryz.func107 U U (idxScript _ (keeps_L keeps_Out _ _ _ _ _ hl0 (fun g hg _=>H.fr.block g hg (fun h=>h)))) ?_))))))
 rintro _ W ⟨z,rfl,hz,hb⟩
 replace H:=H.below hb
 clear hb
 refine sR (d_ge U U U) (sAb U (ln (kx ?_)))
 exact qr (v:=.bool _) U U ⟨_,U,vb (hz),H.under⟩

theorem wideF {S:Nat->Prop} {p:DPoint} {A:Option Addr} {c q:Nat} {ws:List (List UInt8)} (w:World) (hp:p.tx.length=32) (hW:RL 1 RB w S [.slice A ws.length c] ws) (hq:Gat w q [.func (.func 91) #[] #[]]):Calls Tryz.prog 92 [.agg (inC p A ws.length c).toArray,.pointer (some ⟨q,0,none⟩)].toArray w (Ret (Is w (.bool (Tx.longX ⟨p,ws⟩)))):=by
 refine kE (l:=[_,_]) Tryz.func92 U U ?_
 have H:=St.start nT w
 refine kR (sf (ebx (vs:=(inC p A ws.length c)) U U H ?_))
 clear H;intro gx W H
 refine sAb U (ln (kQ ?_))
 rcases Nat.lt_or_ge 16 ws.length with h1|h1
 ·skip
  refine kr (sFa U tf71_1 (sR (dX (g:=gx) (off:=33) U H (sub_in_w hp) U U ta66) (sLn U tu66 (sR (d_gt U U U) (sBt U (by simp;omega) (sK (wO U U U U U) U (sK (wO U U U U U) U (sK (wO U U U U U) U (sK (wO U U U U U) U (sPT U U (sAb U (ln ?_))))))))))))
  refine kx ?_
  exact qr (v:=.bool _) U U ⟨_,U,vb (by unfold Tx.longX;simp;omega),H.under⟩
 ·skip
  refine kr (sFa U tf71_1 (sR (dX (g:=gx) (off:=33) U H (sub_in_w hp) U U ta66) (sLn U tu66 (sR (d_gt U U U) (sBf U (by simp;omega) (sr (w_g U U U U) U (dF U U tf71_1) (sr (w_g U U U U) U (dX (g:=gx) (off:=33) U H (sub_in_w hp) U U ta66) (sr (w_g U U U U) U (d_ldG U ((H.gat hq)) U ta144 U) (sf (e_call (w_g U U U U) U U Tryz.func93 U U U (hasItem _ (keeps_L keeps_B _ _ _ _ _ hW (fun g hg _=>H.fr.block g hg (fun h=>h)))) ?_))))))))))
  rintro _ W ⟨rfl,hb⟩
  replace H:=H.below hb
  clear hb
  refine sPF U U (sAb U (ln (kx ?_)))
  exact qr (v:=.bool _) U U ⟨_,U,vb (by unfold Tx.longX;rw [decide_eq_false (show ¬16<(DIn.mk p ws).wit.length from by simpa using h1)];rfl),H.under⟩

theorem idxWide {S:Nat->Prop} {v:Value} {l:List DIn} (w:World) (hl:RL 34 RIn w S [v] l) {q:Nat} (hq:Gat w q [.func (.func 91) #[] #[]]):Calls Tryz.prog 37 [v,.func (.func 92) #[] [.pointer (some ⟨q,0,none⟩)].toArray].toArray w (Ret (fun v' w'=>∃z:Int,v'=.int .i64 z∧decide (0<=z)=l.any Tx.longX∧Below w.heap.size w w')):=by
 have hll:=rl_len hl
 obtain ⟨A,c,xs,hv_,hcA_,hcmA_,hr,hel⟩:=hl
 obtain rfl:v=.slice A l.length c:=by cases hv_;rfl
 refine kE (l:=[_,_]) Tryz.func37 U U ?_
 have H:=St.start nT w
 refine kR (sAi U (ln (kQ (kR (sMs U (sLn U tu44 (sMi U (ln (kb (kL 8 [4,5] (fun mm sl W=>∃i:Nat,l.length - i=mm∧sl=[(8,.int .i64 (i:Int))]∧(i<=l.length)∧((l.take i).any Tx.longX=false)∧St nT w W []) _ _ ⟨0,U,U,Nat.zero_le _,U,H⟩ ⟨U,trivial⟩ (fun mm sl ρv W hJ=>?_)))))))))))
 clear H;obtain ⟨i,rfl,rfl,hi,hno,H⟩:=hJ
 refine ko (kR (sLt U U (ln (kQ (kC U (fun hc9=>?_) (fun hc9=>?_))))))
 ·replace hc9:=of_decide_eq_true hc9
  have hlt:i<l.length:=by omega
  obtain ⟨g0,o0,rfl,-⟩:=hr.2 (by omega)
  obtain ⟨x,hx⟩:=get_lt hlt
  obtain ⟨B2,d2,hL,hW,hp,hn⟩:=in_of (hel i x hx)
  refine kS (kQ (kb (kR (sMi U (sAi U (lkR (sMf U (sMs U (sMi U (sR (dG U (H.rd hr) U U (q:=i) U hlt tu44 ts71) (sR (dN (off:=0) U (H.rd hr) hlt hL (sa (len_in hp)) U U (by omega) ta71 ts71) (sf (e_callv (wn U) U U U Tryz.func92 U U U (wideF (ws:=x.wit) _ hp (keeps_L keeps_B _ _ _ _ _ hW (fun g hg _=>H.fr.block g hg (fun h=>h))) (H.gat hq)) ?_)))))))))))))
  rintro _ W ⟨rfl,hb⟩
  replace H:=H.below hb
  clear hb
  refine ln (kC U (fun hc16=>?_) (fun hc16=>?_))
  ·skip
   refine kR (sMi U (sAi U (ln (kx ?_))))
   exact qr (v:=.int _ _) U U ⟨_,U,_,U,by rw [any_yes hx hc16];simp,H.under⟩
  ·skip
   refine kS (kn (zE (kr (sAd U U (by omega) (sMi U (ln (kn (kY ?_))))))))
   refine ⟨_,_,_,?_,U,?_,?_,⟨i+1,U,U,by omega,any_no hx hno hc16,H⟩⟩
   ·omega
   ·with_reducible repeat first|exact .refl|refine .f ?_ ?_ ?_;kernel_rfl;kernel_rfl|refine .u ?_ ?_;kernel_rfl
   ·refine ⟨?_,trivial⟩
    ·exact vi (by omega)
 ·replace hc9:=of_decide_eq_false hc9
  refine ke (xQ (xQ ?_))
  refine xH (kQ ?_)
  obtain rfl:i=l.length:=by omega
  rw [List.take_length] at hno
  refine kr (sAi U (ln (kx ?_)))
  exact qr (v:=.int _ _) U U ⟨_,U,_,U,by rw [hno];rfl,H.under⟩

theorem hasWide {S:Nat->Prop} {v:Value} {l:List DIn} (w:World) (hl:RL 34 RIn w S [v] l) {q:Nat} (hq:Gat w q [.func (.func 91) #[] #[]]):Calls Tryz.prog 95 [v,.func (.func 92) #[] [.pointer (some ⟨q,0,none⟩)].toArray].toArray w (Ret (Is w (.bool (l.any Tx.longX)))):=by
 have hl0:=hl
 obtain ⟨A,c,xs,hv_,hcA_,hcmA_,hr,hel⟩:=hl
 obtain rfl:v=.slice A l.length c:=by cases hv_;rfl
 refine kE (l:=[_,_]) Tryz.func95 U U ?_
 have H:=St.start nT w
 refine kR (sAb U (lkR (sMs U (sMf U (sf (ecl Tryz.func37 U U (idxWide _ (keeps_L keeps_In _ _ _ _ _ hl0 (fun g hg _=>H.fr.block g hg (fun h=>h))) (H.gat hq)) ?_))))))
 rintro _ W ⟨z,rfl,hz,hb⟩
 replace H:=H.below hb
 clear hb
 refine sR (d_ge U U U) (sAb U (ln (kx ?_)))
 exact qr (v:=.bool _) U U ⟨_,U,vb (hz),H.under⟩

theorem key_point {p:DPoint} (h:p.tx.length=32) (hn:I64 p.n):∃l,keyOf Tryz.prog 27 (.agg (pointC p).toArray)=some l:=by
 have hf:(Value.agg (pointC p).toArray).formed Tryz.prog 27=true:=by
  unfold Value.formed
  rw [Tryz.underlying27]
  show ((pointC p).toArray.size == Tryz.prog.cellsOf 27)=true
  rw [ce27,List.size_toArray,len_point h];rfl
 have hk:Tryz.prog.keyType 27=true:=by kernel_rfl
 obtain ⟨d,hd⟩:∃d,Tryz.prog.types.size=d+2:=⟨Tryz.prog.types.size - 2,by have:2<=Tryz.prog.types.size:=Nat.le_of_ble_eq_true (by kernel_rfl);omega⟩
 obtain ⟨ls,hl⟩:=key_st (P:=Tryz.prog) (d:=d+2) (cs:=pointC p) Tryz.underlying27 (by kernel_rfl) (by rw [ce27,len_point h]) (fun f hf=>by
  simp at hf
  rcases hf with rfl|rfl
  ·show ∃ls,Tryz.prog.keyLits (d+2) 25 (sub (pointC p) 0 (Tryz.prog.cellsOf 25))=some ls
   rw [ce25,sub_pt_tx h]
   exact key_a tu25 tu5 ce5 ce25 h
  ·show ∃ls,Tryz.prog.keyLits (d+2) 3 (sub (pointC p) 32 (Tryz.prog.cellsOf 3))=some ls
   rw [ce3,sub_pt_n h]
   exact key_i tu3 hn)
 refine ⟨.string (keyBytes ls),?_⟩
 unfold keyOf
 rw [Tryz.underlying27]
 simp only [hk,hf,Bool.and_self,if_true,hd]
 have e:(Value.agg (pointC p).toArray).cells.toList=pointC p:=rfl
 rw [e,hl];rfl
theorem klaw:Go.WideMaps.KeyLaw Tryz.prog 27:=deep_law (m:=4) (by decide) (by kernel_rfl) (by kernel_rfl) (by rw [Tryz.underlying27])
theorem u8v_inj:∀{a b:List UInt8},a.map u8v=b.map u8v->a=b
 | [],[],_=>rfl
 | [],_::_,h=>by simp at h
 | _::_,[],h=>by simp at h
 | x::a,y::b,h=>by
  rw [List.map_cons,List.map_cons,List.cons.injEq] at h
  obtain ⟨h1,h2⟩:=h
  have h3:x=y:=by
   have:(x.toNat:Int)=(y.toNat:Int):=by injection h1
   exact UInt8.toNat_inj.1 (by omega)
  rw [h3,u8v_inj h2]
def keyV (p:DPoint):Value:=.agg (pointC p).toArray
theorem keyV_inj {p q:DPoint} (h:keyV p=keyV q):p=q:=by
 have e:pointC p=pointC q:=by
  unfold keyV at h
  injection h with h
  exact List.toArray_inj h
 unfold pointC at e
 obtain ⟨e1,e2⟩:=List.append_inj' e rfl
 have h2:p.n=q.n:=by
  have:=(List.cons.inj e2).1
  injection this
 cases p;cases q
 simp only [DPoint.mk.injEq]
 exact ⟨u8v_inj e1,h2⟩
theorem putV_map {s:List DPoint} {p:DPoint}:putV (s.map keyV) (keyV p)=(Tx.putP s p).map keyV:=by
 by_cases h:p∈s
 ·rw [putV_in (List.mem_map_of_mem (f:=keyV) h)]
  unfold Tx.putP
  rw [if_pos (Tx.mem_any.2 h)]
 ·rw [putV_new (fun hm=>by
   obtain ⟨q,hq,he⟩:=List.mem_map.1 hm
   exact h (keyV_inj he ▸ hq))]
  unfold Tx.putP
  rw [if_neg (fun e=>h (Tx.mem_any.1 e)),List.map_append];rfl
theorem setP_step {l:List DIn} {i:Nat} {x:DIn} (hx:l[i]?=some x):Tx.setP ((l.take (i+1)).map (·.point))=Tx.putP (Tx.setP ((l.take i).map (·.point))) x.point:=by
 rw [take_get hx,List.map_append]
 unfold Tx.setP
 rw [List.foldl_append];rfl

theorem pointsP {S:Nat->Prop} {v:Value} {l:List DIn} (w:World) (hl:RL 34 RIn w S [v] l):Calls Tryz.prog 96 [v].toArray w (Ret (Is w (.bool (!Tx.twice (l.map (·.point)))))):=by
 have hll:=rl_len hl
 obtain ⟨A,c,xs,hv_,hcA_,hcmA_,hr,hel⟩:=hl
 obtain rfl:v=.slice A l.length c:=by cases hv_;rfl
 refine kE (l:=[_]) Tryz.func96 U U ?_
 have H:=St.start nT w
 refine kR (sAb U (lkR (sf (e_mkmap (k:=27) (wn U) U U H ?_))))
 clear H;intro gp W H
 refine sR (d_asg U U) (ln (kQ (kR (sMs U (sLn U tu44 (sMi U (ln (kb (kL 9 [5] (fun mm sl W=>∃i:Nat,l.length - i=mm∧sl=[(9,.int .i64 (i:Int))]∧(i<=l.length)∧St nT w W [Fact.mp Tryz.prog 27 gp ((Tx.setP ((l.take (i)).map (·.point))).map keyV)]) _ _ ⟨0,U,U,Nat.zero_le _,H⟩ ⟨U,trivial⟩ (fun mm sl ρv W hJ=>?_))))))))))
 clear H;obtain ⟨i,rfl,rfl,hi,H⟩:=hJ
 refine ko (kR (sLt U U (ln (kQ (kC U (fun hc10=>?_) (fun hc10=>?_))))))
 ·replace hc10:=of_decide_eq_true hc10
  have hlt:i<l.length:=by omega
  obtain ⟨g0,o0,rfl,-⟩:=hr.2 (by omega)
  obtain ⟨x,hx⟩:=get_lt hlt
  obtain ⟨B2,d2,hL,hW,hp,hn⟩:=in_of (hel i x hx)
  refine kS (kQ (kb (kR (sR (dG U (H.rd hr) U U (q:=i) U hlt tu44 ts71) (sR (dN (off:=0) U (H.rd hr) hlt hL (sa (len_in hp)) U U (by omega) ta71 ts71) (sf (eal (inC zPt none 0 0) tzIn H ?_)))))))
  clear H;intro gx W H
  refine sf (esk (inC x.point B2 x.wit.length d2) U U U ts71 (len_in hp) in_one H (by rw [len_in (p:=zPt) U];decide) (spl_all ((len_in hp).trans (len_in (p:=zPt) U).symm)) ?_)
  clear H;intro W H
  refine ln (kr (sR (d_move U U) (sFa U tf71_0 (sR (dM (g:=gx) (off:=0) U H (sub_in_p hp) (len_point hp) U U U ta27 ts27) (sf (e_mapup (e:=3) (ks:=(Tx.setP ((l.take i).map (·.point))).map keyV) (key:=keyV x.point) klaw (wn U) U U (by kernel_rfl) U U U (key_point hp hn) H ?_))))))
  clear H;intro W H
  refine ln (kn (zE (kr (sAd U U (by omega) (sMi U (ln (kn (kY ?_))))))))
  refine ⟨_,_,_,?_,U,?_,?_,⟨i+1,U,U,by omega,by rw [setP_step hx,←putV_map];exact H.drop⟩⟩
  ·omega
  ·with_reducible repeat first|exact .refl|refine .f ?_ ?_ ?_;kernel_rfl;kernel_rfl|refine .u ?_ ?_;kernel_rfl
  ·refine ⟨?_,trivial⟩
   ·exact vi (by omega)
 ·replace hc10:=of_decide_eq_false hc10
  refine ke (xQ (xQ ?_))
  refine xH (kQ ?_)
  obtain rfl:i=l.length:=by omega
  rw [List.take_length] at H
  refine kr (sR (d_move U U) (sR (d_maplen (e:=3) (k:=27) (ks:=(Tx.setP (l.map (·.point))).map keyV) U U (by kernel_rfl) H) ?_))
  refine sMs U (sLn U tu44 (sEq U U (sAb U (ln (kx ?_)))))
  exact qr (v:=.bool _) U U ⟨_,U,vb (by rw [List.length_map,←Tx.len_set,List.length_map];exact Bool.eq_iff_iff.2 (by rw [beq_iff_eq,decide_eq_true_iff];omega)),H.under⟩

theorem valuesP {S:Nat->Prop} {v:Value} {l:List DOut} (w:World) (hl:RL 2 ROut w S [v] l):Calls Tryz.prog 97 [v].toArray w (Ret (Is w (.bool (Tx.valOk l)))):=by
 have hll:=rl_len hl
 obtain ⟨A,c,xs,hv_,hcA_,hcmA_,hr,hel⟩:=hl
 obtain rfl:v=.slice A l.length c:=by cases hv_;rfl
 refine kE (l:=[_]) Tryz.func97 U U ?_
 have H:=St.start nT w
 refine kR (sAb U (lkR (sAi U (ln (kQ (kR (sMs U (sLn U tu45 (sMi U (ln (kb (kL 8 [2,3,5] (fun mm sl W=>∃i:Nat,l.length - i=mm∧sl=[(8,.int .i64 (i:Int)),(3,.int .i64 (1125899906842624 - Tx.sum (l.take i)))]∧(i<=l.length)∧(∀o∈l.take i,1<=o.value)∧(Tx.sum (l.take i)<=1125899906842624)∧St nT w W []) _ _ ⟨0,U,U,Nat.zero_le _,fun o h=>by simp at h,(show (0:Int)<=1125899906842624 by decide),H⟩ ⟨U,U,trivial⟩ (fun mm sl ρv W hJ=>?_)))))))))))))
 clear H;obtain ⟨i,rfl,rfl,hi,hv,hs,H⟩:=hJ
 refine ko (kR (sLt U U (ln (kQ (kC U (fun hc9=>?_) (fun hc9=>?_))))))
 ·replace hc9:=of_decide_eq_true hc9
  have hlt:i<l.length:=by omega
  obtain ⟨g0,o0,rfl,-⟩:=hr.2 (by omega)
  obtain ⟨x,hx⟩:=get_lt hlt
  obtain ⟨B2,d2,hL,hB,hn⟩:=out_of (hel i x hx)
  have hsp:=Tx.sum_pos hv
  have hn1:=hn.1
  have hn2:=hn.2
  refine kS (kQ (kb (kR (sR (dG U (H.rd hr) U U (q:=i) U hlt tu45 ts41) (sR (dN (off:=0) U (H.rd hr) hlt hL U U U (by omega) ta41 ts41) (sf (eal [.int .i64 0,.slice none 0 0] tz41 H ?_)))))))
  clear H;intro gx W H
  refine sf (e_sto (wn U) U U U U U ts41 U H U ?_)
  clear H;intro W H
  refine ln (kQ (kQ ?_))
  rcases Int.lt_or_le x.value 1 with h1|h1
  ·skip
   refine kr (sFa U tf41_0 (sR (d_ld U H U ta3 U) (sLt U U (sBt U (by simp;omega) (sK (wO U U U U U) U (sK (wO U U U U U) U (sK (wO U U U U U) U (sK (wO U U U U U) U (sPT U U (ln (kT U U (kR ?_))))))))))))
   refine sAb U (ln (kx ?_))
   exact qr (v:=.bool _) U U ⟨_,U,vb ((Tx.val_bad hx (.inl h1)).symm),H.under⟩
  ·skip
   refine kr (sFa U tf41_0 (sR (d_ld U H U ta3 U) (sLt U U (sBf U (by simp;omega) (sr (w_g U U U U) U (dF U U tf41_0) (sr (w_g U U U U) U (d_ld U H U ta3 U) (sr (w_g U U U U) U (mv_i U U) (sr (w_g U U U U) U (d_gt U U U) (sPF U U (ln (kC U (fun hc20=>?_) (fun hc20=>?_))))))))))))
   ·replace hc20:=of_decide_eq_true hc20
    refine kR (sAb U (ln (kx ?_)))
    exact qr (v:=.bool _) U U ⟨_,U,vb ((Tx.val_bad hx (.inr (by omega))).symm),H.under⟩
   ·replace hc20:=of_decide_eq_false hc20
    refine kS (kr (sMi U (sFa U tf41_0 (sR (d_ld U H U ta3 U) (sR (d_sub U U U (by omega)) (sAi U (ln (kn (zE (kr (sAd U U (by omega) (sMi U ?_))))))))))))
    refine ln (kn (kY ?_))
    have hst:=Tx.sum_step hx
    refine ⟨_,_,_,?_,U,?_,?_,⟨i+1,U,U,by omega,fun o ho=>by
      rw [take_get hx] at ho
      rcases List.mem_append.1 ho with h|h
      ·exact hv o h
      ·obtain rfl:o=x:=by simpa using h
       omega,by omega,H.drop⟩⟩
    ·omega
    ·with_reducible repeat first|exact .refl|refine .f ?_ ?_ ?_;kernel_rfl;kernel_rfl|refine .u ?_ ?_;kernel_rfl
    ·refine ⟨?_,?_,trivial⟩
     ·exact vi (by omega)
     ·exact vi (by omega)
 ·replace hc9:=of_decide_eq_false hc9
  refine ke (xQ (xQ ?_))
  refine xH (kQ ?_)
  obtain rfl:i=l.length:=by omega
  rw [List.take_length] at hv hs
  refine kr (sAb U (ln (kx ?_)))
  exact qr (v:=.bool _) U U ⟨_,U,vb ((Tx.val_good hv hs).symm),H.under⟩

theorem checkTP {S:Nat->Prop} {cs:List Value} {t:DTx} (w:World) (ht:RTx w S cs t):Calls Tryz.prog 72 [.agg cs.toArray].toArray w (Ret (Is w (.int .i64 (Tx.chk t)))):=by
 obtain ⟨A,c,B,d,rfl,hI,hO,hk⟩:=tx_of ht
 refine kE (l:=[_]) Tryz.func72 U U ?_
 have H:=St.start nT w
 refine kR (sf (ebx (vs:=(txC A t.ins.length c B t.outs.length d t.lock)) U U H ?_))
 clear H;intro gm W H
 refine sAi U (lkR (sR (as_f U U) (lkR (sf (eal [.nilFunc] tz144 H ?_)))))
 clear H;intro gi W H
 refine sf (e_sto (wn U) U U U U U ts144 U H U ?_)
 clear H;intro W H
 refine lkR (sR (d_mkf U U U) (sR (as_f U U) (lkR (sR (as_f U U) (ln (kQ (kb (kQ ?_))))))))
 rcases Decidable.em (1<=t.ins.length∧t.ins.length<=8) with h1|h1
 ·skip
  refine kr (sFa U tf47_0 (sR (d_ld U H U ta44 U) (sLn U tu44 (sf (eI Tryz.func90 U U (within _) H ?_)))))
  clear H;intro W H
  refine sR (d_not U U) (sBf U (by simp;omega) (sr (w_g U U U U) U (dF U U tf47_1) (sr (w_g U U U U) U (d_ld U H U ta45 U) (sr (w_g U U U U) U (d_len U U tu45) (sf (e_call (w_g U U U U) U U Tryz.func90 U U U (within _) ?_))))))
  rintro _ W ⟨rfl,hb⟩
  replace H:=H.below hb
  clear hb
  refine sr (w_g U U U U) U (d_not U U) (sPF U U (sAb U (ln (kC U (fun hc8=>?_) (fun hc8=>?_)))))
  ·have h2:¬(1<=t.outs.length∧t.outs.length<=8):=by simp at hc8;omega
   refine kR (sAi U (ln (kx ?_)))
   exact qr (v:=.int _ _) U U ⟨_,U,vi (by unfold Tx.chk;rw [if_pos (by omega)]),H.under⟩
  ·have h2:1<=t.outs.length∧t.outs.length<=8:=by simp at hc8;omega
   refine kQ ?_
   rcases hf:t.ins.any Tx.far with _|_
   ·skip
    refine kr (sFa U tf47_0 (sR (d_ld U H U ta44 U) (sMf U (sf (eI Tryz.func95 U U (hasFar _ (keeps_L keeps_In _ _ _ _ _ hI (fun g hg _=>H.fr.block g hg (fun h=>h)))) H ?_)))))
    clear H;intro W H
    refine sBf U (by rw [hf]) ?_
    refine sr (w_g U U U U) U (dF U U tf47_2) (sr (w_g U U U U) U (d_ld U H U ta3 U) (sf (e_call (w_g U U U U) U U Tryz.func90 U U U (within _) ?_)))
    rintro _ W ⟨rfl,hb⟩
    replace H:=H.below hb
    clear hb
    refine sr (w_g U U U U) U (d_not U U) (sPF U U (sAb U (ln (kC U (fun hc21=>?_) (fun hc21=>?_)))))
    ·have h3:¬(0<=t.lock∧t.lock<=1073741824):=by simp at hc21;omega
     refine kR (sAi U (ln (kx ?_)))
     exact qr (v:=.int _ _) U U ⟨_,U,vi (by unfold Tx.chk;rw [if_neg (show ¬(t.ins.length<1∨8<t.ins.length∨t.outs.length<1∨8<t.outs.length) by omega),if_pos (by omega)]),H.under⟩
    ·have h3:0<=t.lock∧t.lock<=1073741824:=by simp at hc21;omega
     refine kR (sFa U tf47_0 (sR (d_ld U H U ta44 U) (sf (eI Tryz.func96 U U (pointsP _ (keeps_L keeps_In _ _ _ _ _ hI (fun g hg _=>H.fr.block g hg (fun h=>h)))) H ?_))))
     clear H;intro W H
     refine sR (d_not U U) (sAb U (ln (kC U (fun hc32=>?_) (fun hc32=>?_))))
     ·have htw:Tx.twice (t.ins.map (·.point))=true:=by simpa using hc32
      refine kR (sAi U (ln (kx ?_)))
      exact qr (v:=.int _ _) U U ⟨_,U,vi (by unfold Tx.chk;rw [if_neg (show ¬(t.ins.length<1∨8<t.ins.length∨t.outs.length<1∨8<t.outs.length) by omega),if_neg (show ¬(t.ins.any Tx.far=true∨t.lock<0∨1073741824<t.lock) by rw [hf];simp;omega),if_pos htw]),H.under⟩
     ·have htw:Tx.twice (t.ins.map (·.point))=false:=by simpa using hc32
      refine kR (sFa U tf47_1 (sR (d_ld U H U ta45 U) (sf (eI Tryz.func97 U U (valuesP _ (keeps_L keeps_Out _ _ _ _ _ hO (fun g hg _=>H.fr.block g hg (fun h=>h)))) H ?_))))
      clear H;intro W H
      refine sR (d_not U U) (sAb U (ln (kC U (fun hc37=>?_) (fun hc37=>?_))))
      ·have hvo:Tx.valOk t.outs=false:=by simpa using hc37
       refine kR (sAi U (ln (kx ?_)))
       exact qr (v:=.int _ _) U U ⟨_,U,vi (by unfold Tx.chk;rw [if_neg (show ¬(t.ins.length<1∨8<t.ins.length∨t.outs.length<1∨8<t.outs.length) by omega),if_neg (show ¬(t.ins.any Tx.far=true∨t.lock<0∨1073741824<t.lock) by rw [hf];simp;omega),if_neg (show ¬Tx.twice (t.ins.map (·.point))=true by rw [htw];simp),if_pos hvo]),H.under⟩
      ·have hvo:Tx.valOk t.outs=true:=by simpa using hc37
       refine kQ ?_
       rcases hlo:t.outs.any (fun o=>decide (256<o.script.length)) with _|_
       ·skip
        refine kr (sFa U tf47_1 (sR (d_ld U H U ta45 U) (sMf U (sf (eI Tryz.func98 U U (hasScript _ (keeps_L keeps_Out _ _ _ _ _ hO (fun g hg _=>H.fr.block g hg (fun h=>h)))) H ?_)))))
        clear H;intro W H
        refine sBf U (by rw [hlo]) ?_
        refine sr (w_g U U U U) U (dF U U tf47_0) (sr (w_g U U U U) U (d_ld U H U ta44 U) (sr (w_g U U U U) U (mv_f U U) (sf (e_call (w_g U U U U) U U Tryz.func95 U U U (hasWide _ (keeps_L keeps_In _ _ _ _ _ hI (fun g hg _=>H.fr.block g hg (fun h=>h))) (gat_of (H.blk (g:=gi)))) ?_))))
        rintro _ W ⟨rfl,hb⟩
        replace H:=H.below hb
        clear hb
        refine sPF U U (sAb U (ln (kC U (fun hc42=>?_) (fun hc42=>?_))))
        ·have hli:t.ins.any Tx.longX=true:=hc42
         refine kR (sAi U (ln (kx ?_)))
         exact qr (v:=.int _ _) U U ⟨_,U,vi (by unfold Tx.chk;rw [if_neg (show ¬(t.ins.length<1∨8<t.ins.length∨t.outs.length<1∨8<t.outs.length) by omega),if_neg (show ¬(t.ins.any Tx.far=true∨t.lock<0∨1073741824<t.lock) by rw [hf];simp;omega),if_neg (show ¬Tx.twice (t.ins.map (·.point))=true by rw [htw];simp),if_neg (show ¬Tx.valOk t.outs=false by rw [hvo];simp),if_pos (by unfold Tx.long;rw [hli];simp)]),H.under⟩
        ·have hli:t.ins.any Tx.longX=false:=hc42
         refine kS (kn (zE (kR (sAi U (ln (kx ?_))))))
         exact qr (v:=.int _ _) U U ⟨_,U,vi (by unfold Tx.chk;rw [if_neg (show ¬(t.ins.length<1∨8<t.ins.length∨t.outs.length<1∨8<t.outs.length) by omega),if_neg (show ¬(t.ins.any Tx.far=true∨t.lock<0∨1073741824<t.lock) by rw [hf];simp;omega),if_neg (show ¬Tx.twice (t.ins.map (·.point))=true by rw [htw];simp),if_neg (show ¬Tx.valOk t.outs=false by rw [hvo];simp),if_neg (by unfold Tx.long;rw [hlo,hli];simp)]),H.under⟩
       ·skip
        refine kr (sFa U tf47_1 (sR (d_ld U H U ta45 U) (sMf U (sf (eI Tryz.func98 U U (hasScript _ (keeps_L keeps_Out _ _ _ _ _ hO (fun g hg _=>H.fr.block g hg (fun h=>h)))) H ?_)))))
        clear H;intro W H
        refine sBt U (by rw [hlo]) ?_
        refine sK (wO U U U U U) U (sK (wO U U U U U) U (sK (wO U U U U U) U (sK (wO U U U U U) U (sPT U U (sAb U (ln (kT U U (kR (sAi U (ln (kx ?_)))))))))))
        exact qr (v:=.int _ _) U U ⟨_,U,vi (by unfold Tx.chk;rw [if_neg (show ¬(t.ins.length<1∨8<t.ins.length∨t.outs.length<1∨8<t.outs.length) by omega),if_neg (show ¬(t.ins.any Tx.far=true∨t.lock<0∨1073741824<t.lock) by rw [hf];simp;omega),if_neg (show ¬Tx.twice (t.ins.map (·.point))=true by rw [htw];simp),if_neg (show ¬Tx.valOk t.outs=false by rw [hvo];simp),if_pos (by unfold Tx.long;rw [hlo];rfl)]),H.under⟩
   ·skip
    refine kr (sFa U tf47_0 (sR (d_ld U H U ta44 U) (sMf U (sf (eI Tryz.func95 U U (hasFar _ (keeps_L keeps_In _ _ _ _ _ hI (fun g hg _=>H.fr.block g hg (fun h=>h)))) H ?_)))))
    clear H;intro W H
    refine sBt U (by rw [hf]) ?_
    refine sK (wO U U U U U) U (sK (wO U U U U U) U (sK (wO U U U U U) U (sK (wO U U U U U) U (sPT U U (sAb U (ln (kT U U (kR (sAi U (ln (kx ?_)))))))))))
    exact qr (v:=.int _ _) U U ⟨_,U,vi (by unfold Tx.chk;rw [if_neg (show ¬(t.ins.length<1∨8<t.ins.length∨t.outs.length<1∨8<t.outs.length) by omega),if_pos (.inl hf)]),H.under⟩
 ·skip
  refine kr (sFa U tf47_0 (sR (d_ld U H U ta44 U) (sLn U tu44 (sf (eI Tryz.func90 U U (within _) H ?_)))))
  clear H;intro W H
  refine sR (d_not U U) (sBt U (by simp;omega) (sK (wO U U U U U) U (sK (wO U U U U U) U (sK (wO U U U U U) U (sK (wO U U U U U) U (sK (wO U U U U U) U (sPT U U (sAb U (ln (kT U U (kR (sAi U ?_))))))))))))
  refine ln (kx ?_)
  exact qr (v:=.int _ _) U U ⟨_,U,vi (by unfold Tx.chk;rw [if_pos (by omega)]),H.under⟩

theorem flat_at {α:Type} {f:α->List UInt8} {l:List α} {i:Nat} {x:α} (h:l[i]?=some x):((l.take (i+1)).map f).flatten=((l.take i).map f).flatten++f x:=by rw [take_get h];simp
theorem len_take_flat {α:Type} {f:α->List UInt8} {k i:Nat} {l:List α} (h:∀x∈l,(f x).length<=k) (hi:i<=l.length):((l.take i).map f).flatten.length<=i*k:=by
 have:=len_flat_le (f:=f) (k:=k) (l:=l.take i) (fun x hx=>h x (List.mem_of_mem_take hx))
 rw [List.length_take,Nat.min_eq_left hi] at this
 exact this
theorem toU_cast' {u:Nat} (h:u<=9223372036854775807):Pk.toU (u:Int)=u:=by rw [Pk.toU_pos _ (by omega) (by omega)];omega

theorem rowI {S:Nat->Prop} {v:Value} {b:List UInt8} {p:DPoint} {A:Option Addr} {m c:Nat} (w:World) (hG:Gat w 2 formsC) (hb:Bs w S v b) (hl:b.length<=10000000000) (hp:p.tx.length=32) (hn:I64 p.n):Calls Tryz.prog 74 [v,.agg (inC p A m c).toArray].toArray w (Ret (NewB 5 w (b++Tx.encP p))):=by
 have hb0:=hb
 obtain ⟨Ab,cb,rfl,_,_,_⟩:=hb.op
 refine kE (l:=[_,_]) Tryz.func74 U U ?_
 have H:=St.start nT w
 refine kR (sf (ebx (vs:=(inC p A m c)) U U H ?_))
 clear H;intro gx W H
 refine sAs U (ln (kQ (k_draw [(0,true),(1,true),(2,true),(3,true),(5,true),(6,true),(7,true),(4,false),(8,false),(9,true)] [Fact.blk gx (inC p A m c) 71] (by kernel_rfl) (by kernel_rfl) H (.refl _) ?_)))
 clear H;intro W H
 refine cMs U U (cFa U U tf71_0 (cFa U U tf27_0 (cR U (fun W H=>dM (g:=gx) (off:=0) U H (sub_in_tx hp) (by rw [List.length_map];exact hp) U U U ta25 ts25) ?_)))
 refine cFa U U tf71_0 (cFa U U tf27_1 (cR U (fun W H=>dX (g:=gx) (off:=32) U H (sub_in_n hp) U U ta3) (cf U (eN Tryz.func76 U U (packHash (b:=b) (h:=p.tx) _ (H.bs hb0) (by omega) hp) H ?_))))
 clear H;intro A1 c1 W hc1 hd1 H
 refine ⟨H.sb,?_⟩
 refine cf U (eN Tryz.func75 U U (packInt (b:=b++p.tx) p.n _ (H.gat hG) (H.rowbs (A:=A1) U) hn (by rw [List.length_append];omega)) H ?_)
 clear H;intro A2 c2 W hc2 hd2 H
 refine ⟨H.sb,?_⟩
 refine cAs U U (c_nil (kx ?_))
 rw [List.append_assoc] at hc2 H ⊢
 exact qr (v:=.slice _ _ _) U U ⟨_,U,H.newB U U hc2 hd2⟩

theorem rowO {S S1:Nat->Prop} {v:Value} {b:List UInt8} {o:DOut} {A:Option Addr} {c:Nat} (w:World) (hG:Gat w 2 formsC) (hb:Bs w S v b) (hl:b.length<=10000000000) (hs:Bs w S1 (.slice A o.script.length c) o.script) (hsl:o.script.length<=10000000000) (hn:I64 o.value):Calls Tryz.prog 78 [v,.agg (outC o.value A o.script.length c).toArray].toArray w (Ret (NewB 5 w (b++Tx.encO o))):=by
 have hb0:=hb
 obtain ⟨Ab,cb,rfl,_,_,_⟩:=hb.op
 have hq1:=Pk.len_int (Pk.toU o.value)
 refine kE (l:=[_,_]) Tryz.func78 U U ?_
 have H:=St.start nT w
 refine kR (sf (ebx (vs:=(outC o.value A o.script.length c)) U U H ?_))
 clear H;intro gx W H
 refine sAs U (ln (kQ (k_draw [(0,true),(1,true),(2,true),(4,true),(5,true),(3,false),(6,false),(7,true)] [Fact.blk gx (outC o.value A o.script.length c) 41] (by kernel_rfl) (by kernel_rfl) H (.refl _) ?_)))
 clear H;intro W H
 refine cMs U U (cFa U U tf41_0 (cR U (fun W H=>d_ld U H U ta3 U) (cFa U U tf41_1 (cR U (fun W H=>d_ld U H U ta23 U) (cf U (eN Tryz.func75 U U (packInt (b:=b) o.value _ (H.gat hG) (H.bs hb0) hn (by omega)) H ?_))))))
 clear H;intro A1 c1 W hc1 hd1 H
 refine ⟨H.sb,?_⟩
 refine cf U (eN Tryz.func79 U U (packBlob (b:=b++Pk.int (Pk.toU o.value)) (p:=o.script) _ (H.gat hG) (H.rowbs (A:=A1) U) (by rw [List.length_append];omega) (H.bs hs) (by omega)) H ?_)
 clear H;intro A2 c2 W hc2 hd2 H
 refine ⟨H.sb,?_⟩
 refine cAs U U (c_nil (kx ?_))
 rw [show b++Pk.int (Pk.toU o.value)++(Pk.int o.script.length++o.script)=b++Tx.encO o by unfold Tx.encO Pk.blob;rw [List.append_assoc]] at hc2 H ⊢
 exact qr (v:=.slice _ _ _) U U ⟨_,U,H.newB U U hc2 hd2⟩

theorem rowsIn {S S1:Nat->Prop} {v u:Value} {b:List UInt8} {l:List DIn} (w:World) (hG:Gat w 2 formsC) (hb:Bs w S v b) (hbl:b.length<=1000000) (hl:RL 34 RIn w S1 [u] l) (hn:l.length<=100000) (hk:∀x∈l,(Tx.encI x).length<=10000):Calls Tryz.prog 73 [v,u,.func (.func 74) #[] #[]].toArray w (Ret (NewB 5 w (b++encL Tx.encI l))):=by
 have hb0:=hb
 obtain ⟨Ab,cb,rfl,_,_,_⟩:=hb.op
 have hll:=rl_len hl
 obtain ⟨A,c,xs,hv_,hcA_,hcmA_,hr,hel⟩:=hl
 obtain rfl:u=.slice A l.length c:=by cases hv_;rfl
 have hq1:=Pk.len_int (Pk.toU (l.length:Int))
 have hbb:(b++Pk.int (Pk.toU (l.length:Int))).length<=2000000:=by rw [List.length_append];omega
 have he0:(b++Pk.int (Pk.toU (l.length:Int)))=((b++Pk.int (Pk.toU (l.length:Int)))++((l.take 0).map Tx.encI).flatten):=by simp
 refine kE (l:=[_,_,_]) Tryz.func73 U U ?_
 have H:=St.start nT w
 refine kR (sAs U (lkR (sMs U (sMs U (sLn U tu44 (sf (eN Tryz.func75 U U (packInt (b:=b) (l.length:Int) _ (H.gat hG) (H.bs hb0) (by omega) (by omega)) H ?_)))))))
 clear H;intro A1 c1 W hc1 hd1 H
 rw [he0] at hc1 H
 refine sAs U (ln (kQ (kR (sMs U (sLn U tu44 (sMi U (ln (kb (kL 15 [0,8] (fun mm sl W=>∃i:Nat,∃A2:Option Addr,∃d2:Nat,l.length - i=mm∧sl=[(15,.int .i64 (i:Int)),(0,.slice A2 ((b++Pk.int (Pk.toU (l.length:Int)))++((l.take i).map Tx.encI).flatten).length d2)]∧(i<=l.length)∧(((b++Pk.int (Pk.toU (l.length:Int)))++((l.take i).map Tx.encI).flatten).length<=d2∧d2<=9223372036854775807)∧St nT w W [Fact.row 5 1 (.slice A2 ((b++Pk.int (Pk.toU (l.length:Int)))++((l.take i).map Tx.encI).flatten).length d2) ((b++Pk.int (Pk.toU (l.length:Int)))++((l.take i).map Tx.encI).flatten).length (((b++Pk.int (Pk.toU (l.length:Int)))++((l.take i).map Tx.encI).flatten).map u8v)]) _ _ ⟨0,A1,c1,U,U,Nat.zero_le _,⟨hc1,hd1⟩,H⟩ ⟨U,sl_eq (congrArg List.length he0),trivial⟩ (fun mm sl ρv W hJ=>?_))))))))))
 clear H;obtain ⟨i,A2,d2,rfl,rfl,hi,hd,H⟩:=hJ
 refine ko (kR (sLt U U (ln (kQ (kC U (fun hc16=>?_) (fun hc16=>?_))))))
 ·replace hc16:=of_decide_eq_true hc16
  have hlt:i<l.length:=by omega
  obtain ⟨g0,o0,rfl,-⟩:=hr.2 (by omega)
  obtain ⟨x,hx⟩:=get_lt hlt
  obtain ⟨B3,d3,hL,hW,hp,hn9⟩:=in_of (hel i x hx)
  have hkx:=hk x (List.mem_of_getElem? hx)
  have hfl:=len_take_flat hk hi
  have hA:((b++Pk.int (Pk.toU (l.length:Int)))++((l.take i).map Tx.encI).flatten).length<=10000000000:=by rw [List.length_append];omega
  refine kS (kQ (kb (kR (sR (dG U (H.rd hr) U U (q:=i) U hlt tu44 ts71) (sR (dN (off:=0) U (H.rd hr) hlt hL (sa (len_in hp)) U U (by omega) ta71 ts71) (sf (eal (inC zPt none 0 0) tzIn H ?_)))))))
  clear H;intro gx W H
  refine sf (esk (inC x.point B3 x.wit.length d3) U U U ts71 (len_in hp) in_one H (by rw [len_in (p:=zPt) U];decide) (spl_all ((len_in hp).trans (len_in (p:=zPt) U).symm)) ?_)
  clear H;intro W H
  refine ln (kr (sMf U (sMs U (sR (dM (g:=gx) (off:=0) U H (sa (len_in hp)) (len_in hp) U U U ta71 ts71) (sf (e_callv (wn U) U U U Tryz.func74 U U U (rowI (b:=((b++Pk.int (Pk.toU (l.length:Int)))++((l.take i).map Tx.encI).flatten)) _ (H.gat hG) (H.rowbs (A:=A2) U) hA hp hn9) ?_))))))
  rintro _ W ⟨A7,c7,rfl,hc7,hd7,hn⟩
  replace H:=H.new hn
  clear hn
  refine sAs U (ln (kn (zE (kr (sAd U U (by omega) (sMi U (ln (kn (kY ?_)))))))))
  have he:((b++Pk.int (Pk.toU (l.length:Int)))++((l.take (i+1)).map Tx.encI).flatten)=((b++Pk.int (Pk.toU (l.length:Int)))++((l.take i).map Tx.encI).flatten)++Tx.encI x:=by rw [flat_at hx];simp only [List.append_assoc]
  refine ⟨_,_,_,?_,U,?_,?_,⟨i+1,A7,c7,U,U,by omega,⟨by rw [he];exact hc7,hd7⟩,by rw [he];exact H.sub (L':=[_]) (.cons_cons _ (List.nil_sublist _))⟩⟩
  ·omega
  ·with_reducible repeat first|exact .refl|refine .f ?_ ?_ ?_;kernel_rfl;kernel_rfl|refine .u ?_ ?_;kernel_rfl
  ·refine ⟨?_,?_,trivial⟩
   ·exact vi (by omega)
   ·exact sl_eq (by first|(rw [he];done)|(rw [he];rfl))
 ·replace hc16:=of_decide_eq_false hc16
  refine ke (xQ (xQ ?_))
  refine xH (kQ ?_)
  obtain rfl:i=l.length:=by omega
  have hE:((b++Pk.int (Pk.toU (l.length:Int)))++((l.take l.length).map Tx.encI).flatten)=b++encL Tx.encI l:=by rw [List.take_length];unfold encL;rw [toU_cast' (by omega),List.append_assoc]
  rw [hE] at hd H ⊢
  refine kr (sMs U (sAs U (ln (kx ?_))))
  exact qr (v:=.slice _ _ _) U U ⟨_,U,H.newB U U hd.1 hd.2⟩

theorem rowsOut {S S1:Nat->Prop} {v u:Value} {b:List UInt8} {l:List DOut} (w:World) (hG:Gat w 2 formsC) (hb:Bs w S v b) (hbl:b.length<=1000000) (hl:RL 2 ROut w S1 [u] l) (hn:l.length<=100000) (hk:∀x∈l,(Tx.encO x).length<=10000) (hsl:∀x∈l,x.script.length<=10000000000):Calls Tryz.prog 77 [v,u,.func (.func 78) #[] #[]].toArray w (Ret (NewB 5 w (b++encL Tx.encO l))):=by
 have hb0:=hb
 obtain ⟨Ab,cb,rfl,_,_,_⟩:=hb.op
 have hll:=rl_len hl
 obtain ⟨A,c,xs,hv_,hcA_,hcmA_,hr,hel⟩:=hl
 obtain rfl:u=.slice A l.length c:=by cases hv_;rfl
 have hq1:=Pk.len_int (Pk.toU (l.length:Int))
 have hbb:(b++Pk.int (Pk.toU (l.length:Int))).length<=2000000:=by rw [List.length_append];omega
 have he0:(b++Pk.int (Pk.toU (l.length:Int)))=((b++Pk.int (Pk.toU (l.length:Int)))++((l.take 0).map Tx.encO).flatten):=by simp
 refine kE (l:=[_,_,_]) Tryz.func77 U U ?_
 have H:=St.start nT w
 refine kR (sAs U (lkR (sMs U (sMs U (sLn U tu45 (sf (eN Tryz.func75 U U (packInt (b:=b) (l.length:Int) _ (H.gat hG) (H.bs hb0) (by omega) (by omega)) H ?_)))))))
 clear H;intro A1 c1 W hc1 hd1 H
 rw [he0] at hc1 H
 refine sAs U (ln (kQ (kR (sMs U (sLn U tu45 (sMi U (ln (kb (kL 15 [0,8] (fun mm sl W=>∃i:Nat,∃A2:Option Addr,∃d2:Nat,l.length - i=mm∧sl=[(15,.int .i64 (i:Int)),(0,.slice A2 ((b++Pk.int (Pk.toU (l.length:Int)))++((l.take i).map Tx.encO).flatten).length d2)]∧(i<=l.length)∧(((b++Pk.int (Pk.toU (l.length:Int)))++((l.take i).map Tx.encO).flatten).length<=d2∧d2<=9223372036854775807)∧St nT w W [Fact.row 5 1 (.slice A2 ((b++Pk.int (Pk.toU (l.length:Int)))++((l.take i).map Tx.encO).flatten).length d2) ((b++Pk.int (Pk.toU (l.length:Int)))++((l.take i).map Tx.encO).flatten).length (((b++Pk.int (Pk.toU (l.length:Int)))++((l.take i).map Tx.encO).flatten).map u8v)]) _ _ ⟨0,A1,c1,U,U,Nat.zero_le _,⟨hc1,hd1⟩,H⟩ ⟨U,sl_eq (congrArg List.length he0),trivial⟩ (fun mm sl ρv W hJ=>?_))))))))))
 clear H;obtain ⟨i,A2,d2,rfl,rfl,hi,hd,H⟩:=hJ
 refine ko (kR (sLt U U (ln (kQ (kC U (fun hc16=>?_) (fun hc16=>?_))))))
 ·replace hc16:=of_decide_eq_true hc16
  have hlt:i<l.length:=by omega
  obtain ⟨g0,o0,rfl,-⟩:=hr.2 (by omega)
  obtain ⟨x,hx⟩:=get_lt hlt
  obtain ⟨B3,d3,hL,hB,hn9⟩:=out_of (hel i x hx)
  have hkx:=hk x (List.mem_of_getElem? hx)
  have hfl:=len_take_flat hk hi
  have hA:((b++Pk.int (Pk.toU (l.length:Int)))++((l.take i).map Tx.encO).flatten).length<=10000000000:=by rw [List.length_append];omega
  refine kS (kQ (kb (kR (sR (dG U (H.rd hr) U U (q:=i) U hlt tu45 ts41) (sR (dN (off:=0) U (H.rd hr) hlt hL U U U (by omega) ta41 ts41) (sf (eal [.int .i64 0,.slice none 0 0] tz41 H ?_)))))))
  clear H;intro gx W H
  refine sf (e_sto (wn U) U U U U U ts41 U H U ?_)
  clear H;intro W H
  refine ln (kr (sMf U (sMs U (sR (d_ldm U H U ta41 ts41 U) (sf (e_callv (wn U) U U U Tryz.func78 U U U (rowO (b:=((b++Pk.int (Pk.toU (l.length:Int)))++((l.take i).map Tx.encO).flatten)) _ (H.gat hG) (H.rowbs (A:=A2) U) hA (H.bs hB) (hsl x (List.mem_of_getElem? hx)) hn9) ?_))))))
  rintro _ W ⟨A7,c7,rfl,hc7,hd7,hn⟩
  replace H:=H.new hn
  clear hn
  refine sAs U (ln (kn (zE (kr (sAd U U (by omega) (sMi U (ln (kn (kY ?_)))))))))
  have he:((b++Pk.int (Pk.toU (l.length:Int)))++((l.take (i+1)).map Tx.encO).flatten)=((b++Pk.int (Pk.toU (l.length:Int)))++((l.take i).map Tx.encO).flatten)++Tx.encO x:=by rw [flat_at hx];simp only [List.append_assoc]
  refine ⟨_,_,_,?_,U,?_,?_,⟨i+1,A7,c7,U,U,by omega,⟨by rw [he];exact hc7,hd7⟩,by rw [he];exact H.sub (L':=[_]) (.cons_cons _ (List.nil_sublist _))⟩⟩
  ·omega
  ·with_reducible repeat first|exact .refl|refine .f ?_ ?_ ?_;kernel_rfl;kernel_rfl|refine .u ?_ ?_;kernel_rfl
  ·refine ⟨?_,?_,trivial⟩
   ·exact vi (by omega)
   ·exact sl_eq (by first|(rw [he];done)|(rw [he];rfl))
 ·replace hc16:=of_decide_eq_false hc16
  refine ke (xQ (xQ ?_))
  refine xH (kQ ?_)
  obtain rfl:i=l.length:=by omega
  have hE:((b++Pk.int (Pk.toU (l.length:Int)))++((l.take l.length).map Tx.encO).flatten)=b++encL Tx.encO l:=by rw [List.take_length];unfold encL;rw [toU_cast' (by omega),List.append_assoc]
  rw [hE] at hd H ⊢
  refine kr (sMs U (sAs U (ln (kx ?_))))
  exact qr (v:=.slice _ _ _) U U ⟨_,U,H.newB U U hd.1 hd.2⟩

def Tx.b1 (t:DTx):List UInt8:=[]++encL Tx.encI t.ins

theorem bareTP {S:Nat->Prop} {cs:List Value} {t:DTx} (w:World) (ht:RTx w S cs t) (hG:Gat w 2 formsC):Calls Tryz.prog 63 [.agg cs.toArray].toArray w (Ret (fun v w'=>∃x,v=.tuple #[x,.int .i64 (Tx.chk t)]∧NewB 5 w (Tx.bare t) x w')):=by
 obtain ⟨A,c,B,d,rfl,hI,hO,hk⟩:=tx_of ht
 have hok:=tx_ok ht
 refine kE (l:=[_]) Tryz.func63 U U ?_
 have H:=St.start nT w
 refine kR (sf (ebx (vs:=(txC A t.ins.length c B t.outs.length d t.lock)) U U H ?_))
 clear H;intro gm W H
 refine sAs U (sAi U (ln (kQ (kR (sR (dM (g:=gm) (off:=0) U H (sa (a:=txC A t.ins.length c B t.outs.length d t.lock) (m:=3) U) U U U U ta47 ts47) (sf (eI Tryz.func72 U U (checkTP _ (keeps_Tx _ _ _ _ _ ht (fun g hg _=>H.fr.block g hg (fun h=>h)))) H ?_)))))))
 clear H;intro W H
 refine sAi U (lkR (sMi U (sNe U U (ln (kC U (fun hc9=>?_) (fun hc9=>?_))))))
 ·have hne:¬Tx.chk t=0:=by simpa using hc9
  refine kR (sMi U (sAs U (sAi U (ln (kx ?_)))))
  have hp0:Tx.bare t=[]:=by unfold Tx.bare;rw [if_neg hne]
  rw [hp0]
  replace H:=H.nilrow 5 1
  exact q_ret2 (v:=.slice _ _ _) (x:=.int _ _) U U U ⟨_,U,_,U,H.newB (l:=[]) U U (Nat.le_refl _) (by omega)⟩
 ·have hne:Tx.chk t=0:=by simpa using hc9
  have hch:=Tx.chk_of hne
  obtain ⟨q1,q2,q3,q4,q5,q6,q7,q8⟩:=hch
  have hlb:=Tx.len_bareB hne hok
  unfold Tx.bareB at hlb
  rw [List.length_append,List.length_append] at hlb
  refine kS (kR (sFa U tf47_0 (sR (d_ld U H U ta44 U) (sf (eN Tryz.func73 U U (rowsIn (b:=[]) _ (H.gat hG) (Bs.nil (S:=(0<=·))) (by simp) (keeps_L keeps_In _ _ _ _ _ hI (fun g hg _=>H.fr.block g hg (fun h=>h))) (by omega) (fun x hx=>by have:=Tx.len_encP (hok.1 x hx).1;show (Tx.encP x.point).length<=_;omega)) H ?_)))))
  clear H;intro A1 c1 W hc1 hd1 H
  refine sAs U (lkR (sMs U (sFa U tf47_1 (sR (d_ld U H U ta45 U) (sf (eN Tryz.func77 U U (rowsOut (b:=[]++encL Tx.encI t.ins) _ (H.gat hG) (H.rowbs (A:=A1) U) (by rw [List.nil_append];omega) (keeps_L keeps_Out _ _ _ _ _ hO (fun g hg _=>H.fr.block g hg (fun h=>h))) (by omega) (fun x hx=>by have:=Tx.len_encO (q7 x hx);omega) (fun x hx=>by have:=q7 x hx;omega)) H ?_))))))
  clear H;intro A2 c2 W hc2 hd2 H
  refine sAs U (lkR (sMs U (sFa U tf47_2 (sR (d_ld U H U ta3 U) (sf (eN Tryz.func75 U U (packInt (b:=([]++encL Tx.encI t.ins)++encL Tx.encO t.outs) t.lock _ (H.gat hG) (H.rowbs (A:=A2) U) hk (by rw [List.nil_append,List.length_append];omega)) H ?_))))))
  clear H;intro A3 c3 W hc3 hd3 H
  refine sAs U (sAi U (ln (kx ?_)))
  have hp0:([]++encL Tx.encI t.ins++encL Tx.encO t.outs)++Pk.int (Pk.toU t.lock)=Tx.bare t:=by unfold Tx.bare Tx.bareB;rw [if_pos hne,List.nil_append,List.append_assoc]
  rw [hp0] at hc3 H ⊢
  rw [hne]
  exact q_ret2 (v:=.slice _ _ _) (x:=.int _ _) U U U ⟨_,U,_,U,H.newB U U hc3 hd3⟩

end Go.Proofs.YtjjodibkmeefpaaGreatDoor
