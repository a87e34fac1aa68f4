import Derived.Test.YtjjodibkmeefpaaGreatDoorMWN
import Derived.Test.YtjjodibkmeefpaaGreatDoorMZ
import Derived.Test.YtjjodibkmeefpaaGreatDoorMOR
set_option linter.unusedVariables false
set_option linter.unusedSimpArgs false
set_option maxHeartbeats 4000000

namespace Go.Proofs.YtjjodibkmeefpaaGreatDoor
open Go Go.RowKit
attribute [local irreducible] wpList

def Tx.pts (l:List DIn):List DPoint:=l.map (·.point)
theorem Tx.pts_at {l:List DIn} {i:Nat} {x:DIn} (h:l[i]?=some x):(Tx.pts l)[i]?=some x.point:=by unfold Tx.pts;rw [List.getElem?_map,h];rfl
def Tx.Apart (l:List DPoint) (i:Nat):Prop:=∀k j p,k<j->j<i->l[k]?=some p->l[j]?≠some p
theorem Tx.apart_end {l:List DPoint} (h:Tx.Apart l l.length):Tx.twice l=false:=by
 cases ht:Tx.twice l with
 | false=>rfl
 | true =>
  obtain ⟨k,i,p,h1,h2,h3⟩:=Tx.twice_iff.1 ht
  exact absurd h3 (h k i p h1 (List.getElem?_eq_some_iff.1 h3).1 h2)
theorem Tx.apart_step {l:List DPoint} {i:Nat} {p:DPoint} (h:Tx.Apart l i) (hp:l[i]?=some p) (hk:∀k,k<i->l[k]?≠some p):Tx.Apart l (i+1):=fun k j q h1 h2 h3 h4=>by
 rcases Nat.lt_or_ge j i with h5|h5
 ·exact h k j q h1 h5 h3 h4
 ·obtain rfl:j=i:=by omega
  rw [hp] at h4
  cases h4
  exact hk k h1 h3

theorem twiceR {S:Nat->Prop} {v:Value} {l:List DIn} (w:World) (hl:RL 34 RIn w S [v] l):Calls Tryz.prog 100 [v].toArray w (Ret (Is w (.bool (Tx.twice (l.map (·.point)))))):=by
 have hll:=rl_len hl
 obtain ⟨A,c,xs,hv_,hcA_,hcmA_,hr,hel⟩:=hl
 obtain rfl:v=.slice A l.length c:=by cases hv_;rfl
 refine kE (l:=[_]) Tryz.func100 U U ?_
 have H:=St.start nT w
 refine kR (sAb U (ln (kQ (kR (sAi U (ln (kb (kL 2 [] (fun mm sl W=>∃i:Nat,l.length - i=mm∧sl=[(3,.int .i64 (i:Int))]∧(i<=l.length)∧(Tx.Apart (l.map (·.point)) i)∧St nT w W []) _ _ ⟨0,U,U,Nat.zero_le _,fun k j p h1 h2=>by omega,H⟩ ⟨U,trivial⟩ (fun mm sl ρv W hJ=>?_)))))))))
 clear H;obtain ⟨i,rfl,rfl,hi_,hap,H⟩:=hJ
 refine ko (kQ (kR (sMi U (sMs U (sLn U tu44 (sLt U U (ln (kC U (fun hc8=>?_) (fun hc8=>?_)))))))))
 ·replace hc8:=of_decide_eq_true hc8
  have hlt:i<l.length:=by omega
  obtain ⟨g0,o0,rfl,-⟩:=hr.2 (by omega)
  obtain ⟨x,hx⟩:=get_lt hlt
  obtain ⟨B2,d2,hL,hW,hp,hn⟩:=in_of (hel i x hx)
  refine kS (kQ (kb (kR (sAi U (ln (kb (kL 11 [2,4] (fun mm sl W=>∃k:Nat,i - k=mm∧sl=[(4,.int .i64 (k:Int))]∧(k<=i)∧(∀j,j<k->(l.map (·.point))[j]?≠some x.point)∧St nT w W []) _ _ ⟨0,U,U,Nat.zero_le _,fun j hj=>by omega,H⟩ ⟨U,trivial⟩ (fun mm sl ρv W hJ=>?_))))))))
  clear H;obtain ⟨k,rfl,rfl,hk_,hno,H⟩:=hJ
  refine ko (kQ (kR (sMi U (sMi U (sLt U U (ln (kC U (fun hc13=>?_) (fun hc13=>?_))))))))
  ·replace hc13:=of_decide_eq_true hc13
   have hltk:k<l.length:=by omega
   obtain ⟨y,hy⟩:=get_lt hltk
   obtain ⟨B3,d3,hL2,hW2,hp2,hn2⟩:=in_of (hel k y hy)
   refine kS (kQ (kb (kQ (k_draw [(0,true),(1,true),(2,true),(3,true),(4,true),(5,true),(6,true),(7,true),(8,true),(9,true),(10,true)] [] (by kernel_rfl) (by kernel_rfl) H (.refl _) ?_))))
   clear H;intro W H
   refine cMs U U (cMi U U (cR U (fun W H=>dG U (H.rd hr) U U (q:=i) U hlt tu44 ts71) (cFa U U tf71_0 (cR U (fun W H=>dN (off:=0) U (H.rd hr) hlt hL (sub_in_p hp) U U (by omega) ta27 ts27) (cMs U U (cMi U U (cR U (fun W H=>dG U (H.rd hr) U U (q:=k) U hltk tu44 ts71) (cFa U U tf71_0 (cR U (fun W H=>dN (off:=0) U (H.rd hr) hltk hL2 (sub_in_p hp2) U U (by omega) ta27 ts27) (cR U (fun W H=>d_eqst (r:=beqPoint x.point y.point) U U U (eq_Point (d:=9997) (point_rep (W:=w) (S:=nT) hp hn) (point_rep (W:=w) (S:=nT) hp2 hn2)) (by kernel_rfl)) ?_))))))))))
   refine c_nil (kC U (fun hc26=>?_) (fun hc26=>?_))
   ·skip
    refine kR (sAb U (ln (kx ?_)))
    exact qr (v:=.bool _) U U ⟨_,U,vb ((Tx.twice_iff.2 ⟨k,i,y.point,by omega,Tx.pts_at hy,by rw [←beqPoint_iff.1 hc26];exact Tx.pts_at hx⟩).symm),H.under⟩
   ·skip
    refine kS (kn (zE (kI U U U (by omega) U (kn (kY ?_)))))
    refine ⟨_,_,_,?_,U,?_,?_,⟨k+1,U,U,by omega,(fun j hj=>by
      rcases Nat.lt_or_ge j k with h|h
      ·exact hno j h
      ·obtain rfl:j=k:=by omega
       intro e
       rw [show (l.map (·.point))[j]?=some y.point from Tx.pts_at hy] at e
       have e2:=Option.some.inj e
       rw [←e2,beqPoint_iff.2 rfl] at hc26
       cases hc26),H⟩⟩
    ·omega
    ·with_reducible repeat first|exact .refl|refine .f ?_ ?_ ?_;kernel_rfl;kernel_rfl|refine .u ?_ ?_;kernel_rfl
    ·refine ⟨?_,trivial⟩
     ·exact vi (by omega)
  ·replace hc13:=of_decide_eq_false hc13
   refine ke (xQ (xQ ?_))
   refine xH (kn (zE (kI U U U (by omega) U (kn (kY ?_)))))
   obtain rfl:i=k:=by omega
   refine ⟨_,_,_,?_,U,?_,?_,⟨i+1,U,U,by omega,Tx.apart_step hap (Tx.pts_at hx) hno,H⟩⟩
   ·omega
   ·with_reducible repeat first|exact .refl|refine .f ?_ ?_ ?_;kernel_rfl;kernel_rfl|refine .u ?_ ?_;kernel_rfl
   ·refine ⟨?_,trivial⟩
    ·exact vi (by omega)
 ·replace hc8:=of_decide_eq_false hc8
  refine ke (xQ (xQ ?_))
  refine xH (kQ ?_)
  obtain rfl:i=l.length:=by omega
  rw [show l.length=(l.map (·.point)).length by simp] at hap
  refine kr (sAb U (ln (kx ?_)))
  exact qr (v:=.bool _) U U ⟨_,U,vb ((Tx.apart_end hap).symm),H.under⟩

theorem rangedR {S:Nat->Prop} {v:Value} {l:List DOut} (w:World) (hl:RL 2 ROut w S [v] l) (hn8:l.length<=1000):Calls Tryz.prog 101 [v].toArray w (Ret (Is w (.bool (Tx.valOk l)))):=by
 obtain ⟨A,c,xs,hv_,hcA_,hcmA_,hr,hel⟩:=hl
 obtain rfl:v=.slice A l.length c:=by cases hv_;rfl
 refine kE (l:=[_]) Tryz.func101 U U ?_
 have H:=St.start nT w
 refine kR (sAb U (lkR (sAi U (ln (kQ (kR (sAi U (ln (kb (kL 2 [] (fun mm sl W=>∃i:Nat,l.length - i=mm∧sl=[(4,.int .i64 (i:Int)),(3,.int .i64 (Tx.sum (l.take i)))]∧(i<=l.length)∧(∀o∈l.take i,1<=o.value∧o.value<=1125899906842624)∧St nT w W []) _ _ ⟨0,U,U,Nat.zero_le _,fun o h=>by simp at h,H⟩ ⟨U,U,trivial⟩ (fun mm sl ρv W hJ=>?_)))))))))))
 clear H;obtain ⟨i,rfl,rfl,hi_,hv,H⟩:=hJ
 refine ko (kQ (kR (sMi U (sMs U (sLn U tu45 (sLt U U (ln (kC U (fun hc8=>?_) (fun hc8=>?_)))))))))
 ·replace hc8:=of_decide_eq_true hc8
  have hlt:i<l.length:=by omega
  obtain ⟨g0,o0,rfl,-⟩:=hr.2 (by omega)
  obtain ⟨x,hx⟩:=get_lt hlt
  obtain ⟨B2,d2,hL,hB,hn⟩:=out_of (hel i x hx)
  have hsp:=Tx.sum_pos (fun o ho=>(hv o ho).1)
  have hsl:=Tx.sum_le (fun o ho=>(hv o ho).2)
  have htl:(l.take i).length<=1000:=by rw [List.length_take];omega
  refine kS (kQ (kb (kQ (kQ ?_))))
  rcases Int.lt_or_le x.value 1 with h1|h1
  ·skip
   refine kr (sMs U (sMi U (sR (dG U (H.rd hr) U U (q:=i) U hlt tu45 ts41) (sFa U tf41_0 (sR (dE (off:=0) U (H.rd hr) hlt hL U U U (by omega) ta3) (sLt U U (sBt U (by simp;omega) (sK (wO U U U U U) U (sK (wO U U U U U) U (sK (wO U U U U U) U (sK (wO U U U U U) U (sK (wO U U U U U) U ?_))))))))))))
   refine sK (wO U U U U U) U (sPT U U (ln (kT U U (kR (sAb U (ln (kx ?_)))))))
   exact qr (v:=.bool _) U U ⟨_,U,vb ((Tx.val_out hx (.inl h1)).symm),H.under⟩
  ·skip
   refine kr (sMs U (sMi U (sR (dG U (H.rd hr) U U (q:=i) U hlt tu45 ts41) (sFa U tf41_0 (sR (dE (off:=0) U (H.rd hr) hlt hL U U U (by omega) ta3) (sLt U U (sBf U (by simp;omega) (sr (w_g U U U U) U (mv_s U U) (sr (w_g U U U U) U (mv_i U U) (sr (w_g U U U U) U (dG U (H.rd hr) U U (q:=i) U hlt tu45 ts41) (sr (w_g U U U U) U (dF U U tf41_0) (sr (w_g U U U U) U (dE (off:=0) U (H.rd hr) hlt hL U U U (by omega) ta3) ?_))))))))))))
   refine sr (w_g U U U U) U (d_gt U U U) (sPF U U (ln (kC U (fun hc24=>?_) (fun hc24=>?_))))
   ·replace hc24:=of_decide_eq_true hc24
    refine kR (sAb U (ln (kx ?_)))
    exact qr (v:=.bool _) U U ⟨_,U,vb ((Tx.val_out hx (.inr (by omega))).symm),H.under⟩
   ·replace hc24:=of_decide_eq_false hc24
    refine kS (kr (sMi U (sMs U (sMi U (sR (dG U (H.rd hr) U U (q:=i) U hlt tu45 ts41) (sFa U tf41_0 (sR (dE (off:=0) U (H.rd hr) hlt hL U U U (by omega) ta3) (sAd U U (by omega) (sAi U (ln (kn (zE ?_))))))))))))
    refine kI U U U (by omega) U (kn (kY ?_))
    have hst:=Tx.sum_step hx
    refine ⟨_,_,_,?_,U,?_,?_,⟨i+1,U,U,by omega,fun o ho=>by
      rw [take_get hx] at ho
      rcases List.mem_append.1 ho with h|h
      ·exact hv o h
      ·obtain rfl:o=x:=by simpa using h
       omega,H⟩⟩
    ·omega
    ·with_reducible repeat first|exact .refl|refine .f ?_ ?_ ?_;kernel_rfl;kernel_rfl|refine .u ?_ ?_;kernel_rfl
    ·refine ⟨?_,?_,trivial⟩
     ·exact vi (by omega)
     ·exact vi (by omega)
 ·replace hc8:=of_decide_eq_false hc8
  refine ke (xQ (xQ ?_))
  refine xH (kQ ?_)
  obtain rfl:i=l.length:=by omega
  rw [List.take_length] at hv ⊢
  refine kr (sMi U (sR (d_le U U U) (sAb U (ln (kx ?_)))))
  exact qr (v:=.bool _) U U ⟨_,U,vb ((Tx.val_sum hv).symm),H.under⟩

theorem longR {S:Nat->Prop} {cs:List Value} {t:DTx} (w:World) (ht:RTx w S cs t):Calls Tryz.prog 102 [.agg cs.toArray].toArray w (Ret (Is w (.bool (Tx.long t)))):=by
 obtain ⟨A,c,B,d,rfl,hI,hO,hk⟩:=tx_of ht
 have hIl:=rl_len hI
 have hOl:=rl_len hO
 have hI0:=hI
 obtain ⟨A_,c_,xs,hv_,_,_,hr,hel⟩:=hI
 cases hv_
 have hO0:=hO
 obtain ⟨A_,c_,ys,hv_,_,_,hs,hes⟩:=hO
 cases hv_
 refine kE (l:=[_]) Tryz.func102 U U ?_
 have H:=St.start nT w
 refine kR (sf (ebx (vs:=(txC A t.ins.length c B t.outs.length d t.lock)) U U H ?_))
 clear H;intro gm W H
 refine sAb U (ln (kQ (kR (sAi U (ln (kb (kL 6 [2,3] (fun mm sl W=>∃i:Nat,t.outs.length - i=mm∧sl=[(3,.int .i64 (i:Int))]∧(i<=t.outs.length)∧((t.outs.take i).any (fun o=>decide (256<o.script.length))=false)∧St nT w W [Fact.blk gm (txC A t.ins.length c B t.outs.length d t.lock) 47]) _ _ ⟨0,U,U,Nat.zero_le _,U,H⟩ ⟨U,trivial⟩ (fun mm sl ρv W hJ=>?_))))))))
 clear H;obtain ⟨i,rfl,rfl,hi_,hno,H⟩:=hJ
 refine ko (kQ (kR (sMi U (sFa U tf47_1 (sR (d_ld U H U ta45 U) (sLn U tu45 (sLt U U (ln (kC U (fun hc10=>?_) (fun hc10=>?_))))))))))
 ·replace hc10:=of_decide_eq_true hc10
  have hlt:i<t.outs.length:=by omega
  obtain ⟨g0,o0,rfl,-⟩:=hs.2 (by omega)
  obtain ⟨x,hx⟩:=get_lt hlt
  obtain ⟨B2,d2,hL,hB,hn⟩:=out_of (hes i x hx)
  refine kS (kQ (kb (kR (sFa U tf47_1 (sR (d_ld U H U ta45 U) (sMi U (sR (dG U (H.rd hs) U U (q:=i) U hlt tu45 ts41) (sFa U tf41_1 (sR (dE (off:=1) U (H.rd hs) hlt hL U U U (by omega) ta23) (sLn U tu23 (sR (d_gt U U U) (ln ?_))))))))))))
  refine kC U (fun hc20=>?_) (fun hc20=>?_)
  ·replace hc20:=of_decide_eq_true hc20
   refine kR (sAb U (ln (kx ?_)))
   exact qr (v:=.bool _) U U ⟨_,U,vb (by unfold Tx.long;rw [any_yes hx (decide_eq_true (by omega))];rfl),H.under⟩
  ·replace hc20:¬256<x.script.length:=by have:=of_decide_eq_false hc20;omega
   refine kS (kn (zE (kI U U U (by omega) U (kn (kY ?_)))))
   refine ⟨_,_,_,?_,U,?_,?_,⟨i+1,U,U,by omega,any_no hx hno (decide_eq_false hc20),H⟩⟩
   ·omega
   ·with_reducible repeat first|exact .refl|refine .f ?_ ?_ ?_;kernel_rfl;kernel_rfl|refine .u ?_ ?_;kernel_rfl
   ·refine ⟨?_,trivial⟩
    ·exact vi (by omega)
 ·replace hc10:=of_decide_eq_false hc10
  obtain rfl:i=t.outs.length:=by omega
  rw [List.take_length] at hno
  refine ke (xQ (xQ ?_))
  refine xH (kQ (kR (sAi U (ln (kb (kL 21 [2,4,5] (fun mm sl W=>∃i:Nat,t.ins.length - i=mm∧sl=[(4,.int .i64 (i:Int))]∧(i<=t.ins.length)∧((t.ins.take i).any Tx.longX=false)∧St nT w W [Fact.blk gm (txC A t.ins.length c B t.outs.length d t.lock) 47]) _ _ ⟨0,U,U,Nat.zero_le _,U,H⟩ ⟨U,trivial⟩ (fun mm sl ρv W hJ=>?_)))))))
  clear H;obtain ⟨i,rfl,rfl,hi_,hni,H⟩:=hJ
  refine ko (kQ (kR (sMi U (sFa U tf47_0 (sR (d_ld U H U ta44 U) (sLn U tu44 (sLt U U (ln (kC U (fun hc25=>?_) (fun hc25=>?_))))))))))
  ·replace hc25:=of_decide_eq_true hc25
   have hlt:i<t.ins.length:=by omega
   obtain ⟨g0,o0,rfl,-⟩:=hr.2 (by omega)
   obtain ⟨x,hx⟩:=get_lt hlt
   obtain ⟨B2,d2,hL,hW,hp,hn⟩:=in_of (hel i x hx)
   have hwl:=rl_len hW
   have hW0:=hW
   obtain ⟨A3_,c3_,zs,hv3_,_,_,hr3,hel3⟩:=hW
   cases hv3_
   refine kS (kQ (kb (kQ (kR (sFa U tf47_0 (sR (d_ld U H U ta44 U) (sMi U (sR (dG U (H.rd hr) U U (q:=i) U hlt tu44 ts71) (sFa U tf71_1 (sR (dE (off:=33) U (H.rd hr) hlt hL (sub_in_w hp) U U (by omega) ta66) (sLn U tu66 (sR (d_gt U U U) ?_))))))))))))
   refine ln (kC U (fun hc35=>?_) (fun hc35=>?_))
   ·replace hc35:=of_decide_eq_true hc35
    refine kR (sAb U (ln (kx ?_)))
    exact qr (v:=.bool _) U U ⟨_,U,vb (by unfold Tx.long;rw [any_yes (f:=Tx.longX) hx (by unfold Tx.longX;rw [decide_eq_true (by omega)];rfl),Bool.or_true]),H.under⟩
   ·replace hc35:=of_decide_eq_false hc35
    refine kS (kR (sAi U (ln (kb (kL 36 [2,5] (fun mm sl W=>∃k:Nat,x.wit.length - k=mm∧sl=[(5,.int .i64 (k:Int))]∧(k<=x.wit.length)∧((x.wit.take k).any (fun b=>decide (64<b.length))=false)∧St nT w W [Fact.blk gm (txC (some ⟨g0,o0,none⟩) t.ins.length c B t.outs.length d t.lock) 47]) _ _ ⟨0,U,U,Nat.zero_le _,U,H⟩ ⟨U,trivial⟩ (fun mm sl ρv W hJ=>?_))))))
    clear H;obtain ⟨k,rfl,rfl,hk_,hnw,H⟩:=hJ
    refine ko (kQ (kR (sMi U (sFa U tf47_0 (sR (d_ld U H U ta44 U) (sMi U (sR (dG U (H.rd hr) U U (q:=i) U hlt tu44 ts71) (sFa U tf71_1 (sR (dE (off:=33) U (H.rd hr) hlt hL (sub_in_w hp) U U (by omega) ta66) (sLn U tu66 (sLt U U (ln ?_))))))))))))
    refine kC U (fun hc44=>?_) (fun hc44=>?_)
    ·replace hc44:=of_decide_eq_true hc44
     have hltk:k<x.wit.length:=by omega
     obtain ⟨g3,o3,rfl,-⟩:=hr3.2 (by omega)
     obtain ⟨y,hy⟩:=get_lt hltk
     obtain ⟨B4,d4,hL3,hB4⟩:=rb_of (hel3 k y hy)
     refine kS (kQ (kb (kR (sFa U tf47_0 (sR (d_ld U H U ta44 U) (sMi U (sR (dG U (H.rd hr) U U (q:=i) U hlt tu44 ts71) (sFa U tf71_1 (sR (dE (off:=33) U (H.rd hr) hlt hL (sub_in_w hp) U U (by omega) ta66) (sMi U (sR (dG U (H.rd hr3) U U (q:=k) U hltk tu66 ts23) (sR (dE (off:=0) U (H.rd hr3) hltk hL3 U U U (by omega) ta23) ?_))))))))))))
     refine sLn U tu23 (sR (d_gt U U U) (ln (kC U (fun hc57=>?_) (fun hc57=>?_))))
     ·replace hc57:=of_decide_eq_true hc57
      refine kR (sAb U (ln (kx ?_)))
      exact qr (v:=.bool _) U U ⟨_,U,vb (by unfold Tx.long;rw [any_yes (f:=Tx.longX) hx (by unfold Tx.longX;rw [any_yes hy (decide_eq_true (by omega)),Bool.or_true]),Bool.or_true]),H.under⟩
     ·replace hc57:¬64<y.length:=by have:=of_decide_eq_false hc57;omega
      refine kS (kn (zE (kI U U U (by omega) U (kn (kY ?_)))))
      refine ⟨_,_,_,?_,U,?_,?_,⟨k+1,U,U,by omega,any_no hy hnw (decide_eq_false hc57),H⟩⟩
      ·omega
      ·with_reducible repeat first|exact .refl|refine .f ?_ ?_ ?_;kernel_rfl;kernel_rfl|refine .u ?_ ?_;kernel_rfl
      ·refine ⟨?_,trivial⟩
       ·exact vi (by omega)
    ·replace hc44:=of_decide_eq_false hc44
     refine ke (xQ (xQ ?_))
     refine xH (kn (zE (kI U U U (by omega) U (kn (kY ?_)))))
     obtain rfl:k=x.wit.length:=by omega
     rw [List.take_length] at hnw
     refine ⟨_,_,_,?_,U,?_,?_,⟨i+1,U,U,by omega,any_no hx hni (by unfold Tx.longX;rw [hnw,decide_eq_false (by omega)];rfl),H⟩⟩
     ·omega
     ·with_reducible repeat first|exact .refl|refine .f ?_ ?_ ?_;kernel_rfl;kernel_rfl|refine .u ?_ ?_;kernel_rfl
     ·refine ⟨?_,trivial⟩
      ·exact vi (by omega)
  ·replace hc25:=of_decide_eq_false hc25
   refine ke (xQ (xQ ?_))
   refine xH (kQ ?_)
   obtain rfl:i=t.ins.length:=by omega
   rw [List.take_length] at hni
   refine kr (sAb U (ln (kx ?_)))
   exact qr (v:=.bool _) U U ⟨_,U,vb (by unfold Tx.long;rw [hno,hni];rfl),H.under⟩

theorem checkTR {S:Nat->Prop} {cs:List Value} {t:DTx} (w:World) (ht:RTx w S cs t):Calls Tryz.prog 80 [.agg cs.toArray].toArray w (Ret (Is w (.int .i64 (Tx.chk t)))):=by
 obtain ⟨A,c,B,d,rfl,hI,hO,hk⟩:=tx_of ht
 have hIl:=rl_len hI
 have hOl:=rl_len hO
 have hI0:=hI
 obtain ⟨A_,c_,xs,hv_,_,_,hr,hel⟩:=hI
 cases hv_
 have hO0:=hO
 obtain ⟨A_,c_,ys,hv_,_,_,hs,hes⟩:=hO
 cases hv_
 refine kE (l:=[_]) Tryz.func80 U U ?_
 have H:=St.start nT w
 refine kR (sf (ebx (vs:=(txC A t.ins.length c B t.outs.length d t.lock)) U U H ?_))
 clear H;intro gm W H
 refine sAi U (ln (kQ (kQ ?_)))
 rcases (show t.ins.length<1∨8<t.ins.length∨(1<=t.ins.length∧t.ins.length<=8∧t.outs.length<1)∨(1<=t.ins.length∧t.ins.length<=8∧8<t.outs.length)∨(1<=t.ins.length∧t.ins.length<=8∧1<=t.outs.length∧t.outs.length<=8) by omega) with h1|h1|h1|h1|h1
 ·skip
  refine kr (sFa U tf47_0 (sR (d_ld U H U ta44 U) (sLn U tu44 (sLt U U (sBt U (by simp;omega) (sK (wO U U U U U) U (sK (wO U U U U U) U (sK (wO U U U U U) U (sK (wO U U U U U) U (sPT U U (sBt U (by first|rfl|(simp;omega)) ?_)))))))))))
  refine sK (wO U U U U U) U (sK (wO U U U U U) U (sK (wO U U U U U) U (sK (wO U U U U U) U (sPT U U (sBt U (by first|rfl|(simp;omega)) ?_)))))
  refine sK (wO U U U U U) U (sK (wO U U U U U) U (sK (wO U U U U U) U (sK (wO U U U U U) U (sPT U U (ln (kT U (by first|rfl|(simp;omega)) ?_))))))
  refine kR (sAi U (ln (kx ?_)))
  exact qr (v:=.int _ _) U U ⟨_,U,vi (by unfold Tx.chk;rw [if_pos (by omega)]),H.under⟩
 ·skip
  refine kr (sFa U tf47_0 (sR (d_ld U H U ta44 U) (sLn U tu44 (sLt U U (sBf U (by simp;omega) (sr (w_g U U U U) U (dF U U tf47_0) (sr (w_g U U U U) U (d_ld U H U ta44 U) (sr (w_g U U U U) U (d_len U U tu44) (sr (w_g U U U U) U (d_gt U U U) (sPF U U (sBt U (by first|rfl|(simp;omega)) ?_)))))))))))
  refine sK (wO U U U U U) U (sK (wO U U U U U) U (sK (wO U U U U U) U (sK (wO U U U U U) U (sPT U U (sBt U (by first|rfl|(simp;omega)) ?_)))))
  refine sK (wO U U U U U) U (sK (wO U U U U U) U (sK (wO U U U U U) U (sK (wO U U U U U) U (sPT U U (ln (kT U (by first|rfl|(simp;omega)) ?_))))))
  refine kR (sAi U (ln (kx ?_)))
  exact qr (v:=.int _ _) U U ⟨_,U,vi (by unfold Tx.chk;rw [if_pos (by omega)]),H.under⟩
 ·skip
  refine kr (sFa U tf47_0 (sR (d_ld U H U ta44 U) (sLn U tu44 (sLt U U (sBf U (by simp;omega) (sr (w_g U U U U) U (dF U U tf47_0) (sr (w_g U U U U) U (d_ld U H U ta44 U) (sr (w_g U U U U) U (d_len U U tu44) (sr (w_g U U U U) U (d_gt U U U) (sPF U U (sBf U (by first|rfl|(simp;omega)) ?_)))))))))))
  refine sr (w_g U U U U) U (dF U U tf47_1) (sr (w_g U U U U) U (d_ld U H U ta45 U) (sr (w_g U U U U) U (d_len U U tu45) (sr (w_g U U U U) U (d_lt U U U) (sPF U U (sBt U (by first|rfl|(simp;omega)) ?_)))))
  refine sK (wO U U U U U) U (sK (wO U U U U U) U (sK (wO U U U U U) U (sK (wO U U U U U) U (sPT U U (ln (kT U (by first|rfl|(simp;omega)) ?_))))))
  refine kR (sAi U (ln (kx ?_)))
  exact qr (v:=.int _ _) U U ⟨_,U,vi (by unfold Tx.chk;rw [if_pos (by omega)]),H.under⟩
 ·skip
  refine kr (sFa U tf47_0 (sR (d_ld U H U ta44 U) (sLn U tu44 (sLt U U (sBf U (by simp;omega) (sr (w_g U U U U) U (dF U U tf47_0) (sr (w_g U U U U) U (d_ld U H U ta44 U) (sr (w_g U U U U) U (d_len U U tu44) (sr (w_g U U U U) U (d_gt U U U) (sPF U U (sBf U (by first|rfl|(simp;omega)) ?_)))))))))))
  refine sr (w_g U U U U) U (dF U U tf47_1) (sr (w_g U U U U) U (d_ld U H U ta45 U) (sr (w_g U U U U) U (d_len U U tu45) (sr (w_g U U U U) U (d_lt U U U) (sPF U U (sBf U (by first|rfl|(simp;omega)) ?_)))))
  refine sr (w_g U U U U) U (dF U U tf47_1) (sr (w_g U U U U) U (d_ld U H U ta45 U) (sr (w_g U U U U) U (d_len U U tu45) (sr (w_g U U U U) U (d_gt U U U) (sPF U U (ln (kT U (by first|rfl|(simp;omega)) ?_))))))
  refine kR (sAi U (ln (kx ?_)))
  exact qr (v:=.int _ _) U U ⟨_,U,vi (by unfold Tx.chk;rw [if_pos (by omega)]),H.under⟩
 ·skip
  refine kr (sFa U tf47_0 (sR (d_ld U H U ta44 U) (sLn U tu44 (sLt U U (sBf U (by simp;omega) (sr (w_g U U U U) U (dF U U tf47_0) (sr (w_g U U U U) U (d_ld U H U ta44 U) (sr (w_g U U U U) U (d_len U U tu44) (sr (w_g U U U U) U (d_gt U U U) (sPF U U (sBf U (by first|rfl|(simp;omega)) ?_)))))))))))
  refine sr (w_g U U U U) U (dF U U tf47_1) (sr (w_g U U U U) U (d_ld U H U ta45 U) (sr (w_g U U U U) U (d_len U U tu45) (sr (w_g U U U U) U (d_lt U U U) (sPF U U (sBf U (by first|rfl|(simp;omega)) ?_)))))
  refine sr (w_g U U U U) U (dF U U tf47_1) (sr (w_g U U U U) U (d_ld U H U ta45 U) (sr (w_g U U U U) U (d_len U U tu45) (sr (w_g U U U U) U (d_gt U U U) (sPF U U (ln (kF U (by first|rfl|(simp;omega)) ?_))))))
  refine kS (kQ (kR (sAi U (ln (kb (kL 26 [2,3] (fun mm sl W=>∃i:Nat,t.ins.length - i=mm∧sl=[(3,.int .i64 (i:Int))]∧(i<=t.ins.length)∧((t.ins.take i).any Tx.far=false)∧St nT w W [Fact.blk gm (txC A t.ins.length c B t.outs.length d t.lock) 47]) _ _ ⟨0,U,U,Nat.zero_le _,U,H⟩ ⟨U,trivial⟩ (fun mm sl ρv W hJ=>?_)))))))
  clear H;obtain ⟨i,rfl,rfl,hi_,hno,H⟩:=hJ
  refine ko (kQ (kR (sMi U (sFa U tf47_0 (sR (d_ld U H U ta44 U) (sLn U tu44 (sLt U U (ln (kC U (fun hc30=>?_) (fun hc30=>?_))))))))))
  ·replace hc30:=of_decide_eq_true hc30
   have hlt:i<t.ins.length:=by omega
   obtain ⟨g0,o0,rfl,-⟩:=hr.2 (by omega)
   obtain ⟨x,hx⟩:=get_lt hlt
   obtain ⟨B2,d2,hL,hW,hp,hn⟩:=in_of (hel i x hx)
   refine kS (kQ (kb (kQ ?_)))
   rcases Int.lt_or_le x.point.n 0 with h2|h2
   ·skip
    refine kr (sFa U tf47_0 (sR (d_ld U H U ta44 U) (sMi U (sR (dG U (H.rd hr) U U (q:=i) U hlt tu44 ts71) (sFa U tf71_0 (sFa U tf27_1 (sR (dE (off:=32) U (H.rd hr) hlt hL (sub_in_n hp) U U (by omega) ta3) (sLt U U (sBt U (by simp;omega) (sK (wO U U U U U) U (sK (wO U U U U U) U (sK (wO U U U U U) U ?_))))))))))))
    refine sK (wO U U U U U) U (sK (wO U U U U U) U (sK (wO U U U U U) U (sK (wO U U U U U) U (sK (wO U U U U U) U (sPT U U (ln (kT U U (kR (sAi U (ln (kx ?_)))))))))))
    exact qr (v:=.int _ _) U U ⟨_,U,vi (by unfold Tx.chk;rw [if_neg (show ¬(t.ins.length<1∨8<t.ins.length∨t.outs.length<1∨8<t.outs.length) by omega),if_pos (.inl (any_yes hx (by unfold Tx.far;simp;omega)))]),H.under⟩
   ·skip
    refine kr (sFa U tf47_0 (sR (d_ld U H U ta44 U) (sMi U (sR (dG U (H.rd hr) U U (q:=i) U hlt tu44 ts71) (sFa U tf71_0 (sFa U tf27_1 (sR (dE (off:=32) U (H.rd hr) hlt hL (sub_in_n hp) U U (by omega) ta3) (sLt U U (sBf U (by simp;omega) (sr (w_g U U U U) U (dF U U tf47_0) (sr (w_g U U U U) U (d_ld U H U ta44 U) (sr (w_g U U U U) U (mv_i U U) ?_))))))))))))
    refine sr (w_g U U U U) U (dG U (H.rd hr) U U (q:=i) U hlt tu44 ts71) (sr (w_g U U U U) U (dF U U tf71_0) (sr (w_g U U U U) U (dF U U tf27_1) (sr (w_g U U U U) U (dE (off:=32) U (H.rd hr) hlt hL (sub_in_n hp) U U (by omega) ta3) (sr (w_g U U U U) U (d_gt U U U) (sPF U U (ln (kC U (fun hc50=>?_) (fun hc50=>?_))))))))
    ·replace hc50:=of_decide_eq_true hc50
     refine kR (sAi U (ln (kx ?_)))
     exact qr (v:=.int _ _) U U ⟨_,U,vi (by unfold Tx.chk;rw [if_neg (show ¬(t.ins.length<1∨8<t.ins.length∨t.outs.length<1∨8<t.outs.length) by omega),if_pos (.inl (any_yes hx (by unfold Tx.far;simp;omega)))]),H.under⟩
    ·replace hc50:¬x.point.n>8:=of_decide_eq_false hc50
     refine kS (kn (zE (kI U U U (by omega) U (kn (kY ?_)))))
     refine ⟨_,_,_,?_,U,?_,?_,⟨i+1,U,U,by omega,any_no hx hno (by unfold Tx.far;simp;omega),H⟩⟩
     ·omega
     ·with_reducible repeat first|exact .refl|refine .f ?_ ?_ ?_;kernel_rfl;kernel_rfl|refine .u ?_ ?_;kernel_rfl
     ·refine ⟨?_,trivial⟩
      ·exact vi (by omega)
  ·replace hc30:=of_decide_eq_false hc30
   obtain rfl:i=t.ins.length:=by omega
   rw [List.take_length] at hno
   have hf:=hno
   refine ke (xQ (xQ ?_))
   refine xH (kQ (kQ ?_))
   rcases Int.lt_or_le t.lock 0 with h3|h3
   ·skip
    refine kr (sFa U tf47_2 (sR (d_ld U H U ta3 U) (sLt U U (sBt U (by simp;omega) (sK (wO U U U U U) U (sK (wO U U U U U) U (sK (wO U U U U U) U (sPT U U (ln (kT U U (kR (sAi U ?_))))))))))))
    refine ln (kx ?_)
    exact qr (v:=.int _ _) U U ⟨_,U,vi (by unfold Tx.chk;rw [if_neg (show ¬(t.ins.length<1∨8<t.ins.length∨t.outs.length<1∨8<t.outs.length) by omega),if_pos (by omega)]),H.under⟩
   ·skip
    refine kr (sFa U tf47_2 (sR (d_ld U H U ta3 U) (sLt U U (sBf U (by simp;omega) (sr (w_g U U U U) U (dF U U tf47_2) (sr (w_g U U U U) U (d_ld U H U ta3 U) (sr (w_g U U U U) U (d_gt U U U) (sPF U U (ln (kC U (fun hc58=>?_) (fun hc58=>?_)))))))))))
    ·replace hc58:=of_decide_eq_true hc58
     refine kR (sAi U (ln (kx ?_)))
     exact qr (v:=.int _ _) U U ⟨_,U,vi (by unfold Tx.chk;rw [if_neg (show ¬(t.ins.length<1∨8<t.ins.length∨t.outs.length<1∨8<t.outs.length) by omega),if_pos (by omega)]),H.under⟩
    ·replace hc58:=of_decide_eq_false hc58
     refine kS (kQ (kR (sFa U tf47_0 (sR (d_ld U H U ta44 U) (sf (eI Tryz.func100 U U (twiceR _ (keeps_L keeps_In _ _ _ _ _ hI0 (fun g hg _=>H.fr.block g hg (fun h=>h)))) H ?_))))))
     clear H;intro W H
     refine ln (kC U (fun hc61=>?_) (fun hc61=>?_))
     ·have htw:Tx.twice (t.ins.map (·.point))=true:=hc61
      refine kR (sAi U (ln (kx ?_)))
      exact qr (v:=.int _ _) U U ⟨_,U,vi (by unfold Tx.chk;rw [if_neg (show ¬(t.ins.length<1∨8<t.ins.length∨t.outs.length<1∨8<t.outs.length) by omega),if_neg (show ¬(t.ins.any Tx.far=true∨t.lock<0∨1073741824<t.lock) by rw [hf];simp;omega),if_pos htw]),H.under⟩
     ·have htw:Tx.twice (t.ins.map (·.point))=false:=hc61
      refine kS (kQ (kR (sFa U tf47_1 (sR (d_ld U H U ta45 U) (sf (eI Tryz.func101 U U (rangedR _ (keeps_L keeps_Out _ _ _ _ _ hO0 (fun g hg _=>H.fr.block g hg (fun h=>h))) (by omega)) H ?_))))))
      clear H;intro W H
      refine sR (d_not U U) (ln (kC U (fun hc65=>?_) (fun hc65=>?_)))
      ·have hvo:Tx.valOk t.outs=false:=by simpa using hc65
       refine kR (sAi U (ln (kx ?_)))
       exact qr (v:=.int _ _) U U ⟨_,U,vi (by unfold Tx.chk;rw [if_neg (show ¬(t.ins.length<1∨8<t.ins.length∨t.outs.length<1∨8<t.outs.length) by omega),if_neg (show ¬(t.ins.any Tx.far=true∨t.lock<0∨1073741824<t.lock) by rw [hf];simp;omega),if_neg (show ¬Tx.twice (t.ins.map (·.point))=true by rw [htw];simp),if_pos hvo]),H.under⟩
      ·have hvo:Tx.valOk t.outs=true:=by simpa using hc65
       refine kS (kQ (kR (sR (dM (g:=gm) (off:=0) U H (sa (a:=txC A t.ins.length c B t.outs.length d t.lock) (m:=3) U) U U U U ta47 ts47) (sf (eI Tryz.func102 U U (longR _ (keeps_Tx _ _ _ _ _ ht (fun g hg _=>H.fr.block g hg (fun h=>h)))) H ?_)))))
       clear H;intro W H
       refine ln (kC U (fun hc67=>?_) (fun hc67=>?_))
       ·skip
        refine kR (sAi U (ln (kx ?_)))
        exact qr (v:=.int _ _) U U ⟨_,U,vi (by unfold Tx.chk;rw [if_neg (show ¬(t.ins.length<1∨8<t.ins.length∨t.outs.length<1∨8<t.outs.length) by omega),if_neg (show ¬(t.ins.any Tx.far=true∨t.lock<0∨1073741824<t.lock) by rw [hf];simp;omega),if_neg (show ¬Tx.twice (t.ins.map (·.point))=true by rw [htw];simp),if_neg (show ¬Tx.valOk t.outs=false by rw [hvo];simp),if_pos hc67]),H.under⟩
       ·skip
        refine kS (kR (sAi U (ln (kx ?_))))
        exact qr (v:=.int _ _) U U ⟨_,U,vi (by unfold Tx.chk;rw [if_neg (show ¬(t.ins.length<1∨8<t.ins.length∨t.outs.length<1∨8<t.outs.length) by omega),if_neg (show ¬(t.ins.any Tx.far=true∨t.lock<0∨1073741824<t.lock) by rw [hf];simp;omega),if_neg (show ¬Tx.twice (t.ins.map (·.point))=true by rw [htw];simp),if_neg (show ¬Tx.valOk t.outs=false by rw [hvo];simp),if_neg (by rw [hc67];simp)]),H.under⟩

theorem bareTR {S:Nat->Prop} {cs:List Value} {t:DTx} (w:World) (ht:RTx w S cs t):Calls Tryz.prog 66 [.agg cs.toArray].toArray w (Ret (fun v w'=>∃x,v=.tuple #[x,.int .i64 (Tx.chk t)]∧NewB 5 w (Tx.bare t) x w')):=by
 obtain ⟨A,c,B,d,rfl,hI,hO,hk⟩:=tx_of ht
 have hIl:=rl_len hI
 have hOl:=rl_len hO
 have hI0:=hI
 obtain ⟨A_,c_,xs,hv_,_,_,hr,hel⟩:=hI
 cases hv_
 have hO0:=hO
 obtain ⟨A_,c_,ys,hv_,_,_,hs,hes⟩:=hO
 cases hv_
 have hok:=tx_ok ht
 refine kE (l:=[_]) Tryz.func66 U U ?_
 have H:=St.start nT w
 refine kR (sf (ebx (vs:=(txC A t.ins.length c B t.outs.length d t.lock)) U U H ?_))
 clear H;intro gm W H
 refine sAs U (sAi U (lkR (sR (dM (g:=gm) (off:=0) U H (sa (a:=txC A t.ins.length c B t.outs.length d t.lock) (m:=3) U) U U U U ta47 ts47) (sf (eI Tryz.func80 U U (checkTR _ (keeps_Tx _ _ _ _ _ ht (fun g hg _=>H.fr.block g hg (fun h=>h)))) H ?_)))))
 clear H;intro W H
 refine sAi U (ln (kQ (kR (sMi U (sNe U U (ln (kC U (fun hc11=>?_) (fun hc11=>?_))))))))
 ·have hne:¬Tx.chk t=0:=by simpa using hc11
  refine kR (sMi U (sAs U (sAi U (ln (kx ?_)))))
  have hp0:Tx.bare t=[]:=by unfold Tx.bare;rw [if_neg hne]
  rw [hp0]
  replace H:=H.nilrow 5 1
  exact q_ret2 (v:=.slice _ _ _) (x:=.int _ _) U U U ⟨_,U,_,U,H.newB (l:=[]) U U (Nat.le_refl _) (by omega)⟩
 ·have hne:Tx.chk t=0:=by simpa using hc11
  have hch:=Tx.chk_of hne
  obtain ⟨q1,q2,q3,q4,q5,q6,q7,q8⟩:=hch
  have w1:=Pk.len_int (Pk.toU (t.ins.length:Int))
  have w2:=Pk.len_int (Pk.toU (t.outs.length:Int))
  have w4:=len_flat_le (f:=Tx.encI) (k:=41) (l:=t.ins) (fun x hx=>Tx.len_encP (hok.1 x hx).1)
  have w5:=len_flat_le (f:=Tx.encO) (k:=274) (l:=t.outs) (fun x hx=>Tx.len_encO (q7 x hx))
  refine kS (kR (sFa U tf47_0 (sR (d_ld U H U ta44 U) (sLn U tu44 (sf (eN Tryz.func81 U U (refInt (S:=(0<=·)) (b:=[]) (t.ins.length:Int) _ Bs.nil (by omega) (by simp)) H ?_))))))
  clear H;intro A1 c1 W hc1 hd1 H
  have e0:([]:List UInt8)++Pk.int (Pk.toU (t.ins.length:Int))=((([]:List UInt8)++Pk.int (Pk.toU (t.ins.length:Int)))++((t.ins.take 0).map Tx.encI).flatten):=by simp
  rw [e0] at hc1 H
  refine sAs U (ln (kQ (kR (sAi U (ln (kb (kL 17 [5,6] (fun mm sl W=>∃i:Nat,∃A2:Option Addr,∃d2:Nat,t.ins.length - i=mm∧sl=[(6,.int .i64 (i:Int)),(5,.slice A2 ((([]:List UInt8)++Pk.int (Pk.toU (t.ins.length:Int)))++((t.ins.take i).map Tx.encI).flatten).length d2)]∧(i<=t.ins.length)∧(((([]:List UInt8)++Pk.int (Pk.toU (t.ins.length:Int)))++((t.ins.take i).map Tx.encI).flatten).length<=d2∧d2<=9223372036854775807)∧St nT w W [Fact.row 5 1 (.slice A2 ((([]:List UInt8)++Pk.int (Pk.toU (t.ins.length:Int)))++((t.ins.take i).map Tx.encI).flatten).length d2) ((([]:List UInt8)++Pk.int (Pk.toU (t.ins.length:Int)))++((t.ins.take i).map Tx.encI).flatten).length (((([]:List UInt8)++Pk.int (Pk.toU (t.ins.length:Int)))++((t.ins.take i).map Tx.encI).flatten).map u8v),Fact.blk gm (txC A t.ins.length c B t.outs.length d t.lock) 47]) _ _ ⟨0,A1,c1,U,U,Nat.zero_le _,⟨hc1,hd1⟩,H⟩ ⟨U,sl_eq (congrArg List.length e0),trivial⟩ (fun mm sl ρv W hJ=>?_))))))))
  clear H;obtain ⟨i,A2,d2,rfl,rfl,hi,hd,H⟩:=hJ
  refine ko (kQ (kR (sMi U (sFa U tf47_0 (sR (d_ld U H U ta44 U) (sLn U tu44 (sLt U U (ln (kC U (fun hc21=>?_) (fun hc21=>?_))))))))))
  ·replace hc21:=of_decide_eq_true hc21
   have hlt:i<t.ins.length:=by omega
   obtain ⟨g0,o0,rfl,-⟩:=hr.2 (by omega)
   obtain ⟨x,hx⟩:=get_lt hlt
   obtain ⟨B3,d3,hL,hW,hp,hn⟩:=in_of (hel i x hx)
   have hfl:=len_take_flat (f:=Tx.encI) (k:=41) (fun y hy=>Tx.len_encP (hok.1 y hy).1) hi
   have hA:((([]:List UInt8)++Pk.int (Pk.toU (t.ins.length:Int)))++((t.ins.take i).map Tx.encI).flatten).length<=10000:=by rw [List.length_append,List.nil_append];omega
   refine kS (kQ (kb (kR (sMs U (sFa U tf47_0 (sR (d_ld U H U ta44 U) (sMi U (sR (dG U (H.rd hr) U U (q:=i) U hlt tu44 ts71) (sFa U tf71_0 (sFa U tf27_0 (sR (dN (off:=0) U (H.rd hr) hlt hL (sub_in_tx hp) U U (by omega) ta25 ts25) (sf (eN Tryz.func82 U U (refHash (b:=((([]:List UInt8)++Pk.int (Pk.toU (t.ins.length:Int)))++((t.ins.take i).map Tx.encI).flatten)) (h:=x.point.tx) _ (H.rowbs (A:=A2) U) (by omega) hp) H ?_)))))))))))))
   clear H;intro A8 c8 W hc8 hd8 H
   refine sAs U (ln (kr (sMs U (sFa U tf47_0 (sR (d_ld U H U ta44 U) (sMi U (sR (dG U (H.rd hr) U U (q:=i) U hlt tu44 ts71) (sFa U tf71_0 (sFa U tf27_1 (sR (dE (off:=32) U (H.rd hr) hlt hL (sub_in_n hp) U U (by omega) ta3) (sf (eN Tryz.func81 U U (refInt (b:=((([]:List UInt8)++Pk.int (Pk.toU (t.ins.length:Int)))++((t.ins.take i).map Tx.encI).flatten)++x.point.tx) x.point.n _ (H.rowbs (A:=A8) U) hn (by rw [List.length_append];omega)) H ?_))))))))))))
   clear H;intro A9 c9 W hc9 hd9 H
   refine sAs U (ln (kn (zE (kI U U U (by omega) U (kn (kY ?_))))))
   have he:((([]:List UInt8)++Pk.int (Pk.toU (t.ins.length:Int)))++((t.ins.take (i+1)).map Tx.encI).flatten)=((([]:List UInt8)++Pk.int (Pk.toU (t.ins.length:Int)))++((t.ins.take i).map Tx.encI).flatten)++Tx.encI x:=by rw [flat_at hx];simp only [List.append_assoc]
   have he2:(((([]:List UInt8)++Pk.int (Pk.toU (t.ins.length:Int)))++((t.ins.take i).map Tx.encI).flatten)++x.point.tx)++Pk.int (Pk.toU x.point.n)=((([]:List UInt8)++Pk.int (Pk.toU (t.ins.length:Int)))++((t.ins.take i).map Tx.encI).flatten)++Tx.encI x:=by unfold Tx.encI Tx.encP;rw [List.append_assoc]
   refine ⟨_,_,_,?_,U,?_,?_,⟨i+1,A9,c9,U,U,by omega,⟨by rw [he,←he2];exact hc9,hd9⟩,by rw [he,←he2];exact H.sub (by repeat (first|exact .refl _|exact List.nil_sublist _|refine .cons_cons _ ?_|refine .cons _ ?_))⟩⟩
   ·omega
   ·with_reducible repeat first|exact .refl|refine .f ?_ ?_ ?_;kernel_rfl;kernel_rfl|refine .u ?_ ?_;kernel_rfl
   ·refine ⟨?_,?_,trivial⟩
    ·exact vi (by omega)
    ·exact sl_eq (by rw [he,←he2])
  ·replace hc21:=of_decide_eq_false hc21
   obtain rfl:i=t.ins.length:=by omega
   rw [List.take_length] at hd H ⊢
   refine ke (xQ (xQ ?_))
   refine xH (kR (sMs U (sFa U tf47_1 (sR (d_ld U H U ta45 U) (sLn U tu45 (sf (eN Tryz.func81 U U (refInt (b:=((([]:List UInt8)++Pk.int (Pk.toU (t.ins.length:Int)))++(t.ins.map Tx.encI).flatten)) (t.outs.length:Int) _ (H.rowbs (A:=A2) U) (by omega) (by rw [List.length_append,List.nil_append];omega)) H ?_)))))))
   clear H;intro A3 c3 W hc3 hd3 H
   have f0:((([]:List UInt8)++Pk.int (Pk.toU (t.ins.length:Int)))++(t.ins.map Tx.encI).flatten)++Pk.int (Pk.toU (t.outs.length:Int))=((((([]:List UInt8)++Pk.int (Pk.toU (t.ins.length:Int)))++(t.ins.map Tx.encI).flatten)++Pk.int (Pk.toU (t.outs.length:Int)))++((t.outs.take 0).map Tx.encO).flatten):=by simp
   rw [f0] at hc3 H
   refine sAs U (ln (kQ (kR (sAi U (ln (kb (kL 47 [5,7] (fun mm sl W=>∃i:Nat,∃A2:Option Addr,∃d2:Nat,t.outs.length - i=mm∧sl=[(7,.int .i64 (i:Int)),(5,.slice A2 ((((([]:List UInt8)++Pk.int (Pk.toU (t.ins.length:Int)))++(t.ins.map Tx.encI).flatten)++Pk.int (Pk.toU (t.outs.length:Int)))++((t.outs.take i).map Tx.encO).flatten).length d2)]∧(i<=t.outs.length)∧(((((([]:List UInt8)++Pk.int (Pk.toU (t.ins.length:Int)))++(t.ins.map Tx.encI).flatten)++Pk.int (Pk.toU (t.outs.length:Int)))++((t.outs.take i).map Tx.encO).flatten).length<=d2∧d2<=9223372036854775807)∧St nT w W [Fact.row 5 1 (.slice A2 ((((([]:List UInt8)++Pk.int (Pk.toU (t.ins.length:Int)))++(t.ins.map Tx.encI).flatten)++Pk.int (Pk.toU (t.outs.length:Int)))++((t.outs.take i).map Tx.encO).flatten).length d2) ((((([]:List UInt8)++Pk.int (Pk.toU (t.ins.length:Int)))++(t.ins.map Tx.encI).flatten)++Pk.int (Pk.toU (t.outs.length:Int)))++((t.outs.take i).map Tx.encO).flatten).length (((((([]:List UInt8)++Pk.int (Pk.toU (t.ins.length:Int)))++(t.ins.map Tx.encI).flatten)++Pk.int (Pk.toU (t.outs.length:Int)))++((t.outs.take i).map Tx.encO).flatten).map u8v),Fact.blk gm (txC A t.ins.length c B t.outs.length d t.lock) 47]) _ _ ⟨0,A3,c3,U,U,Nat.zero_le _,⟨hc3,hd3⟩,H.sb⟩ ⟨U,sl_eq (congrArg List.length f0),trivial⟩ (fun mm sl ρv W hJ=>?_))))))))
   clear H;obtain ⟨i,A2,d2,rfl,rfl,hi,hd,H⟩:=hJ
   refine ko (kQ (kR (sMi U (sFa U tf47_1 (sR (d_ld U H U ta45 U) (sLn U tu45 (sLt U U (ln (kC U (fun hc51=>?_) (fun hc51=>?_))))))))))
   ·replace hc51:=of_decide_eq_true hc51
    have hlt:i<t.outs.length:=by omega
    obtain ⟨g0,o0,rfl,-⟩:=hs.2 (by omega)
    obtain ⟨x,hx⟩:=get_lt hlt
    obtain ⟨B3,d3,hL,hB,hn⟩:=out_of (hes i x hx)
    have hq7:=q7 x (List.mem_of_getElem? hx)
    have hfl:=len_take_flat (f:=Tx.encO) (k:=274) (fun y hy=>Tx.len_encO (q7 y hy)) hi
    have hA:((((([]:List UInt8)++Pk.int (Pk.toU (t.ins.length:Int)))++(t.ins.map Tx.encI).flatten)++Pk.int (Pk.toU (t.outs.length:Int)))++((t.outs.take i).map Tx.encO).flatten).length<=10000:=by rw [List.length_append,List.length_append,List.length_append,List.nil_append];omega
    refine kS (kQ (kb (kR (sMs U (sFa U tf47_1 (sR (d_ld U H U ta45 U) (sMi U (sR (dG U (H.rd hs) U U (q:=i) U hlt tu45 ts41) (sFa U tf41_0 (sR (dE (off:=0) U (H.rd hs) hlt hL U U U (by omega) ta3) (sf (eN Tryz.func81 U U (refInt (b:=((((([]:List UInt8)++Pk.int (Pk.toU (t.ins.length:Int)))++(t.ins.map Tx.encI).flatten)++Pk.int (Pk.toU (t.outs.length:Int)))++((t.outs.take i).map Tx.encO).flatten)) x.value _ (H.rowbs (A:=A2) U) hn (by omega)) H ?_))))))))))))
    clear H;intro A8 c8 W hc8 hd8 H
    refine sAs U (ln (kr (sMs U (sFa U tf47_1 (sR (d_ld U H U ta45 U) (sMi U (sR (dG U (H.rd hs) U U (q:=i) U hlt tu45 ts41) (sFa U tf41_1 (sR (dE (off:=1) U (H.rd hs) hlt hL U U U (by omega) ta23) (sf (eN Tryz.func83 U U (refBlob (b:=((((([]:List UInt8)++Pk.int (Pk.toU (t.ins.length:Int)))++(t.ins.map Tx.encI).flatten)++Pk.int (Pk.toU (t.outs.length:Int)))++((t.outs.take i).map Tx.encO).flatten)++Pk.int (Pk.toU x.value)) (p:=x.script) _ (H.rowbs (A:=A8) U) (by have:=Pk.len_int (Pk.toU x.value);rw [List.length_append];omega) (H.bs hB) (by omega)) H ?_)))))))))))
    clear H;intro A9 c9 W hc9 hd9 H
    refine sAs U (ln (kn (zE (kI U U U (by omega) U (kn (kY ?_))))))
    have he:((((([]:List UInt8)++Pk.int (Pk.toU (t.ins.length:Int)))++(t.ins.map Tx.encI).flatten)++Pk.int (Pk.toU (t.outs.length:Int)))++((t.outs.take (i+1)).map Tx.encO).flatten)=((((([]:List UInt8)++Pk.int (Pk.toU (t.ins.length:Int)))++(t.ins.map Tx.encI).flatten)++Pk.int (Pk.toU (t.outs.length:Int)))++((t.outs.take i).map Tx.encO).flatten)++Tx.encO x:=by rw [flat_at hx];simp only [List.append_assoc]
    have he2:(((((([]:List UInt8)++Pk.int (Pk.toU (t.ins.length:Int)))++(t.ins.map Tx.encI).flatten)++Pk.int (Pk.toU (t.outs.length:Int)))++((t.outs.take i).map Tx.encO).flatten)++Pk.int (Pk.toU x.value))++(Pk.int x.script.length++x.script)=((((([]:List UInt8)++Pk.int (Pk.toU (t.ins.length:Int)))++(t.ins.map Tx.encI).flatten)++Pk.int (Pk.toU (t.outs.length:Int)))++((t.outs.take i).map Tx.encO).flatten)++Tx.encO x:=by unfold Tx.encO Pk.blob;rw [List.append_assoc]
    refine ⟨_,_,_,?_,U,?_,?_,⟨i+1,A9,c9,U,U,by omega,⟨by rw [he,←he2];exact hc9,hd9⟩,by rw [he,←he2];exact H.sub (by repeat (first|exact .refl _|exact List.nil_sublist _|refine .cons_cons _ ?_|refine .cons _ ?_))⟩⟩
    ·omega
    ·with_reducible repeat first|exact .refl|refine .f ?_ ?_ ?_;kernel_rfl;kernel_rfl|refine .u ?_ ?_;kernel_rfl
    ·refine ⟨?_,?_,trivial⟩
     ·exact vi (by omega)
     ·exact sl_eq (by rw [he,←he2])
   ·replace hc51:=of_decide_eq_false hc51
    obtain rfl:i=t.outs.length:=by omega
    rw [List.take_length] at hd H ⊢
    refine ke (xQ (xQ ?_))
    refine xH (kR (sMs U (sFa U tf47_2 (sR (d_ld U H U ta3 U) (sf (eN Tryz.func81 U U (refInt (b:=((((([]:List UInt8)++Pk.int (Pk.toU (t.ins.length:Int)))++(t.ins.map Tx.encI).flatten)++Pk.int (Pk.toU (t.outs.length:Int)))++(t.outs.map Tx.encO).flatten)) t.lock _ (H.rowbs (A:=A2) U) hk (by rw [List.length_append,List.length_append,List.length_append,List.nil_append];omega)) H ?_))))))
    clear H;intro A4 c4 W hc4 hd4 H
    refine sAs U (sAi U (ln (kx ?_)))
    have hp0:((((([]:List UInt8)++Pk.int (Pk.toU (t.ins.length:Int)))++(t.ins.map Tx.encI).flatten)++Pk.int (Pk.toU (t.outs.length:Int)))++(t.outs.map Tx.encO).flatten)++Pk.int (Pk.toU t.lock)=Tx.bare t:=by unfold Tx.bare Tx.bareB encL;rw [if_pos hne,toU_cast' (by omega),toU_cast' (by omega)];simp only [List.nil_append,List.append_assoc]
    rw [hp0] at hc4 H ⊢
    rw [hne]
    exact q_ret2 (v:=.slice _ _ _) (x:=.int _ _) U U U ⟨_,U,_,U,H.newB U U hc4 hd4⟩

theorem taggedRB {S:Nat->Prop} {v:Value} {b:List UInt8} {s:ByteArray} (w:World) (hb:Bs w S v b) (hs:s.size<=1000000000) (hbl:b.length<=1000000000):Calls Tryz.prog 67 [.string s,v].toArray w (Ret (Is w (.agg ((Old.Bl.tagged s.data.toList b).map u8v).toArray))) :=
 Calls.mono (Old.tagged_ref s v b w hb hs hbl) (fun e w' h=>by
  obtain ⟨h1,h2⟩:=h
  exact ⟨_,h1,U,h2⟩)

theorem taggedTR {S:Nat->Prop} {cs:List Value} {t:DTx} {s:ByteArray} (w:World) (ht:RTx w S cs t) (hs:s.size<=1000):Calls Tryz.prog 53 [.string s,.agg cs.toArray].toArray w (Ret (Is w (.agg ((Tx.dig s t).map u8v).toArray))):=by
 obtain ⟨A,c,B,d,rfl,hI,hO,hk⟩:=tx_of ht
 have hok:=tx_ok ht
 refine kE (l:=[_,_]) Tryz.func53 U U ?_
 have H:=St.start nT w
 refine kR (sf (ebx (vs:=(txC A t.ins.length c B t.outs.length d t.lock)) U U H ?_))
 clear H;intro gm W H
 refine sf (eal (List.replicate 32 (u8v 0)) tz25 H ?_)
 clear H;intro go W H
 refine lkR (sR (dM (g:=gm) (off:=0) U H (sa (a:=txC A t.ins.length c B t.outs.length d t.lock) (m:=3) U) U U U U ta47 ts47) (sf (ecl Tryz.func66 U U (bareTR _ (keeps_Tx _ _ _ _ _ ht (fun g hg _=>H.fr.block g hg (fun h=>h)))) ?_)))
 rintro _ W ⟨_,rfl,A1,c1,rfl,hc1,hd1,hn⟩
 replace H:=H.new hn
 clear hn
 refine sMt U (sEx U U (sEx U U (sAs U (sAi U (ln (kQ (kR (sMi U (sNe U U (ln (kC U (fun hc13=>?_) (fun hc13=>?_))))))))))))
 ·have hne:¬Tx.chk t=0:=by simpa using hc13
  have e1:Tx.dig s t=List.replicate 32 0:=by unfold Tx.dig;rw [if_neg hne]
  refine kR (sR (dB (vs:=(List.replicate 32 (0:UInt8)).map u8v) U (by kernel_rfl)) ?_)
  refine sf (esk ((List.replicate 32 (0:UInt8)).map u8v) U U U ts25 (by simp) (all_u8L _) H (by decide) (spl_all (by simp)) ?_)
  clear H;intro W H
  refine ln (kx ?_)
  rw [e1]
  exact q_retc U (c:=(List.replicate 32 (0:UInt8)).map u8v) (g:=go) H U ta25 ts25 ⟨_,U,U,H.under⟩
 ·have hne:Tx.chk t=0:=by simpa using hc13
  have e1:Tx.dig s t=Old.Bl.tagged s.data.toList (Tx.bare t):=by unfold Tx.dig Tx.bare;rw [if_pos hne,if_pos hne]
  have hlb:=Tx.len_bare hok
  refine kS (kR (sR (mv_str U U) (sMs U (sf (eI Tryz.func67 U U (taggedRB _ (H.rowbs (A:=A1) (l:=Tx.bare t) U) (by omega) (by omega)) H ?_)))))
  clear H;intro W H
  refine sf (esk ((Old.Bl.tagged s.data.toList (Tx.bare t)).map u8v) U U U ts25 (by rw [List.length_map];exact Old.Bl.len_tagged _ _) (all_u8L _) H (by decide) (spl_all (by rw [List.length_map,List.length_replicate];exact Old.Bl.len_tagged _ _)) ?_)
  clear H;intro W H
  refine ln (kx ?_)
  rw [e1]
  exact q_retc U (c:=(Old.Bl.tagged s.data.toList (Tx.bare t)).map u8v) (g:=go) H U ta25 (by rw [List.length_map,Old.Bl.len_tagged];exact ts25) ⟨_,U,U,H.under⟩

theorem idTR {S:Nat->Prop} {cs:List Value} {t:DTx} (w:World) (ht:RTx w S cs t):Calls Tryz.prog 36 [.agg cs.toArray].toArray w (Ret (Is w (.agg ((Tx.dig Tx.tTx t).map u8v).toArray))):=by
 obtain ⟨A,c,B,d,rfl,hI,hO,hk⟩:=tx_of ht
 have hok:=tx_ok ht
 refine kE (l:=[_]) Tryz.func36 U U ?_
 have H:=St.start nT w
 refine kR (sf (ebx (vs:=(txC A t.ins.length c B t.outs.length d t.lock)) U U H ?_))
 clear H;intro gm W H
 refine sf (eal (List.replicate 32 (u8v 0)) tz25 H ?_)
 clear H;intro go W H
 refine lkR (sR (dM (g:=gm) (off:=0) U H (sa (a:=txC A t.ins.length c B t.outs.length d t.lock) (m:=3) U) U U U U ta47 ts47) (sf (eI Tryz.func53 U U (taggedTR (s:=Tx.tTx) _ (keeps_Tx _ _ _ _ _ ht (fun g hg _=>H.fr.block g hg (fun h=>h))) (by decide)) H ?_)))
 clear H;intro W H
 refine sf (esk ((Tx.dig Tx.tTx t).map u8v) U U U ts25 (by rw [List.length_map];exact Tx.len_dig) (all_u8L _) H (by decide) (spl_all (by rw [List.length_map,List.length_replicate];exact Tx.len_dig)) ?_)
 clear H;intro W H
 refine ln (kx ?_)
 exact q_retc U (c:=(Tx.dig Tx.tTx t).map u8v) (g:=go) H U ta25 (by rw [List.length_map,Tx.len_dig];exact ts25) ⟨_,U,U,H.under⟩

end Go.Proofs.YtjjodibkmeefpaaGreatDoor
