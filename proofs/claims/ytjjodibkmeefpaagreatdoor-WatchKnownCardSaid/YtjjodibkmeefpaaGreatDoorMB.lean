import Derived.Test.YtjjodibkmeefpaaGreatDoorMA
set_option linter.unusedVariables false
set_option linter.unusedSimpArgs false
set_option maxHeartbeats 4000000

namespace Go.Proofs.YtjjodibkmeefpaaGreatDoor
open Go Go.RowKit
attribute [local irreducible] wpList

theorem Bs.pre {W:World} {S:Nat->Prop} {A:Option Addr} {n c h:Nat} {l:List UInt8} (hb:Bs W S (.slice A n c) l) (hl:l.length=n) (hh:h<=n):Bs W S (.slice A h c) (l.take h):=by
 subst hl
 obtain ⟨A',c',hv,h1,h2,hr⟩:=hb.op
 cases hv
 refine Bs.mk ?_ (by omega) h2
 refine ⟨by simp;omega,fun hn=>?_⟩
 obtain ⟨g,o,rfl,hg,hc⟩:=hr.2 (by omega)
 refine ⟨g,o,U,hg,fun j u hu=>hc j u ?_⟩
 rw [List.map_take,List.getElem?_take] at hu
 split at hu
 ·exact hu
 ·cases hu
theorem kept {S S':Nat->Prop} {v u:Value} {al l:List UInt8} (w:World) (ha:Bs w S v al) (hb:Bs w S' u l) (he:al=l++marks 5) (hl:l.length<=1000000000000):Calls Tryz.prog 22 [v,u].toArray w (Ret (Is w (.bool true))):=by
 have hal:al.length=l.length+5:=by rw [he,List.length_append,marks_len]
 have ht:al.take l.length=l:=by rw [he,List.take_left]
 have hd:(al.drop l.length).take (al.length - l.length)=marks 5:=by rw [he,List.drop_left,List.take_of_length_le (by simp)]
 obtain ⟨A,c,rfl,hc1,hc2,ha1⟩:=ha.op
 obtain ⟨B,d,rfl,hd1,hd2,hb1⟩:=hb.op
 refine kE (l:=[_,_]) Tryz.func22 U U ?_
 have H:=St.start nT w
 refine kR (sAb U (ln (kQ (kR (sMs U (sLn U tu23 (sMs U (sLn U tu23 (sAd U U (by omega) (sNe U U (sBf U (by simp;omega) (sr (w_g U U U U) U (mv_s U U) ?_))))))))))))
 refine sr (w_g U U U U) U (mv_s U U) (sr (w_g U U U U) U (d_len U U tu23) (sr (w_g U U U U) U (d_cutP U U (h:=l.length) U (by omega) U tu23 ts5) (sr (w_g U U U U) U (mv_s U U) (sf (e_call (w_g U U U U) U U Tryz.func35 U U U (sameBytes _ _ _ _ _ ((H.bs ha).pre (h:=l.length) U (by omega)) (H.bs hb)) ?_)))))
 rw [ht]
 rintro _ W ⟨rfl,hb⟩
 replace H:=H.below hb
 clear hb
 refine sr (w_g U U U U) U (d_not U U) (sPF U U (ln (kF U (by first|(simp;done)|(simp;omega)) ?_)))
 refine kS (kR (sAs U (ln (kQ (kR (sAi U (ln (kb (kL 22 [5,6] (fun mm sl W=>∃k:Nat,∃B2:Option Addr,∃d2:Nat,5 - k=mm∧sl=[(6,.int .i64 (k:Int)),(5,.slice B2 k d2)]∧(k<=5)∧(k<=d2∧d2<=9223372036854775807)∧St nT w W [Fact.row 5 1 (.slice B2 k d2) k ((marks k).map u8v)]) _ _ ⟨0,none,0,U,U,by omega,⟨by omega,by omega⟩,H.nilrow 5 1⟩ ⟨U,U,trivial⟩ (fun mm sl ρv W hJ=>?_))))))))))
 clear H;obtain ⟨k,B2,d2,rfl,rfl,hk,hd3,H⟩:=hJ
 refine ko (kQ (kR (sMi U (sLt U U (ln (kC U (fun hc23=>?_) (fun hc23=>?_)))))))
 ·first|(replace hc23:=of_decide_eq_true hc23)|simp at hc23
  refine kS (kQ (kb (kr (sMs U (sMi U (sf (eI Tryz.func31 U U (markBytes k _ _ U (by omega)) H ?_)))))))
  clear H;intro W H
  refine sf (ebs (xs:=[.tmp 28]) (vals:=[.int .u8 _]) (vs:=[.int .u8 _]) U U U U tu23 ts5 ty5 U U U H ?_)
  clear H;intro g7_3 W H
  refine sf (eap tu23 tx5 U U U H (rd_blk H.blk U) (U) (by omega) U ?_)
  clear H;intro A2 c2 W hc2 hd2 H
  replace H:=H.drop
  refine sAs U (ln (kn (zE (kI U U U (by omega) U (kn (kY ?_))))))
  refine ⟨_,_,_,?_,U,?_,?_,⟨k+1,A2,c2,U,U,by omega,⟨hc2,hd2⟩,by rw [marks_succ,List.map_append];exact H⟩⟩
  ·omega
  ·with_reducible repeat first|exact .refl|refine .f ?_ ?_ ?_;kernel_rfl;kernel_rfl|refine .u ?_ ?_;kernel_rfl
  ·refine ⟨?_,?_,trivial⟩
   ·exact vi (by omega)
   ·exact U
 ·first|(replace hc23:=of_decide_eq_false hc23)|simp at hc23
  refine ke (xQ (xQ ?_))
  refine xH (kQ ?_)
  obtain rfl:k=5:=by omega
  refine kr (sMs U (sMs U (sLn U tu23 (sR (d_cutS U U (l:=l.length) U (by omega) U tu23 ts5) (sMs U (sf (ecl Tryz.func35 U U (sameBytes _ _ _ _ _ (bs_cut (H.bs ha) U (by omega) (Nat.le_refl _)) (H.rowbs (A:=B2) (marks_len 5))) ?_)))))))
  rw [hd]
  rintro _ W ⟨rfl,hb⟩
  replace H:=H.below hb
  clear hb
  refine sAb U (ln (kx ?_))
  exact qr (v:=.bool _) U U ⟨_,U,by rw [decide_eq_true U],H.under⟩


def thingC (kd n:Int) (B:Option Addr) (m d:Nat) (h t:List UInt8):List Value:=.int .i64 kd::.int .i64 n::.slice B m d::(h.map u8v++t.map u8v)
section
variable {kd n:Int} {B:Option Addr} {m d:Nat} {h t:List UInt8}
end
end Go.Proofs.YtjjodibkmeefpaaGreatDoor
