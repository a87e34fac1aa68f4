import Derived.Test.YtfhhfhdnhadooaaGreatDoorMBG
import Derived.Laws.BitsAllLaws
import Derived.Test.YtfhhfhdnhadooaaGreatDoorMBC
import Derived.Test.YtfhhfhdnhadooaaGreatDoorMBR
set_option linter.unusedVariables false
set_option linter.unusedSimpArgs false
set_option maxHeartbeats 4000000

namespace Go.Proofs.YtfhhfhdnhadooaaGreatDoor
open Go Go.RowKit
attribute [local irreducible] wpList

theorem all_sub {n s:Nat} {f:Value->Bool}:∀{xs:List Value},xs.length=n*s->(∀i,i<n->(sub xs (i*s) s).all f=true)->xs.all f=true:=by
 induction n with
 | zero =>
  intro xs h _
  have:xs=[]:=List.eq_nil_of_length_eq_zero (by omega)
  rw [this];rfl
 | succ n ih =>
  intro xs h hi
  have e:xs=xs.take s++xs.drop s:=(List.take_append_drop s xs).symm
  rw [Nat.add_mul,Nat.one_mul] at h
  rw [e,List.all_append,Bool.and_eq_true]
  refine ⟨?_,ih (by rw [List.length_drop];omega) (fun i hin=>?_)⟩
  ·have:=hi 0 (by omega)
   unfold sub at this
   rwa [Nat.zero_mul,List.drop_zero] at this
  ·have:=hi (i+1) (by omega)
   unfold sub at this ⊢
   rwa [List.drop_drop,show s+i*s=(i+1)*s by rw [Nat.add_mul];omega]
section
variable {us xs e zs:List Value} {i s n k:Nat} {v:Value}
theorem mix_at (hu:us.length=i*s):sub (us++xs.drop (i*s)) (i*s) s=sub xs (i*s) s:=by
 unfold sub
 rw [←hu,List.drop_left]
theorem mix_mid (hu:us.length=i*s) (he:e.length=s):sub (us++(e++zs)) (i*s) s=e:=by
 unfold sub
 rw [←hu,List.drop_left,List.take_left' he]
theorem mix_set (hu:us.length=i*s) (hk:k<s) (hx:xs.length=n*s) (hi:i<n):(us++xs.drop (i*s)).set (i*s+k) v=us++((sub xs (i*s) s).set k v++xs.drop ((i+1)*s)):=by
 have hm:=Nat.mul_le_mul_right s (show i+1<=n by omega)
 rw [Nat.add_mul,Nat.one_mul] at hm
 rw [List.set_append_right _ _ (by omega),hu,Nat.add_sub_cancel_left]
 have e:xs.drop (i*s)=sub xs (i*s) s++xs.drop ((i+1)*s):=by
  unfold sub
  rw [Nat.add_mul,Nat.one_mul,←List.drop_drop,List.take_append_drop]
 rw [e,List.set_append_left _ _ (by unfold sub;rw [List.length_take,List.length_drop];omega)]
theorem mix_end (hx:xs.length=n*s):us++xs.drop (n*s)=us:=by rw [←hx,List.drop_length,List.append_nil]
end

theorem cloneIn {S:Nat->Prop} {A:Option Addr} {n c:Nat} {xs:List Value} (w:World) (hr:Rd w S 34 A n xs) (h1:xs.all (·.oneCell')=true) (hn:n<=1000000000):Calls Tryz.prog 73 [.slice A n c].toArray w (Ret (fun v' w'=>∃A' c',v'=.slice A' n c'∧n<=c'∧c'<=9223372036854775807∧New w w' (Fact.row 64 34 (.slice A' n c') n xs))):=by
 refine kE (l:=[_]) Tryz.func73 U U ?_
 have H:=St.start nT w
 refine kR (sAs U (ln (kQ (kR (sMs U (sR (d_eqnil U U U tu31) (ln (kC U (fun hc4=>?_) (fun hc4=>?_)))))))))
 ·skip
  refine kR (sAs U (ln (kx ?_)))
  obtain rfl:n=0:=by
   rcases Nat.eq_zero_or_pos n with h|h
   ·exact h
   ·obtain ⟨g,o,rfl,_⟩:=hr.2 h
    simp at hc4
  obtain rfl:xs=[]:=List.eq_nil_of_length_eq_zero (by have:=hr.1;omega)
  replace H:=H.nilrow 64 34
  exact qr (v:=.slice _ _ _) U U ⟨_,U,none,0,U,Nat.le_refl _,by omega,H.give⟩
 ·skip
  refine kS (kR (sf (e_bsl0 (wn U) U U tu31 ts64 H ?_)))
  clear H;intro g3_0 W H
  refine sMs U (sf (eap tu31 tx64 U U U H (H.rd hr) (h1) (by omega) U ?_))
  clear H;intro A1 c1 W hc1 hd1 H
  refine sAs U (ln (kx ?_))
  rw [Nat.zero_add] at hc1 H ⊢
  rw [List.nil_append] at H
  exact qr (v:=.slice _ _ _) U U ⟨_,U,A1,c1,U,hc1,hd1,H.give⟩

theorem cloneOut {S:Nat->Prop} {A:Option Addr} {n c:Nat} {xs:List Value} (w:World) (hr:Rd w S 2 A n xs) (h1:xs.all (·.oneCell')=true) (hn:n<=1000000000):Calls Tryz.prog 74 [.slice A n c].toArray w (Ret (fun v' w'=>∃A' c',v'=.slice A' n c'∧n<=c'∧c'<=9223372036854775807∧New w w' (Fact.row 66 2 (.slice A' n c') n xs))):=by
 refine kE (l:=[_]) Tryz.func74 U U ?_
 have H:=St.start nT w
 refine kR (sAs U (ln (kQ (kR (sMs U (sR (d_eqnil U U U tu32) (ln (kC U (fun hc4=>?_) (fun hc4=>?_)))))))))
 ·skip
  refine kR (sAs U (ln (kx ?_)))
  obtain rfl:n=0:=by
   rcases Nat.eq_zero_or_pos n with h|h
   ·exact h
   ·obtain ⟨g,o,rfl,_⟩:=hr.2 h
    simp at hc4
  obtain rfl:xs=[]:=List.eq_nil_of_length_eq_zero (by have:=hr.1;omega)
  replace H:=H.nilrow 66 2
  exact qr (v:=.slice _ _ _) U U ⟨_,U,none,0,U,Nat.le_refl _,by omega,H.give⟩
 ·skip
  refine kS (kR (sf (e_bsl0 (wn U) U U tu32 ts66 H ?_)))
  clear H;intro g3_0 W H
  refine sMs U (sf (eap tu32 tx66 U U U H (H.rd hr) (h1) (by omega) U ?_))
  clear H;intro A1 c1 W hc1 hd1 H
  refine sAs U (ln (kx ?_))
  rw [Nat.zero_add] at hc1 H ⊢
  rw [List.nil_append] at H
  exact qr (v:=.slice _ _ _) U U ⟨_,U,A1,c1,U,hc1,hd1,H.give⟩

theorem cloneBss {S:Nat->Prop} {A:Option Addr} {n c:Nat} {xs:List Value} (w:World) (hr:Rd w S 1 A n xs) (h1:xs.all (·.oneCell')=true) (hn:n<=1000000000):Calls Tryz.prog 75 [.slice A n c].toArray w (Ret (fun v' w'=>∃A' c',v'=.slice A' n c'∧n<=c'∧c'<=9223372036854775807∧New w w' (Fact.row 41 1 (.slice A' n c') n xs))):=by
 refine kE (l:=[_]) Tryz.func75 U U ?_
 have H:=St.start nT w
 refine kR (sAs U (ln (kQ (kR (sMs U (sR (d_eqnil U U U tu62) (ln (kC U (fun hc4=>?_) (fun hc4=>?_)))))))))
 ·skip
  refine kR (sAs U (ln (kx ?_)))
  obtain rfl:n=0:=by
   rcases Nat.eq_zero_or_pos n with h|h
   ·exact h
   ·obtain ⟨g,o,rfl,_⟩:=hr.2 h
    simp at hc4
  obtain rfl:xs=[]:=List.eq_nil_of_length_eq_zero (by have:=hr.1;omega)
  replace H:=H.nilrow 41 1
  exact qr (v:=.slice _ _ _) U U ⟨_,U,none,0,U,Nat.le_refl _,by omega,H.give⟩
 ·skip
  refine kS (kR (sf (e_bsl0 (wn U) U U tu62 ts41 H ?_)))
  clear H;intro g3_0 W H
  refine sMs U (sf (eap tu62 tx41 U U U H (H.rd hr) (h1) (by omega) U ?_))
  clear H;intro A1 c1 W hc1 hd1 H
  refine sAs U (ln (kx ?_))
  rw [Nat.zero_add] at hc1 H ⊢
  rw [List.nil_append] at H
  exact qr (v:=.slice _ _ _) U U ⟨_,U,A1,c1,U,hc1,hd1,H.give⟩

theorem cloneBy {S:Nat->Prop} {v:Value} {l:List UInt8} (w:World) (hB:Bs w S v l) (hl:l.length<=1000000000000):Calls Tryz.prog 76 [v].toArray w (Ret (NewB 5 w l)):=by
 obtain ⟨A,c,rfl,hcc,hcm,hrd⟩:=hB.op
 refine kE (l:=[_]) Tryz.func76 U U ?_
 have H:=St.start nT w
 refine kR (sAs U (ln (kQ (kR (sMs U (sR (d_eqnil U U U tu41) (ln (kC U (fun hc4=>?_) (fun hc4=>?_)))))))))
 ·skip
  refine kR (sAs U (ln (kx ?_)))
  obtain rfl:l=[]:=by
   rcases Nat.eq_zero_or_pos l.length with h|h
   ·exact List.eq_nil_of_length_eq_zero h
   ·obtain ⟨g,o,rfl,_⟩:=hrd.2 h
    simp at hc4
  replace H:=H.nilrow 5 1
  exact qr (v:=.slice _ _ _) U U ⟨_,U,H.newB (l:=[]) (by rfl) (by rfl) (Nat.le_refl _) (by omega)⟩
 ·skip
  refine kS (kR (sf (e_bsl0 (wn U) U U tu41 ts5 H ?_)))
  clear H;intro g3_0 W H
  refine sMs U (sf (eap tu41 tx5 U U U H (H.rd hrd) (all_u8L _) (by omega) U ?_))
  clear H;intro A1 c1 W hc1 hd1 H
  refine sAs U (ln (kx ?_))
  rw [Nat.zero_add] at hc1 H ⊢
  exact qr (v:=.slice _ _ _) U U ⟨_,U,H.newB (l:=l) U U hc1 hd1⟩

theorem freshP {S:Nat->Prop} {cs:List Value} {t:DTx} (w:World) (ht:RTx w S cs t) (hf:Tx.Fits t):Calls Tryz.prog 32 [.agg cs.toArray].toArray w (Ret (NewTx w t)):=by
 obtain ⟨A,c,B,d,rfl,hI,hO,hk⟩:=tx_of ht
 have hIl:=rl_len hI
 have hOl:=rl_len hO
 have hI0:=hI
 obtain ⟨A_,c_,xs,hv_,_,_,hr,hel⟩:=hI
 cases hv_
 have hO0:=hO
 obtain ⟨A_,c_,ys,hv_,_,_,hs,hes⟩:=hO
 cases hv_
 have hxl:xs.length=t.ins.length*34:=hr.1
 have hyl:ys.length=t.outs.length*2:=hs.1
 have h1x:xs.all (·.oneCell')=true:=all_sub hxl (fun i hi=>by
  obtain ⟨x,hx⟩:=get_lt hi
  obtain ⟨Aw,cw,hL,-,-,-⟩:=in_of (hel i x hx)
  rw [hL];exact in_one)
 have h1y:ys.all (·.oneCell')=true:=all_sub hyl (fun i hi=>by
  obtain ⟨x,hx⟩:=get_lt hi
  obtain ⟨Aw,cw,hL,-,-⟩:=out_of (hes i x hx)
  rw [hL];rfl)
 have hfi:=hf.ins
 have hfo:=hf.outs
 refine kE (l:=[_]) Tryz.func32 U U ?_
 have H:=St.start nT w
 refine kR (sf (ebx (vs:=(txC A t.ins.length c B t.outs.length d t.lock)) U U H ?_))
 clear H;intro gm W H
 refine sf (eal [.slice none 0 0,.slice none 0 0,.int .i64 0] tz34 H ?_)
 clear H;intro go W H
 refine ln (kQ (k_cut 6 [] (fun sl W=>∃A1:Option Addr,∃c1:Nat,∃B1:Option Addr,∃d1:Nat,sl=[]∧(t.ins.length<=c1∧c1<=9223372036854775807)∧(t.outs.length<=d1∧d1<=9223372036854775807)∧St nT w W [Fact.row 64 34 (.slice A1 t.ins.length c1) t.ins.length (xs),Fact.row 66 2 (.slice B1 t.outs.length d1) t.outs.length (ys),Fact.blk gm (txC A1 t.ins.length c1 B1 t.outs.length d1 t.lock) 34,Fact.blk go (txC none 0 0 none 0 0 0) 34]) ?_ (fun sl ρv W hJ=>?_)))
 ·skip
  refine k_drawT (.rd 0 (.rd 3 (.many 7 [1,4] fun j=>(bif Nat.beq j 1 then (.many 6 [2,4] fun j=>(bif Nat.beq j 2 then (.ef 4 (.rd 6 (.ef 5 (.ef 7 (.rd 8 (.ef 9 .nil)))))) else (.ef 2 (.rd 6 (.ef 5 (.ef 7 (.rd 8 (.ef 9 .nil)))))))) else (.ef 1 (.ef 2 (.rd 6 (.ef 5 (.ef 7 (.rd 8 (.ef 9 .nil))))))))))) [] (by kernel_rfl) (by kernel_rfl) H (List.nil_sublist _) ?_
  clear H;intro W H
  refine tR U (fun W H=>dF U U tf34_0) (tR U (fun W H=>dF U U tf34_1) (t_each ?_ ?_))
  ·skip
   refine tf U (e_run (wn U) U (dX (g:=gm) (off:=0) U H U U U ta31) ?_)
   refine ⟨_,fun _ h=>h,H.sb,?_⟩
   refine t_each ?_ ?_
   ·skip
    refine tf U (ecl Tryz.func73 U U (cloneIn _ (H.rd hr) h1x hfi) ?_)
    rintro _ W ⟨A1,c1,rfl,hc1,hd1,hn1⟩
    replace H:=H.new hn1
    clear hn1
    refine ⟨_,fun _ h=>h,H.sb,?_⟩
    refine tf U (e_run (wn U) U (dX (g:=gm) (off:=1) U H U U U ta32) ?_)
    refine ⟨_,fun _ h=>h,H.sb,?_⟩
    refine tR U (fun W H=>dF U U tf34_0) (tf U (ecl Tryz.func74 U U (cloneOut _ (H.rd hs) h1y hfo) ?_))
    rintro _ W ⟨B1,d1,rfl,hc2,hd2,hn2⟩
    replace H:=H.new hn2
    clear hn2
    refine ⟨_,fun _ h=>h,H.sb,?_⟩
    refine tf U (e_sto (wn U) U U U U U ts31 U H U ?_)
    clear H;intro W H
    refine ⟨_,fun _ h=>h,H.sb,?_⟩
    refine tR U (fun W H=>dF U U tf34_1) (tf U (e_sto (wn U) U U U U U ts32 U H U ?_))
    clear H;intro W H
    refine ⟨_,fun _ h=>h,H.sb,?_⟩
    refine t_nil (kn (n_then ?_))
    refine ⟨_,_,U,?_,?_,⟨A1,c1,B1,d1,U,⟨hc1,hd1⟩,⟨hc2,hd2⟩,(H.perm (.trans (.swap _ _ _) (.cons _ (.cons _ (.swap _ _ _)))))⟩⟩
    ·with_reducible repeat first|exact .refl|refine .f ?_ ?_ ?_;kernel_rfl;kernel_rfl|refine .u ?_ ?_;kernel_rfl
    ·exact trivial
   refine t_each ?_ ?_
   ·skip
    refine tf U (e_run (wn U) U (dX (g:=gm) (off:=1) U H U U U ta32) ?_)
    refine ⟨_,fun _ h=>h,H.sb,?_⟩
    refine tf U (ecl Tryz.func73 U U (cloneIn _ (H.rd hr) h1x hfi) ?_)
    rintro _ W ⟨A1,c1,rfl,hc1,hd1,hn1⟩
    replace H:=H.new hn1
    clear hn1
    refine ⟨_,fun _ h=>h,H.sb,?_⟩
    refine tR U (fun W H=>dF U U tf34_0) (tf U (ecl Tryz.func74 U U (cloneOut _ (H.rd hs) h1y hfo) ?_))
    rintro _ W ⟨B1,d1,rfl,hc2,hd2,hn2⟩
    replace H:=H.new hn2
    clear hn2
    refine ⟨_,fun _ h=>h,H.sb,?_⟩
    refine tf U (e_sto (wn U) U U U U U ts31 U H U ?_)
    clear H;intro W H
    refine ⟨_,fun _ h=>h,H.sb,?_⟩
    refine tR U (fun W H=>dF U U tf34_1) (tf U (e_sto (wn U) U U U U U ts32 U H U ?_))
    clear H;intro W H
    refine ⟨_,fun _ h=>h,H.sb,?_⟩
    refine t_nil (kn (n_then ?_))
    refine ⟨_,_,U,?_,?_,⟨A1,c1,B1,d1,U,⟨hc1,hd1⟩,⟨hc2,hd2⟩,(H.perm (.trans (.swap _ _ _) (.cons _ (.cons _ (.swap _ _ _)))))⟩⟩
    ·with_reducible repeat first|exact .refl|refine .f ?_ ?_ ?_;kernel_rfl;kernel_rfl|refine .u ?_ ?_;kernel_rfl
    ·exact trivial
   exact t_none
  refine t_each ?_ ?_
  ·skip
   refine tf U (e_run (wn U) U (dX (g:=gm) (off:=1) U H U U U ta32) ?_)
   refine ⟨_,fun _ h=>h,H.sb,?_⟩
   refine tf U (e_run (wn U) U (dX (g:=gm) (off:=0) U H U U U ta31) ?_)
   refine ⟨_,fun _ h=>h,H.sb,?_⟩
   refine tf U (ecl Tryz.func73 U U (cloneIn _ (H.rd hr) h1x hfi) ?_)
   rintro _ W ⟨A1,c1,rfl,hc1,hd1,hn1⟩
   replace H:=H.new hn1
   clear hn1
   refine ⟨_,fun _ h=>h,H.sb,?_⟩
   refine tR U (fun W H=>dF U U tf34_0) (tf U (ecl Tryz.func74 U U (cloneOut _ (H.rd hs) h1y hfo) ?_))
   rintro _ W ⟨B1,d1,rfl,hc2,hd2,hn2⟩
   replace H:=H.new hn2
   clear hn2
   refine ⟨_,fun _ h=>h,H.sb,?_⟩
   refine tf U (e_sto (wn U) U U U U U ts31 U H U ?_)
   clear H;intro W H
   refine ⟨_,fun _ h=>h,H.sb,?_⟩
   refine tR U (fun W H=>dF U U tf34_1) (tf U (e_sto (wn U) U U U U U ts32 U H U ?_))
   clear H;intro W H
   refine ⟨_,fun _ h=>h,H.sb,?_⟩
   refine t_nil (kn (n_then ?_))
   refine ⟨_,_,U,?_,?_,⟨A1,c1,B1,d1,U,⟨hc1,hd1⟩,⟨hc2,hd2⟩,(H.perm (.trans (.swap _ _ _) (.cons _ (.cons _ (.swap _ _ _)))))⟩⟩
   ·with_reducible repeat first|exact .refl|refine .f ?_ ?_ ?_;kernel_rfl;kernel_rfl|refine .u ?_ ?_;kernel_rfl
   ·exact trivial
  exact t_none
 clear H;obtain ⟨A1,c1,B1,d1,rfl,hc1,hc2,H⟩:=hJ
 refine kQ (kR (sFa U tf34_0 (sR (dX (g:=gm) (off:=0) U H U U U ta31) (sLn U tu31 (sMi U (ln (kb (kL 17 [3,4] (fun mm sl W=>∃i:Nat,∃us:List Value,∃S1:Nat->Prop,t.ins.length - i=mm∧sl=[(17,.int .i64 (i:Int))]∧(i<=t.ins.length)∧(us.length=i*34)∧St nT w W [Fact.row 64 34 (.slice A1 t.ins.length c1) t.ins.length (us++xs.drop (i*34)),Fact.els RIn 34 S1 us (t.ins.take i),Fact.row 66 2 (.slice B1 t.outs.length d1) t.outs.length (ys),Fact.blk gm (txC A1 t.ins.length c1 B1 t.outs.length d1 t.lock) 34,Fact.blk go (txC none 0 0 none 0 0 0) 34]) _ _ ⟨0,[],(fun _=>False),U,U,Nat.zero_le _,U,((H.els0 RIn 34).perm (.swap _ _ _))⟩ ⟨U,trivial⟩ (fun mm sl ρv W hJ=>?_)))))))))
 clear H;obtain ⟨i,us,S1,rfl,rfl,hi,hus,H⟩:=hJ
 refine ko (kR (sLt U U (ln (kQ (kC U (fun hc18=>?_) (fun hc18=>?_))))))
 ·have hlt:i<t.ins.length:=by simp at hc18;omega
  obtain ⟨g1,rfl⟩:=row_own (H.holds _ (.head _)) (by omega)
  obtain ⟨x,hx⟩:=get_lt hlt
  obtain ⟨Aw,cw,hL,hW,hp,hn⟩:=in_of (hel i x hx)
  have hfw:=hf.wit x (List.mem_of_getElem? hx)
  have hW0:=hW
  obtain ⟨Aw_,cw_,zs,hv2,_,_,hrw,helw⟩:=hW
  cases hv2
  have hwl:=rl_len hW0
  have hzl:zs.length=x.wit.length*1:=hrw.1
  have h1z:zs.all (·.oneCell')=true:=all_sub hzl (fun j hj=>by
   obtain ⟨y,hy⟩:=get_lt hj
   obtain ⟨Ay,cy,hLy,-⟩:=rb_of (helw j y hy)
   rw [hLy];rfl)
  have hLi:=(mix_at (xs:=xs) hus).trans hL
  refine kS (kQ (kb (kR (sMi U (sAi U (ln (kQ (k_drawT (.rd 0 (.rd 1 (.rd 2 (.rd 3 (.rd 4 (.rd 5 (.rd 6 (.rd 7 (.ef 8 (.ef 9 (.rd 10 (.rd 11 (.ef 12 .nil))))))))))))) [Fact.blk gm (txC (some ⟨g1,0,none⟩) t.ins.length c1 B1 t.outs.length d1 t.lock) 34] (by kernel_rfl) (by kernel_rfl) H (by repeat (first|exact .refl _|exact List.nil_sublist _|refine .cons_cons _ ?_|refine .cons _ ?_)) ?_))))))))
  clear H;intro W H
  refine tR U (fun W H=>dF U U tf34_0) (tR U (fun W H=>dX (g:=gm) (off:=0) U H U U U ta31) (tR U (fun W H=>mv_i U U) (tR U (fun W H=>dF U U tf34_0) (tR U (fun W H=>dX (g:=gm) (off:=0) U H U U U ta31) (tR U (fun W H=>mv_i U U) (tR U (fun W H=>d_iaP (q:=i) U U U U hlt tu31 ts64) (tR U (fun W H=>dF U U tf64_1) (tf U (e_run (wn U) U (dE (q:=i) (off:=33) U (H.rowrd (A:=(some ⟨g1,0,none⟩))) hlt hLi (sub_in_w hp) U U (by omega) ta62) ?_)))))))))
  refine ⟨_,fun _ h=>h,H.sb,?_⟩
  refine tf U (ecl Tryz.func75 U U (cloneBss _ (H.rd hrw) h1z (by omega)) ?_)
  rintro _ W ⟨A9,c9,rfl,hc9,hd9,hn9⟩
  replace H:=H.new hn9
  clear hn9
  refine ⟨_,fun _ h=>h,H.sb,?_⟩
  refine tR U (fun W H=>d_iaP (q:=i) U U U U hlt tu31 ts64) (tR U (fun W H=>dF U U tf64_1) (tf U (e_stoG (v:=.slice A9 x.wit.length c9) (k:=i*34+33) (s:=34) (e:=64) (m:=t.ins.length) (c:=c1) (wn U) U U U (by omega) U U ts62 U H (by omega) ?_)))
  clear H;intro W H
  refine ⟨_,fun _ h=>h,H.sb,?_⟩
  refine t_nil (kQ ?_)
  rw [mix_set hus (by decide) hxl hlt,hL,set_in_w hp] at H
  have hLm:sub (us++(inC x.point A9 x.wit.length c9++xs.drop ((i+1)*34))) (i*34) 34=inC x.point A9 x.wit.length c9:=mix_mid hus (len_in hp)
  refine kr (sFa U tf34_0 (sR (dX (g:=gm) (off:=0) U H U U U ta31) (sMi U (sR (d_iaP (q:=i) U U U U hlt tu31 ts64) (sFa U tf64_1 (sR (dE (q:=i) (off:=33) U (H.rowrd (A:=(some ⟨g1,0,none⟩))) hlt hLm (sub_in_w hp) U U (by omega) ta62) (sLn U tu62 (sMi U (ln (kb (kL 39 [4] (fun mm sl W=>∃k:Nat,∃vs:List Value,∃S9:Nat->Prop,x.wit.length - k=mm∧sl=[(39,.int .i64 (k:Int))]∧(k<=x.wit.length)∧(vs.length=k*1)∧St nT w W [Fact.row 41 1 (.slice A9 x.wit.length c9) x.wit.length (vs++zs.drop (k*1)),Fact.els RB 1 S9 vs (x.wit.take k),Fact.row 64 34 (.slice (some ⟨g1,0,none⟩) t.ins.length c1) t.ins.length (us++(inC x.point A9 x.wit.length c9++xs.drop ((i+1)*34))),Fact.els RIn 34 S1 us (t.ins.take i),Fact.row 66 2 (.slice B1 t.outs.length d1) t.outs.length (ys),Fact.blk gm (txC (some ⟨g1,0,none⟩) t.ins.length c1 B1 t.outs.length d1 t.lock) 34,Fact.blk go (txC none 0 0 none 0 0 0) 34]) _ _ ⟨0,[],(fun _=>False),U,U,Nat.zero_le _,U,((H.els0 RB 1).perm (.swap _ _ _))⟩ ⟨U,trivial⟩ (fun mm sl ρv W hJ=>?_))))))))))))
  clear H;obtain ⟨k,vs,S9,rfl,rfl,hk,hvl,H⟩:=hJ
  refine ko (kR (sLt U U (ln (kQ (kC U (fun hc40=>?_) (fun hc40=>?_))))))
  ·have hlk:k<x.wit.length:=by simp at hc40;omega
   obtain ⟨g9,rfl⟩:=row_own (H.holds _ (.head _)) (by omega)
   obtain ⟨y,hy⟩:=get_lt hlk
   obtain ⟨Ay,cy,hLy,hBy⟩:=rb_of (helw k y hy)
   have hfy:=hfw.2 y (List.mem_of_getElem? hy)
   have hLk:=(mix_at (s:=1) (xs:=zs) hvl).trans hLy
   refine kS (kQ (kb (kR (sMi U (sAi U (ln (k_drawT (.rd 0 (.rd 1 (.rd 2 (.rd 3 (.rd 4 (.rd 5 (.rd 6 (.rd 7 (.rd 8 (.rd 9 (.rd 10 (.rd 11 (.rd 12 (.rd 13 (.rd 14 (.ef 15 (.ef 16 (.rd 17 (.ef 18 .nil))))))))))))))))))) [Fact.row 64 34 (.slice (some ⟨g1,0,none⟩) t.ins.length c1) t.ins.length (us++(inC x.point (some ⟨g9,0,none⟩) x.wit.length c9++xs.drop ((i+1)*34))),Fact.blk gm (txC (some ⟨g1,0,none⟩) t.ins.length c1 B1 t.outs.length d1 t.lock) 34] (by kernel_rfl) (by kernel_rfl) H (by repeat (first|exact .refl _|exact List.nil_sublist _|refine .cons_cons _ ?_|refine .cons _ ?_)) ?_)))))))
   clear H;intro W H
   refine tR U (fun W H=>dF U U tf34_0) (tR U (fun W H=>dX (g:=gm) (off:=0) U H U U U ta31) (tR U (fun W H=>mv_i U U) (tR U (fun W H=>d_iaP (q:=i) U U U U hlt tu31 ts64) (tR U (fun W H=>dF U U tf64_1) (tR U (fun W H=>dE (q:=i) (off:=33) U (H.rowrd (A:=(some ⟨g1,0,none⟩))) hlt hLm (sub_in_w hp) U U (by omega) ta62) (tR U (fun W H=>mv_i U U) (tR U (fun W H=>dF U U tf34_0) (tR U (fun W H=>dX (g:=gm) (off:=0) U H U U U ta31) (tR U (fun W H=>mv_i U U) (tR U (fun W H=>d_iaP (q:=i) U U U U hlt tu31 ts64) (tR U (fun W H=>dF U U tf64_1) (tR U (fun W H=>dE (q:=i) (off:=33) U (H.rowrd (A:=(some ⟨g1,0,none⟩))) hlt hLm (sub_in_w hp) U U (by omega) ta62) ?_))))))))))))
   refine tR U (fun W H=>mv_i U U) (tR U (fun W H=>d_iaP (q:=k) U U U U hlk tu62 ts41) (tf U (e_run (wn U) U (dE (q:=k) (off:=0) U (H.rowrd (A:=(some ⟨g9,0,none⟩))) hlk hLk U U U (by omega) ta41) ?_)))
   refine ⟨_,fun _ h=>h,H.sb,?_⟩
   refine tf U (eN Tryz.func76 U U (cloneBy _ (H.bs hBy) hfy) H ?_)
   clear H;intro A8 c8 W hc8 hd8 H
   refine ⟨_,fun _ h=>h,H.sb,?_⟩
   refine tR U (fun W H=>d_iaP (q:=k) U U U U hlk tu62 ts41) (tf U (e_stoG (v:=.slice A8 y.length c8) (k:=k*1+0) (s:=1) (e:=41) (m:=x.wit.length) (c:=c9) (wn U) U U U (by omega) U U ts41 U H (by omega) ?_))
   clear H;intro W H
   refine ⟨_,fun _ h=>h,H.sb,?_⟩
   refine t_nil (kn (zE ?_))
   rw [mix_set (s:=1) hvl (by decide) hzl hlk,hLy] at H
   replace H:=H.torb rfl
   replace H:=(St.elsnoc (H.perm (.cons _ (.swap _ _ _))) rfl).perm (.swap _ _ _)
   refine kr (sAd U U (by omega) (sMi U (ln (kn (kY ?_)))))
   refine ⟨_,_,_,?_,U,?_,?_,⟨k+1,vs++[.slice A8 y.length c8],_,U,U,by omega,(by rw [List.length_append,hvl,Nat.add_mul];rfl),(by rw [take_get hy,List.append_assoc];exact H)⟩⟩
   ·omega
   ·with_reducible repeat first|exact .refl|refine .f ?_ ?_ ?_;kernel_rfl;kernel_rfl|refine .u ?_ ?_;kernel_rfl
   ·refine ⟨?_,trivial⟩
    ·exact vi (by omega)
  ·obtain rfl:k=x.wit.length:=by simp at hc40;omega
   rw [List.take_length,mix_end hzl] at H
   replace H:=H.tolist
   replace H:=H.rerep (R':=RIn) (cs':=inC x.point A9 x.wit.length c9) (b:=x) (fun h=>in_rep hp hn h)
   replace H:=(St.elsnoc (H.perm (.cons _ (.swap _ _ _))) (len_in hp)).perm (.swap _ _ _)
   refine ke (xt (xt ?_))
   refine xH (kn (zE (kr (sAd U U (by omega) (sMi U (ln (kn (kY ?_))))))))
   refine ⟨_,_,_,?_,U,?_,?_,⟨i+1,us++inC x.point A9 x.wit.length c9,_,U,U,by omega,(by rw [List.length_append,hus,len_in hp,Nat.add_mul]),(by rw [take_get hx,List.append_assoc];exact H)⟩⟩
   ·omega
   ·with_reducible repeat first|exact .refl|refine .f ?_ ?_ ?_;kernel_rfl;kernel_rfl|refine .u ?_ ?_;kernel_rfl
   ·refine ⟨?_,trivial⟩
    ·exact vi (by omega)
 ·obtain rfl:i=t.ins.length:=by simp at hc18;omega
  rw [List.take_length,mix_end hxl] at H
  refine ke (xt (xt ?_))
  refine xH (kQ (kR (sFa U tf34_1 (sR (dX (g:=gm) (off:=1) U H U U U ta32) (sLn U tu32 (sMi U (ln (kb (kL 65 [5] (fun mm sl W=>∃i:Nat,∃us2:List Value,∃S2:Nat->Prop,t.outs.length - i=mm∧sl=[(65,.int .i64 (i:Int))]∧(i<=t.outs.length)∧(us2.length=i*2)∧St nT w W [Fact.row 66 2 (.slice B1 t.outs.length d1) t.outs.length (us2++ys.drop (i*2)),Fact.els ROut 2 S2 us2 (t.outs.take i),Fact.row 64 34 (.slice A1 t.ins.length c1) t.ins.length (us),Fact.els RIn 34 S1 us t.ins,Fact.blk gm (txC A1 t.ins.length c1 B1 t.outs.length d1 t.lock) 34,Fact.blk go (txC none 0 0 none 0 0 0) 34]) _ _ ⟨0,[],(fun _=>False),U,U,Nat.zero_le _,U,((St.els0 (H.perm (List.perm_middle (l₁:=[_,_]))) ROut 2).perm (.swap _ _ _))⟩ ⟨U,trivial⟩ (fun mm sl ρv W hJ=>?_))))))))))
  clear H;obtain ⟨i,us2,S2,rfl,rfl,hi,hus2,H⟩:=hJ
  refine ko (kR (sLt U U (ln (kQ (kC U (fun hc66=>?_) (fun hc66=>?_))))))
  ·have hlt:i<t.outs.length:=by simp at hc66;omega
   obtain ⟨g2,rfl⟩:=row_own (H.holds _ (.head _)) (by omega)
   obtain ⟨y,hy⟩:=get_lt hlt
   obtain ⟨Ay,cy,hLy,hBy,hny⟩:=out_of (hes i y hy)
   have hfy:=hf.scr y (List.mem_of_getElem? hy)
   have hLi:=(mix_at (xs:=ys) hus2).trans hLy
   refine kS (kQ (kb (kR (sMi U (sAi U (ln (k_drawT (.rd 0 (.rd 1 (.rd 2 (.rd 3 (.rd 4 (.rd 5 (.rd 6 (.rd 7 (.ef 8 (.ef 9 (.rd 10 (.rd 11 (.ef 12 .nil))))))))))))) [Fact.blk gm (txC A1 t.ins.length c1 (some ⟨g2,0,none⟩) t.outs.length d1 t.lock) 34] (by kernel_rfl) (by kernel_rfl) H (by repeat (first|exact .refl _|exact List.nil_sublist _|refine .cons_cons _ ?_|refine .cons _ ?_)) ?_)))))))
   clear H;intro W H
   refine tR U (fun W H=>dF U U tf34_1) (tR U (fun W H=>dX (g:=gm) (off:=1) U H U U U ta32) (tR U (fun W H=>mv_i U U) (tR U (fun W H=>dF U U tf34_1) (tR U (fun W H=>dX (g:=gm) (off:=1) U H U U U ta32) (tR U (fun W H=>mv_i U U) (tR U (fun W H=>d_iaP (q:=i) U U U U hlt tu32 ts66) (tR U (fun W H=>dF U U tf66_1) (tf U (e_run (wn U) U (dE (q:=i) (off:=1) U (H.rowrd (A:=(some ⟨g2,0,none⟩))) hlt hLi U U U (by omega) ta41) ?_)))))))))
   refine ⟨_,fun _ h=>h,H.sb,?_⟩
   refine tf U (eN Tryz.func76 U U (cloneBy _ (H.bs hBy) hfy) H ?_)
   clear H;intro A8 c8 W hc8 hd8 H
   refine ⟨_,fun _ h=>h,H.sb,?_⟩
   refine tR U (fun W H=>d_iaP (q:=i) U U U U hlt tu32 ts66) (tR U (fun W H=>dF U U tf66_1) (tf U (e_stoG (v:=.slice A8 y.script.length c8) (k:=i*2+1) (s:=2) (e:=66) (m:=t.outs.length) (c:=d1) (wn U) U U U (by omega) U U ts41 U H (by omega) ?_)))
   clear H;intro W H
   refine ⟨_,fun _ h=>h,H.sb,?_⟩
   refine t_nil (kn (zE ?_))
   rw [mix_set hus2 (by decide) hyl hlt,hLy] at H
   replace H:=H.torb rfl
   replace H:=H.rerep (R':=ROut) (cs':=outC y.value A8 y.script.length c8) (b:=y) (fun h=>by obtain ⟨v,e,hb⟩:=h;cases e;exact out_rep hny hb)
   replace H:=(St.elsnoc (H.perm (.cons _ (.swap _ _ _))) rfl).perm (.swap _ _ _)
   refine kr (sAd U U (by omega) (sMi U (ln (kn (kY ?_)))))
   refine ⟨_,_,_,?_,U,?_,?_,⟨i+1,us2++outC y.value A8 y.script.length c8,_,U,U,by omega,(by rw [List.length_append,hus2,Nat.add_mul];rfl),(by rw [take_get hy,List.append_assoc];exact H)⟩⟩
   ·omega
   ·with_reducible repeat first|exact .refl|refine .f ?_ ?_ ?_;kernel_rfl;kernel_rfl|refine .u ?_ ?_;kernel_rfl
   ·refine ⟨?_,trivial⟩
    ·exact vi (by omega)
  ·obtain rfl:i=t.outs.length:=by simp at hc66;omega
   rw [List.take_length,mix_end hyl] at H
   refine ke (xt (xt ?_))
   refine xH (kR (sR (dM (g:=gm) (off:=0) U H (sa (a:=txC A1 t.ins.length c1 B1 t.outs.length d1 t.lock) (m:=3) U) U U U U ta34 ts34) (sf (esk (txC A1 t.ins.length c1 B1 t.outs.length d1 t.lock) U U U ts34 U U H (by decide) U ?_))))
   clear H;intro W H
   refine ln (kx ?_)
   refine q_retc U (c:=txC A1 t.ins.length c1 B1 t.outs.length d1 t.lock) (g:=go) H U ta34 ts34 ⟨_,U,A1,c1,B1,d1,us,us2,S1,S2,U,hc1,hc2,?_⟩
   exact (H.sub (L':=[_,_,_,_]) (by repeat (first|exact .refl _|exact List.nil_sublist _|refine .cons_cons _ ?_|refine .cons _ ?_))).perm (List.perm_append_comm (l₁:=[_,_]) (l₂:=[_,_]))

theorem xor8B {t:TypeId} {a b:UInt8}:binOp .xor t (.int .u8 (a.toNat:Int)) (.int .u8 (b.toNat:Int))=pure (.int .u8 ((a ^^^ b).toNat:Int)):=by
 have e:bits .xor .u8 (a.toNat:Int) (b.toNat:Int)=((a ^^^ b).toNat:Int):=by
  rw [u8_xor_nat _ _ a.toNat_lt b.toNat_lt,UInt8.toNat_xor]
 show Op.intBits .xor .u8 _ _=_
 rw [intBits_xor,e]
theorem spl_get {c vs:List Value} {k j:Nat} (h:k+vs.length<=c.length):(spl c k vs)[j]?=if j<k then c[j]? else if j<k+vs.length then vs[j - k]? else c[j]?:=by
 rw [spl_len _ _ _ h,List.append_assoc]
 have hk:(c.take k).length=k:=by rw [List.length_take];omega
 by_cases h1:j<k
 ·rw [if_pos h1,List.getElem?_append_left (by omega),List.getElem?_take_of_lt h1]
 ·rw [if_neg h1,List.getElem?_append_right (by omega),hk]
  by_cases h2:j<k+vs.length
  ·rw [if_pos h2,List.getElem?_append_left (by omega)]
  ·rw [if_neg h2,List.getElem?_append_right (by omega),List.getElem?_drop]
   congr 1;omega
theorem spl_take {c vs:List Value} {k N:Nat} (h:k+vs.length<=N) (hN:N<=c.length):(spl c k vs).take N=spl (c.take N) k vs:=by
 apply List.ext_getElem?
 intro j
 have hl:(c.take N).length=N:=by rw [List.length_take];omega
 rw [spl_get (c:=c.take N) (by omega)]
 by_cases hj:j<N
 ·rw [List.getElem?_take_of_lt hj,spl_get (by omega),List.getElem?_take_of_lt hj]
 ·rw [List.getElem?_eq_none (by rw [List.length_take,len_spl];omega),if_neg (by omega),if_neg (by omega),List.getElem?_eq_none (by omega)]
theorem sub_spl_self {xs vs:List Value} {i s:Nat} (hv:vs.length=s) (h:i*s+s<=xs.length):sub (spl xs (i*s) vs) (i*s) s=vs:=by
 apply List.ext_getElem?
 intro j
 unfold sub
 by_cases hj:j<s
 ·rw [List.getElem?_take_of_lt hj,List.getElem?_drop,spl_get (by omega),if_neg (by omega),if_pos (by omega),Nat.add_sub_cancel_left]
 ·rw [List.getElem?_eq_none (by rw [List.length_take];omega),List.getElem?_eq_none (by omega)]
theorem sub_spl_other {xs vs:List Value} {i j s:Nat} (hv:vs.length=s) (h:i*s+s<=xs.length) (hj:¬j=i):sub (spl xs (i*s) vs) (j*s) s=sub xs (j*s) s:=by
 apply List.ext_getElem?
 intro q
 unfold sub
 by_cases hq:q<s
 ·rw [List.getElem?_take_of_lt hq,List.getElem?_take_of_lt hq,List.getElem?_drop,List.getElem?_drop,spl_get (by omega)]
  by_cases h1:j*s+q<i*s
  ·rw [if_pos h1]
  ·rw [if_neg h1,if_neg (fun h2=>?_)]
   rcases Nat.lt_or_ge j i with h3|h3
   ·have:=Nat.mul_le_mul_right s (show j+1<=i by omega)
    rw [Nat.add_mul] at this
    omega
   ·have:=Nat.mul_le_mul_right s (show i+1<=j by omega)
    rw [Nat.add_mul] at this
    omega
 ·rw [List.getElem?_eq_none (by rw [List.length_take];omega),List.getElem?_eq_none (by rw [List.length_take];omega)]
section
variable {P:Program} {ops:Array Oper} {Q:Exit->Act->World->Prop} {o:Oper} {n:Nat} {ρ:Nat->Value} {ds:List Deferred} {W w w0:World} {K:Act->World->Prop} {T:Nat->Prop} {L L':List Fact} {x y:Operand} {v:Value} {t e:TypeId}
theorem e_stoGX {m c q k s g:Nat} {xs vs:List Value} {L'':Fact->List Fact} (hw:Region.wanted o (yielded ops (st n ρ ds).tmps)=true) (hd:o.dst=none) (ho:o.op=.store t x y) (hx:ev n ρ x=.pointer (some ⟨g,q,none⟩)) (hq:q=k) (hy:ev n ρ y=v) (hv:v.cells=vs.toArray) (hs:(P.info? t).map (·.size)=some vs.length) (h1:vs.all (·.oneCell')=true) (H:St T w0 W L) [ht:RowTo e s (.slice (some ⟨g,0,none⟩) m c) m L xs L''] (hk:k+vs.length<=m*s)
  (kk:∀W',St T w0 W' (L'' (Fact.row e s (.slice (some ⟨g,0,none⟩) m c) m (spl xs k vs)))->K (st n ρ ds) W'):Step P ops Q o (st n ρ ds) W K:=by
 subst hq
 obtain ⟨M,hp1,hp2⟩:=ht.perm
 have H1:=H.perm hp1
 have h:W.ownsRow 0 e s (.slice (some ⟨g,0,none⟩) m c) m xs:=H1.holds _ (.head _)
 rcases h.2 with ⟨h2,h3⟩|⟨g',cap,cur,hv',hb,hh,h2,h3,h4,h5⟩
 ·cases h2
 ·cases hv'
  have hcur:W.heap[g]?=some (.cells cur.toList.toArray e (0,0)):=by simpa using hh
  have hlen:cur.toList.length=c*s:=by simpa using h4
  have hmc:=Nat.mul_le_mul_right s h2
  have hrun:=run_storeVar (P:=P) W g q t v vs hv (blk_there hcur (by omega)) hs h1
  refine e_do hw hd (W':=W.setCells g q vs) (by
   unfold Does execOp
   simp [ho,hx,hy,Instr.storeAt,Instr.sureAddr,hrun]) ?_
  have hset:=setCells_heap g vs q W cur.toList e hcur
  have h5':cur.toList.take (m*s)=xs:=h5
  have hst:(spl cur.toList q vs).take (m*s)=spl xs q vs:=by rw [←h5'];exact spl_take hk (by omega)
  refine kk _ ((H1.turn0 (f':=Fact.row e s (.slice (some ⟨g,0,none⟩) m c) m (spl xs q vs)) (Fr.mono' (setCells_fr g vs q W) (fun g' hg'=>by subst hg';rfl)) ?_ (fun g hg=>.inl hg)).perm (hp2 _).symm)
  have hl:=len_spl vs cur.toList q
  refine ⟨by rw [len_spl];exact h.1,.inr ⟨g,c,_,U,hb,hset,h2,h3,by simp only [List.size_toArray];omega,hst⟩⟩
end
theorem swap_perm:∀{l:List DTx} {q:Nat} {a b:DTx},l[q]?=some a->l[q+1]?=some b->((l.set q b).set (q+1) a).Perm l
 | [],q,a,b,h,_=>by simp at h
 | [x],q,a,b,_,h=>by simp at h
 | x::y::l,0,a,b,h,k=>by
  obtain rfl:x=a:=by simpa using h
  obtain rfl:y=b:=by simpa using k
  exact .swap _ _ _
 | x::y::l,q+1,a,b,h,k=>.cons _ (swap_perm (l:=y::l) (q:=q) (by simpa using h) (by simpa using k))
theorem first_zero:∀{l:List DTx},(∀t∈l,Tx.chk t=0)->Bk.firstErr l=0
 | [],_=>rfl
 | t::l,h=>by
  rw [Bk.firstErr,if_neg (fun e=>e (h t (.head _)))]
  exact first_zero (fun x hx=>h x (.tail _ hx))
theorem els_swap {W:World} {S:Nat->Prop} {zs ca cb:List Value} {l:List DTx} {q:Nat} {a b:DTx} (hl:zs.length=l.length*3∧∀(i:Nat) (x:DTx),l[i]?=some x->RTx W S (sub zs (i*3) 3) x) (ha:l[q]?=some a) (hb:l[q+1]?=some b) (hca:sub zs (q*3) 3=ca) (hcb:sub zs ((q+1)*3) 3=cb) (la:ca.length=3) (lb:cb.length=3) :
  (spl (spl zs (q*3) cb) ((q+1)*3) ca).length=((l.set q b).set (q+1) a).length*3∧∀(i:Nat) (x:DTx),((l.set q b).set (q+1) a)[i]?=some x->RTx W S (sub (spl (spl zs (q*3) cb) ((q+1)*3) ca) (i*3) 3) x:=by
 have hqa:=(List.getElem?_eq_some_iff.1 ha).1
 have hqb:=(List.getElem?_eq_some_iff.1 hb).1
 have hz:=hl.1
 refine ⟨by rw [len_spl,len_spl,List.length_set,List.length_set];exact hz,fun i x hx=>?_⟩
 rw [List.getElem?_set] at hx
 by_cases h1:q+1=i
 ·subst h1
  rw [if_pos rfl,if_pos (by rw [List.length_set];exact hqb)] at hx
  obtain rfl:a=x:=by simpa using hx
  rw [sub_spl_self la (by rw [len_spl];omega),←hca]
  exact hl.2 q a ha
 ·rw [if_neg h1,List.getElem?_set] at hx
  rw [sub_spl_other la (by rw [len_spl];omega) (fun e=>h1 e.symm)]
  by_cases h2:q=i
  ·subst h2
   rw [if_pos rfl,if_pos hqa] at hx
   obtain rfl:b=x:=by simpa using hx
   rw [sub_spl_self lb (by omega),←hcb]
   exact hl.2 (q+1) b hb
  ·rw [if_neg h2] at hx
   rw [sub_spl_other lb (by omega) (fun e=>h2 e.symm)]
   exact hl.2 i x hx
theorem rl_get {W:World} {S:Nat->Prop} {A:Option Addr} {n c:Nat} {zs:List Value} {l:List DTx} (hr:Rd W (0<=·) 3 A n zs) (hn:l.length=n) (he:zs.length=l.length*3∧∀(i:Nat) (x:DTx),l[i]?=some x->RTx W S (sub zs (i*3) 3) x) (hc:n<=c∧c<=9223372036854775807):RL 3 RTx W (0<=·) [.slice A l.length c] l:=by
 subst hn
 exact ⟨A,c,zs,U,hc.1,hc.2,hr,fun i x hx=>mono_Tx _ _ _ _ _ (he.2 i x hx) (fun _ _ _=>Nat.zero_le _)⟩
theorem bigL_f {l:List DTx} (h:bigL l=false):l.length<=20∧∀t∈l,Tx.Fits t:=by
 unfold bigL at h
 rw [Bool.or_eq_false_iff] at h
 refine ⟨by have:=of_decide_eq_false h.1;omega,fun t ht=>?_⟩
 have hb:Tx.big 20 2048 t=false:=by
  refine Bool.eq_false_iff.2 (fun e=>?_)
  have:=List.any_eq_true.2 ⟨t,ht,e⟩
  rw [h.2] at this
  cases this
 exact Tx.fits (Tx.not_big hb (by decide)) (by decide) (by decide)
theorem spl_b_r0 {p rt:List UInt8} {k:Int} {x y:UInt8} {A:Option Addr} {m c:Nat} (hp:p.length=32):spl (bC ⟨p,x::rt,k⟩ A m c) 32 [u8v y]=bC ⟨p,y::rt,k⟩ A m c:=by
 have hl:(p.map u8v).length=32:=by rw [List.length_map];exact hp
 unfold bC hdrC
 rw [spl_cons,spl_nil,List.append_assoc,List.append_assoc,List.set_append_right _ _ (by rw [hl];exact Nat.le_refl _),hl,Nat.sub_self,List.append_assoc,List.append_assoc]
 rfl
theorem sub_b_r0 {p rt:List UInt8} {k:Int} {x:UInt8} {A:Option Addr} {m c:Nat} (hp:p.length=32):sub (bC ⟨p,x::rt,k⟩ A m c) 32 1=[u8v x]:=by
 have hl:(p.map u8v).length=32:=by rw [List.length_map];exact hp
 unfold bC hdrC sub
 dsimp only
 rw [List.append_assoc,←hl,List.drop_left]
 rfl
theorem root_cons {r:List UInt8} (h:r.length=32):∃x rt,r=x::rt:=by
 cases r with
 | nil=>cases h
 | cons x rt=>exact ⟨x,rt,rfl⟩
def mkH (p:List UInt8) (l:List DTx) (k:Int):DHeader:=⟨p,rootB l,k⟩
theorem mkH_ok {p:List UInt8} {l:List DTx} {k:Int} (hp:p.length=32) (hk:I64 k):Bk.OkH (mkH p l k):=⟨hp,len_rootB l,hk⟩

theorem makeP {S:Nat->Prop} {A:Option Addr} {c:Nat} {l:List DTx} (w:World) (hl:RL 3 RTx w S [.slice A l.length c] l) (hG:Gat w 0 formsC) (hB:Old.Gl w) {p:List UInt8} (hp:p.length=32) {k:Int} (hk:I64 k) (hn:l.length<=1000000) (hf:∀t∈l,Tx.Fits t):Calls Tryz.prog 6 [.agg (p.map u8v).toArray,.int .i64 k,.slice A l.length c].toArray w (Ret (fun v' w'=>∃A3 c3 zs S3,v'=.agg (bC (mkH p l k) A3 l.length c3).toArray∧(l.length<=c3∧c3<=9223372036854775807)∧St nT w w' [Fact.row 34 3 (.slice A3 l.length c3) l.length zs,Fact.els RTx 3 S3 zs l])):=by
 have hl0:=hl
 obtain ⟨A_,c_,xs,hv_,_,_,hr,hel⟩:=hl0
 cases hv_
 have hh:Bk.OkH (mkH p l k):=mkH_ok hp hk
 have hpl:(p.map u8v).length=32:=by rw [List.length_map];exact hp
 have hrl:((rootB l).map u8v).length=32:=by rw [List.length_map];exact len_rootB l
 refine kE (l:=[_,_,_]) Tryz.func6 U U ?_
 have H:=St.start nT w
 refine kR (sf (ebx (vs:=(p.map u8v)) U U H ?_))
 clear H;intro gp W H
 refine sf (eal (bC zHd none 0 0) tz28 H ?_)
 clear H;intro go W H
 refine ln (kQ (k_cut 10 [7] (fun sl W=>∃gb:Nat,sl=[(7,.pointer (some ⟨gb,0,none⟩))]∧St nT w W [Fact.blk gb (bC (mkH p l k) none 0 0) 28,Fact.blk go (bC zHd none 0 0) 28]) ?_ (fun sl ρv W hJ=>?_)))
 ·skip
  refine k_drawT (.rd 0 (.rd 1 (.rd 3 (.many 4 [2,6] fun j=>(bif Nat.beq j 2 then (.rd 4 (.rd 5 (.ef 6 (.ef 7 .nil)))) else (.ef 2 (.rd 4 (.rd 5 (.ef 7 .nil))))))))) [Fact.blk gp (p.map u8v) 24] (by kernel_rfl) (by kernel_rfl) H (by repeat (first|exact .refl _|exact List.nil_sublist _|refine .cons_cons _ ?_|refine .cons _ ?_)) ?_
  clear H;intro W H
  refine tR U (fun W H=>d_ldm0 (g:=gp) U H U ta24 ts24 hpl) (tR U (fun W H=>mv_s U U) (tR U (fun W H=>mv_i U U) (t_each ?_ ?_)))
  ·skip
   refine tf U (eI Tryz.func20 U U (rootP _ (keeps_L keeps_Tx _ _ _ _ _ hl (fun g hg _=>H.fr.block g hg (fun h=>h))) (H.gat hG) (H.gl hB) hn) H ?_)
   clear H;intro W H
   refine ⟨_,fun _ h=>h,H.sb,?_⟩
   refine tR U (fun W H=>dB (vs:=hdrC (mkH p l k)) U (built_fields (places:=[(0,32),(32,32),(64,1)]) tz26 (by kernel_rfl) (by kernel_rfl) (fN (vs:=p.map u8v) (.agg (p.map u8v).toArray) U U U hpl (Nat.le_of_ble_eq_true U) (fN (vs:=(rootB l).map u8v) (.agg ((rootB l).map u8v).toArray) U (by first|(simp [hpl];done)|(simp [hpl];omega)) U hrl (Nat.le_of_ble_eq_true U) (fN (vs:=[.int .i64 k]) (.int .i64 k) U (by first|(simp [hpl,hrl];done)|(simp [hpl,hrl];omega)) U U (Nat.le_of_ble_eq_true U) (fill_end (by rw [List.drop_drop,List.drop_drop,List.drop_of_length_le (by rw [len_hdr zHd_ok];exact Nat.le_refl _)];simp [hdrC,mkH]))))))) ?_
   refine tR U (fun W H=>dB (vs:=bC (mkH p l k) none 0 0) U (built_fields (places:=[(0,65),(65,1)]) tz28 (by kernel_rfl) (by kernel_rfl) (fN (vs:=hdrC (mkH p l k)) (.agg (hdrC (mkH p l k)).toArray) U U U (len_hdr hh) (Nat.le_of_ble_eq_true U) (fill_end (by rfl))))) ?_
   refine tf U (eal (bC zHd none 0 0) tz28 H ?_)
   clear H;intro gb W H
   refine ⟨_,fun _ h=>h,H.sb,?_⟩
   refine tf U (esk (bC (mkH p l k) none 0 0) U U U ts28 (lB hh) blk_one H (by rw [lB zHd_ok];decide) (spl_all ((lB hh).trans (lB zHd_ok).symm)) ?_)
   clear H;intro W H
   refine ⟨_,fun _ h=>h,H.sb,?_⟩
   refine t_nil (kn (n_then ?_))
   refine ⟨_,_,U,?_,?_,⟨gb,U,(H.sub (L':=[_,_]) (by repeat (first|exact .refl _|exact List.nil_sublist _|refine .cons_cons _ ?_|refine .cons _ ?_)))⟩⟩
   ·with_reducible repeat first|exact .refl|refine .f ?_ ?_ ?_;kernel_rfl;kernel_rfl|refine .u ?_ ?_;kernel_rfl
   ·refine ⟨?_,trivial⟩
    ·exact U
  refine t_each ?_ ?_
  ·skip
   refine tf U (eal (bC zHd none 0 0) tz28 H ?_)
   clear H;intro gb W H
   refine ⟨_,fun _ h=>h,H.sb,?_⟩
   refine tf U (eI Tryz.func20 U U (rootP _ (keeps_L keeps_Tx _ _ _ _ _ hl (fun g hg _=>H.fr.block g hg (fun h=>h))) (H.gat hG) (H.gl hB) hn) H ?_)
   clear H;intro W H
   refine ⟨_,fun _ h=>h,H.sb,?_⟩
   refine tR U (fun W H=>dB (vs:=hdrC (mkH p l k)) U (built_fields (places:=[(0,32),(32,32),(64,1)]) tz26 (by kernel_rfl) (by kernel_rfl) (fN (vs:=p.map u8v) (.agg (p.map u8v).toArray) U U U hpl (Nat.le_of_ble_eq_true U) (fN (vs:=(rootB l).map u8v) (.agg ((rootB l).map u8v).toArray) U (by first|(simp [hpl];done)|(simp [hpl];omega)) U hrl (Nat.le_of_ble_eq_true U) (fN (vs:=[.int .i64 k]) (.int .i64 k) U (by first|(simp [hpl,hrl];done)|(simp [hpl,hrl];omega)) U U (Nat.le_of_ble_eq_true U) (fill_end (by rw [List.drop_drop,List.drop_drop,List.drop_of_length_le (by rw [len_hdr zHd_ok];exact Nat.le_refl _)];simp [hdrC,mkH]))))))) ?_
   refine tR U (fun W H=>dB (vs:=bC (mkH p l k) none 0 0) U (built_fields (places:=[(0,65),(65,1)]) tz28 (by kernel_rfl) (by kernel_rfl) (fN (vs:=hdrC (mkH p l k)) (.agg (hdrC (mkH p l k)).toArray) U U U (len_hdr hh) (Nat.le_of_ble_eq_true U) (fill_end (by rfl))))) ?_
   refine tf U (esk (bC (mkH p l k) none 0 0) U U U ts28 (lB hh) blk_one H (by rw [lB zHd_ok];decide) (spl_all ((lB hh).trans (lB zHd_ok).symm)) ?_)
   clear H;intro W H
   refine ⟨_,fun _ h=>h,H.sb,?_⟩
   refine t_nil (kn (n_then ?_))
   refine ⟨_,_,U,?_,?_,⟨gb,U,(H.sub (L':=[_,_]) (by repeat (first|exact .refl _|exact List.nil_sublist _|refine .cons_cons _ ?_|refine .cons _ ?_)))⟩⟩
   ·with_reducible repeat first|exact .refl|refine .f ?_ ?_ ?_;kernel_rfl;kernel_rfl|refine .u ?_ ?_;kernel_rfl
   ·refine ⟨?_,trivial⟩
    ·exact U
  exact t_none
 clear H;obtain ⟨gb,rfl,H⟩:=hJ
 refine kQ (kR (sMs U (sLn U tu22 (sMi U (ln (kb (kL 18 [9] (fun mm sl W=>∃i:Nat,∃A3:Option Addr,∃c3:Nat,∃zs:List Value,∃S3:Nat->Prop,l.length - i=mm∧sl=[(18,.int .i64 (i:Int))]∧(i<=l.length)∧(i<=c3∧c3<=9223372036854775807)∧St nT w W [Fact.row 34 3 (.slice A3 i c3) i zs,Fact.els RTx 3 S3 zs (l.take i),Fact.blk gb (bC (mkH p l k) A3 i c3) 28,Fact.blk go (bC zHd none 0 0) 28]) _ _ ⟨0,none,0,[],(fun _=>False),U,U,Nat.zero_le _,⟨Nat.le_refl _,by omega⟩,((H.els0 RTx 3).nilrow 34 3)⟩ ⟨U,trivial⟩ (fun mm sl ρv W hJ=>?_))))))))
 clear H;obtain ⟨i,A3,c3,zs,S3,rfl,rfl,hi,hd3,H⟩:=hJ
 refine ko (kR (sLt U U (ln (kQ (kC U (fun hc19=>?_) (fun hc19=>?_))))))
 ·have hlt:i<l.length:=by simp at hc19;omega
  obtain ⟨g0,o0,rfl,-⟩:=hr.2 (by omega)
  obtain ⟨t,ht⟩:=get_lt hlt
  have hRt:=hel i t ht
  obtain ⟨Ai,ci,Bi,di,hL,-,-,hkt⟩:=tx_of hRt
  rw [hL] at hRt
  have hft:=hf t (List.mem_of_getElem? ht)
  refine kS (kQ (kb (kR (sR (dG U (H.rd hr) U U (q:=i) U hlt tu22 ts34) (sR (dN (off:=0) U (H.rd hr) hlt hL (sa (a:=txC Ai t.ins.length ci Bi t.outs.length di t.lock) (m:=3) U) U U (by omega) ta34 ts34) (sf (eal [.slice none 0 0,.slice none 0 0,.int .i64 0] tz34 H ?_)))))))
  clear H;intro gx W H
  refine sf (esk (txC Ai t.ins.length ci Bi t.outs.length di t.lock) U U U ts34 U U H (by decide) U ?_)
  clear H;intro W H
  refine ln (k_cut 22 [] (fun sl W=>∃A7:Option Addr,∃c7:Nat,∃ws:List Value,∃S7:Nat->Prop,sl=[]∧(i+1<=c7)∧(c7<=9223372036854775807)∧St nT w W [Fact.row 34 3 (.slice A7 (i+1) c7) (i+1) ws,Fact.els RTx 3 S7 ws (l.take i++[t]),Fact.blk gb (bC (mkH p l k) A7 (i+1) c7) 28,Fact.blk go (bC zHd none 0 0) 28]) ?_ (fun sl ρv W hJ=>?_))
  ·skip
   refine k_drawT (.rd 0 (.rd 2 (.many 5 [1,3] fun j=>(bif Nat.beq j 1 then (.ef 3 (.ef 4 (.ef 5 (.rd 6 (.ef 7 .nil))))) else (.many 4 [1,4] fun j=>(bif Nat.beq j 1 then (.ef 4 (.ef 5 (.rd 6 (.ef 7 .nil)))) else (.ef 1 (.ef 5 (.rd 6 (.ef 7 .nil)))))))))) [Fact.blk gx (txC Ai t.ins.length ci Bi t.outs.length di t.lock) 34] (by kernel_rfl) (by kernel_rfl) H (by repeat (first|exact .refl _|exact List.nil_sublist _|refine .cons_cons _ ?_|refine .cons _ ?_)) ?_
   clear H;intro W H
   refine tR U (fun W H=>dF U U tf28_1) (tR U (fun W H=>dM (g:=gx) (off:=0) U H (sa (a:=txC Ai t.ins.length ci Bi t.outs.length di t.lock) (m:=3) U) U U U U ta34 ts34) (t_each ?_ ?_))
   ·skip
    refine tf U (e_run (wn U) U (dX (g:=gb) (off:=65) U H (sub_b_txs hh) U U ta22) ?_)
    refine ⟨_,fun _ h=>h,H.sb,?_⟩
    refine tf U (ecl Tryz.func32 U U (freshP _ (keeps_Tx _ _ _ _ _ hRt (fun g hg _=>H.fr.block g hg (fun h=>h))) hft) ?_)
    rintro _ W hs_
    obtain ⟨Sn5,An5,cn5,Bn5,dn5,rfl,H1_⟩:=NewTx.rep hs_ H hkt
    clear H hs_
    have H:=H1_
    clear H1_
    refine ⟨_,fun _ h=>h,H.sb,?_⟩
    refine tf U (ebs (xs:=[.tmp 25]) (vals:=[.agg (txC An5 t.ins.length cn5 Bn5 t.outs.length dn5 t.lock).toArray]) (vs:=(txC An5 t.ins.length cn5 Bn5 t.outs.length dn5 t.lock)) U U U U tu22 ts34 ty34 U (by simp [agg_cells,txC]) (by simp [agg_cells]) H ?_)
    clear H;intro g5_4 W H
    refine ⟨_,fun _ h=>h,H.sb,?_⟩
    refine tf U (eap tu22 tx34 U U U H (rd_blk (m:=1) H.blk U) (U) (by omega) U ?_)
    clear H;intro A7 c7 W hc7 hd7 H
    replace H:=H.drop
    refine ⟨_,fun _ h=>h,H.sb,?_⟩
    refine tR U (fun W H=>dF U U tf28_1) (tf U (esk (v:=.slice A7 (i+1) c7) (vs:=[.slice A7 (i+1) c7]) (bC (mkH p l k) A7 (i+1) c7) U U U ts22 U U H (by rw [lB hh];decide) (spl_b_txs hh) ?_))
    clear H;intro W H
    refine ⟨_,fun _ h=>h,H.sb,?_⟩
    refine t_nil (kn (n_then ?_))
    replace H:=(H.perm (.swap _ _ _)).drop
    replace H:=(St.elsnoc (H.perm (.cons _ (.swap _ _ _))) rfl).perm (.swap _ _ _)
    refine ⟨_,_,U,?_,?_,⟨A7,c7,_,_,U,hc7,hd7,H⟩⟩
    ·with_reducible repeat first|exact .refl|refine .f ?_ ?_ ?_;kernel_rfl;kernel_rfl|refine .u ?_ ?_;kernel_rfl
    ·exact trivial
   refine t_each ?_ ?_
   ·skip
    refine tf U (ecl Tryz.func32 U U (freshP _ (keeps_Tx _ _ _ _ _ hRt (fun g hg _=>H.fr.block g hg (fun h=>h))) hft) ?_)
    rintro _ W hs_
    obtain ⟨Sn5,An5,cn5,Bn5,dn5,rfl,H1_⟩:=NewTx.rep hs_ H hkt
    clear H hs_
    have H:=H1_
    clear H1_
    refine ⟨_,fun _ h=>h,H.sb,?_⟩
    refine t_each ?_ ?_
    ·skip
     refine tf U (e_run (wn U) U (dX (g:=gb) (off:=65) U H (sub_b_txs hh) U U ta22) ?_)
     refine ⟨_,fun _ h=>h,H.sb,?_⟩
     refine tf U (ebs (xs:=[.tmp 25]) (vals:=[.agg (txC An5 t.ins.length cn5 Bn5 t.outs.length dn5 t.lock).toArray]) (vs:=(txC An5 t.ins.length cn5 Bn5 t.outs.length dn5 t.lock)) U U U U tu22 ts34 ty34 U (by simp [agg_cells,txC]) (by simp [agg_cells]) H ?_)
     clear H;intro g5_4 W H
     refine ⟨_,fun _ h=>h,H.sb,?_⟩
     refine tf U (eap tu22 tx34 U U U H (rd_blk (m:=1) H.blk U) (U) (by omega) U ?_)
     clear H;intro A7 c7 W hc7 hd7 H
     replace H:=H.drop
     refine ⟨_,fun _ h=>h,H.sb,?_⟩
     refine tR U (fun W H=>dF U U tf28_1) (tf U (esk (v:=.slice A7 (i+1) c7) (vs:=[.slice A7 (i+1) c7]) (bC (mkH p l k) A7 (i+1) c7) U U U ts22 U U H (by rw [lB hh];decide) (spl_b_txs hh) ?_))
     clear H;intro W H
     refine ⟨_,fun _ h=>h,H.sb,?_⟩
     refine t_nil (kn (n_then ?_))
     replace H:=(H.perm (.swap _ _ _)).drop
     replace H:=(St.elsnoc (H.perm (.cons _ (.swap _ _ _))) rfl).perm (.swap _ _ _)
     refine ⟨_,_,U,?_,?_,⟨A7,c7,_,_,U,hc7,hd7,H⟩⟩
     ·with_reducible repeat first|exact .refl|refine .f ?_ ?_ ?_;kernel_rfl;kernel_rfl|refine .u ?_ ?_;kernel_rfl
     ·exact trivial
    refine t_each ?_ ?_
    ·skip
     refine tf U (ebs (xs:=[.tmp 25]) (vals:=[.agg (txC An5 t.ins.length cn5 Bn5 t.outs.length dn5 t.lock).toArray]) (vs:=(txC An5 t.ins.length cn5 Bn5 t.outs.length dn5 t.lock)) U U U U tu22 ts34 ty34 U (by simp [agg_cells,txC]) (by simp [agg_cells]) H ?_)
     clear H;intro g5_4 W H
     refine ⟨_,fun _ h=>h,H.sb,?_⟩
     refine tf U (e_run (wn U) U (dX (g:=gb) (off:=65) U H (sub_b_txs hh) U U ta22) ?_)
     refine ⟨_,fun _ h=>h,H.sb,?_⟩
     refine tf U (eap tu22 tx34 U U U H (rd_blk (m:=1) H.blk U) (U) (by omega) U ?_)
     clear H;intro A7 c7 W hc7 hd7 H
     replace H:=H.drop
     refine ⟨_,fun _ h=>h,H.sb,?_⟩
     refine tR U (fun W H=>dF U U tf28_1) (tf U (esk (v:=.slice A7 (i+1) c7) (vs:=[.slice A7 (i+1) c7]) (bC (mkH p l k) A7 (i+1) c7) U U U ts22 U U H (by rw [lB hh];decide) (spl_b_txs hh) ?_))
     clear H;intro W H
     refine ⟨_,fun _ h=>h,H.sb,?_⟩
     refine t_nil (kn (n_then ?_))
     replace H:=(H.perm (.swap _ _ _)).drop
     replace H:=(St.elsnoc (H.perm (.cons _ (.swap _ _ _))) rfl).perm (.swap _ _ _)
     refine ⟨_,_,U,?_,?_,⟨A7,c7,_,_,U,hc7,hd7,H⟩⟩
     ·with_reducible repeat first|exact .refl|refine .f ?_ ?_ ?_;kernel_rfl;kernel_rfl|refine .u ?_ ?_;kernel_rfl
     ·exact trivial
    exact t_none
   exact t_none
  clear H;obtain ⟨A7,c7,ws,S7,rfl,hc7,hd7,H⟩:=hJ
  refine kn (zE (kr (sAd U U (by omega) (sMi U (ln (kn (kY ?_)))))))
  refine ⟨_,_,_,?_,U,?_,?_,⟨i+1,A7,c7,ws,S7,U,U,by omega,⟨hc7,hd7⟩,(by rw [take_get ht];exact H)⟩⟩
  ·omega
  ·with_reducible repeat first|exact .refl|refine .f ?_ ?_ ?_;kernel_rfl;kernel_rfl|refine .u ?_ ?_;kernel_rfl
  ·refine ⟨?_,trivial⟩
   ·exact vi (by omega)
 ·obtain rfl:i=l.length:=by simp at hc19;omega
  rw [List.take_length] at H
  refine ke (xt (xt ?_))
  refine xH (kR (sR (dM (g:=gb) (off:=0) U H (sa (lB hh)) (lB hh) U U U ta28 ts28) (sf (esk (bC (mkH p l k) A3 l.length c3) U U U ts28 (lB hh) blk_one H (by rw [lB zHd_ok];decide) (spl_all ((lB hh).trans (lB zHd_ok).symm)) ?_))))
  clear H;intro W H
  refine ln (kx ?_)
  refine q_retc U (c:=bC (mkH p l k) A3 l.length c3) (g:=go) H U ta28 (by rw [lB hh];exact ts28) ⟨_,U,A3,c3,zs,S3,U,hd3,?_⟩
  exact H.sub (L':=[_,_]) (by repeat (first|exact .refl _|exact List.nil_sublist _|refine .cons_cons _ ?_|refine .cons _ ?_))

section
variable {hd:DHeader} {l:List DTx}
theorem chk_parts (h:Bk.chk BTG ⟨hd,l⟩=0):¬(hd.nonce<0∨1073741824<hd.nonce)∧¬16<l.length∧Bk.firstErr l=0∧(digs l).Nodup∧rootB l=hd.root:=by
 obtain ⟨h1,h2,h3,h4,h5⟩:=Bk.chk_of h
 exact ⟨by dsimp only at h1;omega,by dsimp only at h2;omega,first_zero h3,twice_digs.1 h4,(rootB_tx l).symm.trans h5⟩
theorem chk_root {p r:List UInt8} {k:Int} (h:Bk.chk BTG ⟨mkH p l k,l⟩=0) (hr:rootB l≠r):Bk.chk BTG ⟨⟨p,r,k⟩,l⟩=6:=by
 obtain ⟨h1,h2,h3,h4,h5⟩:=chk_parts h
 exact chk_6 (b:=⟨⟨p,r,k⟩,l⟩) h1 h2 h3 h4 hr
theorem chk_swap {q:Nat} {a b:DTx} (h:Bk.chk BTG ⟨hd,l⟩=0) (ha:l[q]?=some a) (hb:l[q+1]?=some b):Bk.chk BTG ⟨hd,(l.set q b).set (q+1) a⟩=if rootB ((l.set q b).set (q+1) a)=hd.root then 0 else 6:=by
 obtain ⟨h1,h2,h3,h4,h5⟩:=chk_parts h
 have hp:=swap_perm ha hb
 have e2:¬16<((l.set q b).set (q+1) a).length:=by rw [List.length_set,List.length_set];exact h2
 have e3:Bk.firstErr ((l.set q b).set (q+1) a)=0:=first_zero (fun t ht=>Bk.first_ok h3 t (hp.mem_iff.1 ht))
 have e4:(digs ((l.set q b).set (q+1) a)).Nodup:=(hp.map digA).nodup_iff.2 h4
 by_cases hr:rootB ((l.set q b).set (q+1) a)=hd.root
 ·rw [if_pos hr]
  exact chk_0 (b:=⟨hd,(l.set q b).set (q+1) a⟩) h1 e2 e3 e4 hr
 ·rw [if_neg hr]
  exact chk_6 (b:=⟨hd,(l.set q b).set (q+1) a⟩) h1 e2 e3 e4 hr
end
theorem Tx.chk_ne6 {t:DTx}:Tx.chk t≠6:=by
 unfold Tx.chk
 repeat (split;decide)
 decide
theorem made_ne {p:List UInt8} {l:List DTx} {k:Int}:Bk.chk BTG ⟨mkH p l k,l⟩≠6:=fun h=>by
 unfold Bk.chk at h
 split at h
 ·cases h
 ·split at h
  ·cases h
  ·split at h
   ·rename_i h9
    have key:∀(l:List DTx),Bk.firstErr l≠6:=by
     intro l
     induction l with
     | nil=>intro e;cases e
     | cons t l ih =>
      intro e
      rw [Bk.firstErr] at e
      split at e
      ·exact Tx.chk_ne6 e
      ·exact ih e
    exact key _ h
   ·split at h
    ·cases h
    ·split at h
     ·rename_i h9
      rw [rootB_tx] at h9
      have:(rootB l == (mkH p l k).root)=true:=beq_self_eq_true _
      rw [this] at h9
      cases h9
     ·cases h
theorem checkBP' {S:Nat->Prop} {A:Option Addr} {c n:Nat} {b:DBlock} (w:World) (hn:b.txs.length=n) (hl:RL 3 RTx w S [.slice A b.txs.length c] b.txs) (hh:Bk.OkH b.header) (hG:Gat w 0 formsC) (hB:Old.Gl w):Calls Tryz.prog 18 [.agg (bC b.header A n c).toArray].toArray w (Ret (Is w (.int .i64 (Bk.chk BTG b)))):=by
 subst hn
 exact checkBP w hl hh hG hB
theorem xor8C {t:TypeId} {a:UInt8}:binOp .xor t (.int .u8 (a.toNat:Int)) (.int .u8 1)=pure (.int .u8 ((a ^^^ 1).toNat:Int)):=xor8B (b:=1)
theorem xor_ne (x:UInt8):x ^^^ 1≠x:=fun h=>by
 have h2:x ^^^ (x ^^^ 1)=x ^^^ x:=by rw [h]
 rw [←UInt8.xor_assoc,UInt8.xor_self,UInt8.zero_xor] at h2
 cases h2
theorem xor_xor (x:UInt8):x ^^^ 1 ^^^ 1=x:=by rw [UInt8.xor_assoc,UInt8.xor_self,UInt8.xor_zero]

theorem blockMadeB {S:Nat->Prop} {A:Option Addr} {c:Nat} {l:List DTx} (w:World) (hl:RL 3 RTx w S [.slice A l.length c] l) (hG:Gat w 0 formsC) (hB:Old.Gl w) (hz:∀t∈l,Tx.Szd t) {p:List UInt8} (hp:p.length=32) {k:Int} (hk:I64 k) {at_:Int} (hat:I64 at_):Calls Tryz.prog 10 [.agg (p.map u8v).toArray,.int .i64 k,.slice A l.length c,.int .i64 at_].toArray w (Ret (Is w (.bool true))):=by
 have hll:=rl_len hl
 have hh:Bk.OkH (mkH p l k):=mkH_ok hp hk
 have hpl:(p.map u8v).length=32:=by rw [List.length_map];exact hp
 refine kE (l:=[_,_,_,_]) Tryz.func10 U U ?_
 have H:=St.start nT w
 refine kR (sf (ebx (vs:=(p.map u8v)) U U H ?_))
 clear H;intro gp W H
 refine sAb U (ln (kQ (kR (sMs U (sf (eI Tryz.func15 U U (bigLP _ (keeps_L keeps_Tx _ _ _ _ _ hl (fun g hg _=>H.fr.block g hg (fun h=>h))) hz) H ?_))))))
 clear H;intro W H
 refine ln (kC U (fun hc14=>?_) (fun hc14=>?_))
 ·skip
  refine kR (sf (eI Tryz.func14 U U (works09 _ (H.gat hG) (H.gl hB)) H ?_))
  clear H;intro W H
  refine sAb U (ln (kx ?_))
  exact qr (v:=.bool _) U U ⟨_,U,U,H.under⟩
 ·obtain ⟨hl20,hft⟩:=bigL_f (by exact hc14)
  refine kS (kR (sR (d_ldm0 (g:=gp) U H U ta24 ts24 hpl) (sMi U (sMs U (sf (ecl Tryz.func6 U U (makeP _ (keeps_L keeps_Tx _ _ _ _ _ hl (fun g hg _=>H.fr.block g hg (fun h=>h))) (H.gat hG) (H.gl hB) hp hk (by omega) hft) ?_))))))
  rintro _ W ⟨A3,c3,zs,S3,rfl,hd3,hn3⟩
  replace H:=H.add2 hn3
  clear hn3
  refine sf (eal (bC zHd none 0 0) tz28 H ?_)
  clear H;intro gb W H
  refine sf (esk (bC (mkH p l k) A3 l.length c3) U U U ts28 (lB hh) blk_one H (by rw [lB zHd_ok];decide) (spl_all ((lB hh).trans (lB zHd_ok).symm)) ?_)
  clear H;intro W H
  refine lkR (sR (dM (g:=gb) (off:=0) U H (sa (lB hh)) (lB hh) U U U ta28 ts28) (sf (eI Tryz.func18 U U (checkBP (b:=⟨(mkH p l k),l⟩) _ (rl_get (H.rowrd (A:=A3) (s:=3) (m:=l.length) (c:=c3) (xs:=zs)) U (H.get (f:=Fact.els RTx 3 S3 zs l)) hd3) hh (H.gat hG) (H.gl hB)) H ?_)))
  clear H;intro W H
  refine sAi U (ln (kQ (kQ (k_draw [(0,true),(1,true),(2,true),(3,true),(4,true),(5,true),(6,true),(7,true),(8,true),(9,true),(10,true),(11,true),(12,true),(13,true),(14,true),(15,true),(16,true),(17,true),(18,true),(19,true),(20,false),(21,true),(22,true),(23,true),(24,true),(25,true),(26,true),(27,true),(28,false),(29,true),(30,true)] _ (by kernel_rfl) (by kernel_rfl) H (.refl _) ?_))))
  clear H;intro W H
  refine cMi U U (cR U (fun W H=>d_eq U U U) (cR U (fun W H=>mv_bx (c:=false) U U (by have:=made_ne (p:=p) (l:=l) (k:=k);simpa using this)) ?_))
  refine c_run U (w_g U U U U) U (fun W H=>dF U U tf28_0) (c_run U (w_g U U U U) U (fun W H=>dF U U tf26_0) (c_run U (w_g U U U U) U (fun W H=>dM (g:=gb) (off:=0) U H (sub_b_prev hh) (by rw [List.length_map];first|exact hp|exact hh.2.1|exact len_rootB l) U U U ta24 ts24) ?_))
  refine c_run U (w_g U U U U) U (fun W H=>d_ldm0 (g:=gp) U H U ta24 ts24 hpl) (c_run U (w_g U U U U) U (fun W H=>d_nearr U U U tu24 tu5 ts5 hp hp (by kernel_rfl)) ?_)
  refine cR U (fun W H=>d_pickF U U U) (cR U (fun W H=>mv_bx (c:=false) U U (by simp [mkH])) ?_)
  refine c_run U (w_g U U U U) U (fun W H=>dF U U tf28_0) (c_run U (w_g U U U U) U (fun W H=>dF U U tf26_2) (c_run U (w_g U U U U) U (fun W H=>dX (g:=gb) (off:=64) U H (sub_b_nonce hh) U U ta3) (c_run U (w_g U U U U) U (fun W H=>mv_i U U) (c_run U (w_g U U U U) U (fun W H=>d_ne U U U) (cR U (fun W H=>d_pickF U U U) (cR U (fun W H=>mv_bx (c:=false) U U (by simp [mkH])) ?_))))))
  refine c_run U (w_g U U U U) U (fun W H=>dF U U tf28_1) (c_run U (w_g U U U U) U (fun W H=>dX (g:=gb) (off:=65) U H (sub_b_txs hh) U U ta22) (c_run U (w_g U U U U) U (fun W H=>mv_s U U) (cf U (e_call (w_g U U U U) U U Tryz.func39 U U U (sameTxs _ (rl_get (H.rowrd (A:=A3) (s:=3) (m:=l.length) (c:=c3) (xs:=zs)) U (H.get (f:=Fact.els RTx 3 S3 zs l)) hd3) (keeps_L keeps_Tx _ _ _ _ _ hl (fun g hg _=>H.fr.block g hg (fun h=>h)))) ?_))))
  rintro _ W ⟨rfl,hb⟩
  replace H:=H.below hb
  clear hb
  refine ⟨H.sb,?_⟩
  refine c_run U (w_g U U U U) U (fun W H=>d_not U U) (cR U (fun W H=>d_pickF U U U) (cR U (fun W H=>mv_bx (c:=false) U U (by simp)) (c_run U (w_g U U U U) U (fun W H=>dF U U tf28_0) (c_run U (w_g U U U U) U (fun W H=>dF U U tf26_1) (c_run U (w_g U U U U) U (fun W H=>dM (g:=gb) (off:=32) U H (sub_b_root hh) (by rw [List.length_map];first|exact hp|exact hh.2.1|exact len_rootB l) U U U ta24 ts24) ?_)))))
  refine c_run U (w_g U U U U) U (fun W H=>mv_s U U) (cf U (e_call (w_g U U U U) U U Tryz.func20 U U U (rootP _ (keeps_L keeps_Tx _ _ _ _ _ hl (fun g hg _=>H.fr.block g hg (fun h=>h))) (H.gat hG) (H.gl hB) (by omega)) ?_))
  rintro _ W ⟨rfl,hb⟩
  replace H:=H.below hb
  clear hb
  refine ⟨H.sb,?_⟩
  refine c_run U (w_g U U U U) U (fun W H=>d_nearr U U U tu24 tu5 ts5 (len_rootB l) (len_rootB l) (by kernel_rfl)) ?_
  refine cR U (fun W H=>d_pickF U U U) (c_nil (kF U (by simp [mkH]) ?_))
  refine kS (kQ (kR (sMi U (sNe U U (ln (kC U (fun hc54=>?_) (fun hc54=>?_)))))))
  ·skip
   refine kR (sf (eI Tryz.func14 U U (works09 _ (H.gat hG) (H.gl hB)) H ?_))
   clear H;intro W H
   refine sAb U (ln (kx ?_))
   exact qr (v:=.bool _) U U ⟨_,U,U,H.under⟩
  ·have he:Bk.chk BTG ⟨(mkH p l k),l⟩=0:=by simpa using hc54
   obtain ⟨x0,rt,hrt⟩:=root_cons (len_rootB l)
   have hmk:(mkH p l k)=⟨p,x0::rt,k⟩:=by unfold mkH;rw [hrt]
   have hh0:Bk.OkH ⟨p,x0::rt,k⟩:=hmk ▸ hh
   have hh1:Bk.OkH ⟨p,(x0 ^^^ 1)::rt,k⟩:=⟨hp,by have:=hh0.2.1;simpa using this,hk⟩
   have he0:Bk.chk BTG ⟨⟨p,x0::rt,k⟩,l⟩=0:=hmk ▸ he
   rw [hmk] at H
   refine kS (kR (sFa U tf28_0 (sFa U tf26_1 (sR (d_iaA U U U (q:=0) U tu24 (by omega) ts5) (sR (dX (g:=gb) (off:=32) U H (sub_b_r0 hp) U U ta5) (sR (d_bitW U U U (xor8C (a:=x0))) (sFa U tf28_0 (sFa U tf26_1 (sR (d_iaA U U U (q:=0) U tu24 (by omega) ts5) (sf (esk (v:=u8v (x0 ^^^ 1)) (vs:=[u8v (x0 ^^^ 1)]) (bC ⟨p,(x0 ^^^ 1)::rt,k⟩ A3 l.length c3) U U U ts5 U U H (by rw [lB hh0];decide) (spl_b_r0 hp) ?_)))))))))))
   clear H;intro W H
   refine ln (kQ (kR (sR (dM (g:=gb) (off:=0) U H (sa (lB hh1)) (lB hh1) U U U ta28 ts28) (sf (eI Tryz.func18 U U (checkBP (b:=⟨⟨p,(x0 ^^^ 1)::rt,k⟩,l⟩) _ (rl_get (H.rowrd (A:=A3) (s:=3) (m:=l.length) (c:=c3) (xs:=zs)) U (H.get (f:=Fact.els RTx 3 S3 zs l)) hd3) hh1 (H.gat hG) (H.gl hB)) H ?_)))))
   clear H;intro W H
   rw [chk_root (r:=(x0 ^^^ 1)::rt) he (fun e=>xor_ne x0 (by rw [hrt] at e;exact (List.cons.inj e).1.symm))]
   refine sNe U U (ln (kF U U (kS (kR (sFa U tf28_0 (sFa U tf26_1 (sR (d_iaA U U U (q:=0) U tu24 (by omega) ts5) (sR (dX (g:=gb) (off:=32) U H (sub_b_r0 hp) U U ta5) (sR (d_bitW U U U (xor8C (a:=x0 ^^^ 1))) (sFa U tf28_0 (sFa U tf26_1 (sR (d_iaA U U U (q:=0) U tu24 (by omega) ts5) ?_))))))))))))
   rw [xor_xor]
   refine sf (esk (v:=u8v x0) (vs:=[u8v x0]) (bC ⟨p,x0::rt,k⟩ A3 l.length c3) U U U ts5 U U H (by rw [lB hh1];decide) (spl_b_r0 hp) ?_)
   clear H;intro W H
   refine ln (kQ (kR (sMs U (sLn U tu22 (sLt U U (ln (kC U (fun hc77=>?_) (fun hc77=>?_))))))))
   ·skip
    refine kR (sf (eI Tryz.func14 U U (works09 _ (H.gat hG) (H.gl hB)) H ?_))
    clear H;intro W H
    refine sAb U (ln (kx ?_))
    exact qr (v:=.bool _) U U ⟨_,U,U,H.under⟩
   ·have h2l:2<=l.length:=by simp at hc77;omega
    obtain ⟨q,hq1,hq2⟩:=pick_ltB (v:=at_) (n:=l.length - 1) (by omega)
    obtain ⟨a,ha⟩:=get_lt (l:=l) (i:=q) (by omega)
    obtain ⟨b,hb⟩:=get_lt (l:=l) (i:=q+1) (by omega)
    obtain ⟨g3,rfl⟩:=row_own (H.get (f:=Fact.row 34 3 (.slice A3 l.length c3) l.length zs)) (by omega)
    have hels:=H.get (f:=Fact.els RTx 3 S3 zs l)
    obtain ⟨A7,c7,B7,d7,hLa,-,-,-⟩:=tx_of (hels.2 q a ha)
    obtain ⟨A8,c8,B8,d8,hLb,-,-,-⟩:=tx_of (hels.2 (q+1) b hb)
    refine kS (kR (sMi U (sMs U (sLn U tu22 (sR (d_sub U U U (by omega)) (sf (eI Tryz.func34 U U (pick_any at_ _ _ (by omega)) H ?_)))))))
    clear H;intro W H
    rw [show ((l.length:Int) - 1)=((l.length - 1:Nat):Int) by omega,hq1]
    refine sAi U (lkR (sFa U tf28_1 (sR (dX (g:=gb) (off:=65) U H (sub_b_txs hh0) U U ta22) (sMi U (sR (d_iaP (q:=q) U U U U (by omega) tu22 ts34) (sR (dN (off:=0) (q:=q) U (H.rowrd (A:=(some ⟨g3,0,none⟩)) (s:=3) (m:=l.length) (c:=c3) (xs:=zs)) (by omega) hLa (sa (a:=txC A7 a.ins.length c7 B7 a.outs.length d7 a.lock) (m:=3) U) U U (by omega) ta34 ts34) (sf (eal [.slice none 0 0,.slice none 0 0,.int .i64 0] tz34 H ?_))))))))
    clear H;intro gt W H
    refine sf (esk (txC A7 a.ins.length c7 B7 a.outs.length d7 a.lock) U U U ts34 U U H (by decide) U ?_)
    clear H;intro W H
    refine ln (kQ (k_drawT (.rd 0 (.rd 1 (.rd 2 (.rd 3 (.rd 4 (.rd 5 (.rd 6 (.rd 7 (.ef 8 (.rd 9 (.ef 10 .nil))))))))))) [Fact.blk gb (bC ⟨p,x0::rt,k⟩ (some ⟨g3,0,none⟩) l.length c3) 28] (by kernel_rfl) (by kernel_rfl) H (by repeat (first|exact .refl _|exact List.nil_sublist _|refine .cons_cons _ ?_|refine .cons _ ?_)) ?_))
    clear H;intro W H
    refine tR U (fun W H=>dF U U tf28_1) (tR U (fun W H=>dX (g:=gb) (off:=65) U H (sub_b_txs hh0) U U ta22) (tR U (fun W H=>mv_i U U) (tR U (fun W H=>dF U U tf28_1) (tR U (fun W H=>dX (g:=gb) (off:=65) U H (sub_b_txs hh0) U U ta22) (tR U (fun W H=>mv_i U U) (tR U (fun W H=>d_add U U U (by omega)) (tR U (fun W H=>d_iaP (q:=q+1) U U U (by omega) (by omega) tu22 ts34) (tf U (e_run (wn U) U (dN (off:=0) (q:=q+1) U (H.rowrd (A:=(some ⟨g3,0,none⟩)) (s:=3) (m:=l.length) (c:=c3) (xs:=zs)) (by omega) hLb (sa (a:=txC A8 b.ins.length c8 B8 b.outs.length d8 b.lock) (m:=3) U) U U (by omega) ta34 ts34) ?_)))))))))
    refine ⟨_,fun _ h=>h,H.sb,?_⟩
    refine tR U (fun W H=>d_iaP (q:=q) U U U U (by omega) tu22 ts34) (tf U (e_stoGX (vs:=txC A8 b.ins.length c8 B8 b.outs.length d8 b.lock) (k:=q*3) (s:=3) (e:=34) (m:=l.length) (c:=c3) (wn U) U U U (by omega) U U ts34 U H (by show q*3+3<=_;omega) ?_))
    clear H;intro W H
    refine ⟨_,fun _ h=>h,H.sb,?_⟩
    refine t_nil (kR (sFa U tf28_1 (sR (dX (g:=gb) (off:=65) U H (sub_b_txs hh0) U U ta22) (sMi U (sAd U U (by omega) (sR (dM (g:=gt) (off:=0) U H (sa (a:=txC A7 a.ins.length c7 B7 a.outs.length d7 a.lock) (m:=3) U) U U U U ta34 ts34) (sR (d_iaP (q:=q+1) U U U (by omega) (by omega) tu22 ts34) (sf (e_stoGX (vs:=txC A7 a.ins.length c7 B7 a.outs.length d7 a.lock) (k:=(q+1)*3) (s:=3) (e:=34) (m:=l.length) (c:=c3) (wn U) U U U (by omega) U U ts34 U H (by show (q+1)*3+3<=_;omega) ?_)))))))))
    clear H;intro W H
    refine ln ?_
    have hLS:((l.set q b).set (q+1) a).length=l.length:=by rw [List.length_set,List.length_set]
    refine kR (sAi U (ln (kQ (kQ (k_draw [(0,true),(1,true),(3,true),(4,true),(5,true),(2,false),(6,true)] _ (by kernel_rfl) (by kernel_rfl) H (.refl _) ?_)))))
    clear H;intro W H
    refine cFa U U tf28_1 (cR U (fun W H=>dX (g:=gb) (off:=65) U H (sub_b_txs hh0) U U ta22) (cFa U U tf28_0 (cFa U U tf26_1 (cR U (fun W H=>dM (g:=gb) (off:=32) U H (sub_b_root hh0) (by rw [List.length_map];first|exact hp|exact hh.2.1|exact hh0.2.1) U U U ta24 ts24) ?_))))
    refine cf U (eI Tryz.func20 U U (rootP' _ hLS (rl_get (H.rowrd (A:=(some ⟨g3,0,none⟩)) (s:=3) (m:=l.length) (c:=c3) (xs:=(spl (spl zs (q*3) (txC A8 b.ins.length c8 B8 b.outs.length d8 b.lock)) ((q+1)*3) (txC A7 a.ins.length c7 B7 a.outs.length d7 a.lock)))) hLS (els_swap (H.get (f:=Fact.els RTx 3 S3 zs l)) ha hb hLa hLb U U) hd3) (H.gat hG) (H.gl hB) (by rw [hLS];omega)) H ?_)
    clear H;intro W H
    refine ⟨H.sb,?_⟩
    refine cR U (fun W H=>d_nearr U U U tu24 tu5 ts5 (len_rootB _) hh0.2.1 (by kernel_rfl)) ?_
    refine c_nil (kC U (fun hc111=>?_) (fun hc111=>?_))
    ·have hne:¬rootB ((l.set q b).set (q+1) a)=x0::rt:=by simpa using hc111
     refine kr (sAi U (lkR (sR (dM (g:=gb) (off:=0) U H (sa (lB hh0)) (lB hh0) U U U ta28 ts28) (sf (eI Tryz.func18 U U (checkBP' (b:=⟨⟨p,x0::rt,k⟩,((l.set q b).set (q+1) a)⟩) _ hLS (rl_get (H.rowrd (A:=(some ⟨g3,0,none⟩)) (s:=3) (m:=l.length) (c:=c3) (xs:=(spl (spl zs (q*3) (txC A8 b.ins.length c8 B8 b.outs.length d8 b.lock)) ((q+1)*3) (txC A7 a.ins.length c7 B7 a.outs.length d7 a.lock)))) hLS (els_swap (H.get (f:=Fact.els RTx 3 S3 zs l)) ha hb hLa hLb U U) hd3) hh0 (H.gat hG) (H.gl hB)) H ?_)))))
     clear H;intro W H
     rw [chk_swap (hd:=⟨p,x0::rt,k⟩) he0 ha hb]
     refine sMi U (sEq U U (sBt U (by rw [if_neg (by exact hne)];rfl) ?_))
     refine sf (e_call (w_g U U U U) U U Tryz.func14 U U U (works09 _ (H.gat hG) (H.gl hB)) ?_)
     rintro _ W ⟨rfl,hb⟩
     replace H:=H.below hb
     clear hb
     refine sPT U U (sAb U (ln (kx ?_)))
     exact qr (v:=.bool _) U U ⟨_,U,U,H.under⟩
    ·have hne:rootB ((l.set q b).set (q+1) a)=x0::rt:=by simpa using hc111
     refine kS (kR (sR (dM (g:=gb) (off:=0) U H (sa (lB hh0)) (lB hh0) U U U ta28 ts28) (sf (eI Tryz.func18 U U (checkBP' (b:=⟨⟨p,x0::rt,k⟩,((l.set q b).set (q+1) a)⟩) _ hLS (rl_get (H.rowrd (A:=(some ⟨g3,0,none⟩)) (s:=3) (m:=l.length) (c:=c3) (xs:=(spl (spl zs (q*3) (txC A8 b.ins.length c8 B8 b.outs.length d8 b.lock)) ((q+1)*3) (txC A7 a.ins.length c7 B7 a.outs.length d7 a.lock)))) hLS (els_swap (H.get (f:=Fact.els RTx 3 S3 zs l)) ha hb hLa hLb U U) hd3) hh0 (H.gat hG) (H.gl hB)) H ?_))))
     clear H;intro W H
     rw [chk_swap (hd:=⟨p,x0::rt,k⟩) he0 ha hb]
     refine sMi U (sEq U U (sBt U (by rw [if_pos (by exact hne)];rfl) ?_))
     refine sf (e_call (w_g U U U U) U U Tryz.func14 U U U (works09 _ (H.gat hG) (H.gl hB)) ?_)
     rintro _ W ⟨rfl,hb⟩
     replace H:=H.below hb
     clear hb
     refine sPT U U (sAb U (ln (kx ?_)))
     exact qr (v:=.bool _) U U ⟨_,U,U,H.under⟩
end Go.Proofs.YtfhhfhdnhadooaaGreatDoor
