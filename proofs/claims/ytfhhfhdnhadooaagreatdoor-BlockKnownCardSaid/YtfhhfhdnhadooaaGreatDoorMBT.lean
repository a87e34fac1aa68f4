import Derived.Test.YtfhhfhdnhadooaaGreatDoorMBQ
import Derived.Test.YtfhhfhdnhadooaaGreatDoorMBH
import Derived.Test.YtfhhfhdnhadooaaGreatDoorMBM
import Derived.Test.YtfhhfhdnhadooaaGreatDoorMBR
set_option linter.unusedVariables false
set_option linter.unusedSimpArgs false
set_option maxHeartbeats 4000000

namespace Go.Proofs.YtfhhfhdnhadooaaGreatDoor
open Go Go.RowKit
attribute [local irreducible] wpList

namespace Bn
def Good (l:List DTx):Prop:=∀t∈l,Tx.Szd t∧Tx.Fits t
theorem good_nil:Good []:=fun _ h=>by cases h
theorem good_snoc {l:List DTx} {t:DTx} (h:Good l) (k:Tx.Szd t∧Tx.Fits t):Good (l++[t]):=fun x hx=>by
 rcases List.mem_append.1 hx with hx|hx
 ·exact h x hx
 ·obtain rfl:x=t:=by simpa using hx
  exact k
theorem good_take {l:List DTx} {k:Nat} (h:Good l):Good (l.take k):=fun x hx=>h x (List.take_subset _ _ hx)
theorem Good.sz {l:List DTx} (h:Good l):∀t∈l,Tx.Szd t:=fun t ht=>(h t ht).1
theorem Good.ft {l:List DTx} (h:Good l):∀t∈l,Tx.Fits t:=fun t ht=>(h t ht).2
theorem good_nth {i k:Int}:Tx.Szd (⟨(nthT i).ins,(nthT i).outs,k⟩:DTx)∧Tx.Fits (⟨(nthT i).ins,(nthT i).outs,k⟩:DTx):=by
 have h1:∀x∈(nthT i).ins,x.wit=[]:=fun x hx=>by
  obtain rfl:x=⟨nP,[]⟩:=by simpa [nthT] using hx
  rfl
 have h2:∀x∈(nthT i).outs,x.script=[]:=fun x hx=>by
  obtain rfl:x=⟨1+i,[]⟩:=by simpa [nthT] using hx
  rfl
 refine ⟨⟨fun x hx b hb=>?_,fun o ho=>?_⟩,⟨by show (nthT i).ins.length<=_;simp [nthT],by show (nthT i).outs.length<=_;simp [nthT],fun x hx=>?_,fun o ho=>?_⟩⟩
 ·rw [h1 x hx] at hb;cases hb
 ·rw [h2 o ho];exact Nat.zero_le _
 ·rw [h1 x hx];exact ⟨Nat.zero_le _,fun b hb=>by cases hb⟩
 ·rw [h2 o ho];exact Nat.zero_le _
def ks:List Int:=[-9223372036854775808,-1,0,1,1073741824,1073741825,9223372036854775807]
theorem ks_get {i:Nat} (h:i<7):(ks.map (Value.int .i64))[i*1]?=some (.int .i64 (ks.getD i 0)):=by
 rw [Nat.mul_one,List.getElem?_map,List.getD_eq_getElem?_getD]
 have:i<ks.length:=h
 rw [List.getElem?_eq_getElem this];rfl
theorem ks_ok {i:Nat} (h:i<7):I64 (ks.getD i 0):=by
 have:∀i:Fin 7,-9223372036854775808<=ks.getD i.1 0∧ks.getD i.1 0<=9223372036854775807:=by decide
 exact this ⟨i,h⟩
theorem add0 {A:Option Addr}:A=A.map (·.add 0):=by cases A <;> rfl
theorem u8_in {i:Nat}:IntKind.wrap .u8 (i:Int)=((UInt8.ofNat i).toNat:Int):=u8_eq (n:=i) rfl
theorem rl_pre {W:World} {S:Nat->Prop} {A:Option Addr} {n c h:Nat} {l:List DTx} (hl:RL 3 RTx W S [.slice A n c] l) (hh:h<=l.length):RL 3 RTx W S [.slice A (l.take h).length c] (l.take h):=by
 obtain ⟨A',c',xs,hv,h1,h2,h3,h4⟩:=hl
 cases hv
 have e:(l.take h).length=h:=by rw [List.length_take];omega
 have hx:=h3.1
 refine ⟨A,c,xs.take (h*3),U,by rw [e];omega,h2,?_,fun i x hx'=>?_⟩
 ·rw [e]
  refine ⟨by rw [List.length_take];omega,fun hh0=>?_⟩
  obtain ⟨g,o,e1,e2,e3⟩:=h3.2 (by omega)
  refine ⟨g,o,e1,e2,fun j u hj=>e3 j u ?_⟩
  rw [List.getElem?_take] at hj
  split at hj
  ·exact hj
  ·cases hj
 ·have hi:i<h:=by have:=(List.getElem?_eq_some_iff.1 hx').1;omega
  rw [List.getElem?_take_of_lt hi] at hx'
  have:=h4 i x hx'
  have e2:sub (xs.take (h*3)) (i*3) 3=sub xs (i*3) 3:=by
   unfold sub
   rw [List.drop_take,List.take_take,Nat.min_eq_left (by have:=Nat.mul_le_mul_right 3 (show i+1<=h by omega);omega)]
  rw [e2];exact this
theorem rl_snoc {W:World} {S:Nat->Prop} {A:Option Addr} {c:Nat} {zs cs:List Value} {l:List DTx} {x:DTx} {e:TypeId} (hr:W.ownsRow 0 e 3 (.slice A (l.length+1) c) (l.length+1) (zs++cs)) (he:zs.length=l.length*3∧∀(i:Nat) (x:DTx),l[i]?=some x->RTx W S (sub zs (i*3) 3) x) (hx:RTx W (0<=·) cs x) (hc:cs.length=3):RL 3 RTx W (0<=·) [.slice A (l++[x]).length c] (l++[x]):=by
 have e1:(l++[x]).length=l.length+1:=by rw [List.length_append];rfl
 have hrd:=Rd.of_own hr
 obtain ⟨_,_,hv,h1,h2⟩:=row_form hr
 cases hv
 refine ⟨A,c,zs++cs,U,by rw [e1];exact h1,h2,by rw [e1];exact hrd,fun i y hy=>?_⟩
 rcases Nat.lt_or_ge i l.length with h|h
 ·rw [List.getElem?_append_left h] at hy
  rw [sub_app he.1 h]
  exact mono_Tx _ _ _ _ _ (he.2 i y hy) (fun _ _ _=>Nat.zero_le _)
 ·have hi:i=l.length:=by have:=(List.getElem?_eq_some_iff.1 hy).1;rw [e1] at this;omega
  subst hi
  rw [List.getElem?_append_right (Nat.le_refl _),Nat.sub_self] at hy
  obtain rfl:x=y:=by simpa using hy
  rw [sub_end he.1 hc]
  exact hx
theorem rtx_lock {W:World} {S:Nat->Prop} {A B:Option Addr} {n c m d:Nat} {k j:Int} {t:DTx} (h:RTx W S (txC A n c B m d k) t) (hn:t.ins.length=n) (hm:t.outs.length=m) (hj:I64 j):RTx W S (txC A n c B m d j) ⟨t.ins,t.outs,j⟩:=by
 subst hn hm
 obtain ⟨A1,c1,B1,d1,e,hI,hO,-⟩:=tx_of h
 have e2:=e
 unfold txC at e2
 simp only [List.cons.injEq,Value.slice.injEq] at e2
 obtain ⟨⟨rfl,_,rfl⟩,⟨rfl,_,rfl⟩,_⟩:=e2
 exact ⟨[.slice A t.ins.length c],[.slice B t.outs.length d],_,U,hI,hO,U,hj⟩
end Bn
theorem makeN {S:Nat->Prop} {A:Option Addr} {n c:Nat} {l:List DTx} (w:World) (hln:l.length=n) (hl:RL 3 RTx w S [.slice A l.length c] l) (hG:Gat w 0 formsC) (hB:Old.Gl w) {p:List UInt8} (hp:p.length=32) {k:Int} (hk:I64 k) (hn:l.length<=1000000) (hf:∀t∈l,Tx.Fits t):Calls Tryz.prog 6 [.agg (p.map u8v).toArray,.int .i64 k,.slice A n c].toArray w (Ret (fun v' w'=>∃A3 c3 zs S3,v'=.agg (bC (mkH p l k) A3 l.length c3).toArray∧(l.length<=c3∧c3<=9223372036854775807)∧St nT w w' [Fact.row 34 3 (.slice A3 l.length c3) l.length zs,Fact.els RTx 3 S3 zs l])):=by
 subst hln
 exact makeP w hl hG hB hp hk hn hf
theorem copyN {S:Nat->Prop} {A:Option Addr} {n c:Nat} {l:List DTx} (w:World) (hln:l.length=n) (hl:RL 3 RTx w S [.slice A l.length c] l) (hn:l.length<=1000000) (hf:∀t∈l,Tx.Fits t):Calls Tryz.prog 7 [.slice A n c].toArray w (Ret (fun v' w'=>∃A3 c3 zs S3,v'=.slice A3 l.length c3∧(l.length<=c3∧c3<=9223372036854775807)∧St nT w w' [Fact.row 34 3 (.slice A3 l.length c3) l.length zs,Fact.els RTx 3 S3 zs l])):=by
 subst hln
 exact copyTxsR w hl hn hf

theorem blockKnown (w:World) (hG:Gat w 0 formsC) (hB:Old.Gl w):Calls Tryz.prog 3 [].toArray w (Ret (Is w (.bool true))):=by
 refine kE (l:=[]) Tryz.func3 U U ?_
 have H:=St.start nT w
 refine kR (sAb U (lkR (sAs U (ln (kQ (kR (sAi U (ln (kb (kL 13 [0,1,2,3,4] (fun mm sl W=>∃i:Nat,∃l:List DTx,∃A2:Option Addr,∃c2:Nat,∃zs2:List Value,∃S2:Nat->Prop,18 - i=mm∧sl=[(2,.int .i64 (i:Int)),(1,.slice A2 l.length c2)]∧(i<=18)∧(l.length=i)∧(Bn.Good l)∧(l.length<=c2∧c2<=9223372036854775807)∧St nT w W [Fact.row 34 3 (.slice A2 l.length c2) l.length zs2,Fact.els RTx 3 S2 zs2 l]) _ _ ⟨0,[],none,0,[],(fun _=>False),U,U,Nat.zero_le _,U,Bn.good_nil,⟨Nat.le_refl _,by omega⟩,((H.els0 RTx 3).nilrow 34 3)⟩ ⟨U,U,trivial⟩ (fun mm sl ρv W hJ=>?_)))))))))))
 clear H;obtain ⟨i,l,A2,c2,zs2,S2,rfl,rfl,hi,hll,hlg,hd2,H⟩:=hJ
 refine ko (kQ (kR (sMi U (sLt U U (ln (kC U (fun hc14=>?_) (fun hc14=>?_)))))))
 ·have hi18:i<18:=by simp at hc14;omega
  have hm1:Bk.OkH (mkH (UInt8.ofNat i::List.replicate 31 0) l (i:Int)):=mkH_ok (by simp) ⟨by omega,by omega⟩
  have hm2:Bk.OkH (mkH (List.replicate 32 (0:UInt8)) (l++[(nthT ((i:Int) / 2))]) 0):=mkH_ok (by simp) ⟨by decide,by decide⟩
  refine kS (kQ (kb (kR (sMi U (sR (d_conv U U (by rw [tu3];rfl) tu5 Bn.u8_in) ?_)))))
  refine sR (dB (vs:=(UInt8.ofNat i::List.replicate 31 0).map u8v) U (by kernel_rfl)) ?_
  refine sMi U (sMs U (sf (ecl Tryz.func6 U U (makeN (p:=(UInt8.ofNat i::List.replicate 31 0)) _ U (H.rlist (A:=A2) (e:=34) (s:=3) (m:=l.length) (c:=c2) (S:=S2) (xs:=zs2) (l:=l) U) (H.gat hG) (H.gl hB) (by simp) ⟨by omega,by omega⟩ (by omega) hlg.ft) ?_)))
  rintro _ W ⟨A3,c3,zs3,S3,rfl,hd3,hn_⟩
  replace H:=H.add2 hn_
  clear hn_
  refine sf (eal (bC zHd none 0 0) tz28 H ?_)
  clear H;intro gb W H
  refine sf (esk (bC (mkH (UInt8.ofNat i::List.replicate 31 0) l (i:Int)) A3 l.length c3) U U U ts28 (lB hm1) blk_one H (by rw [lB zHd_ok];decide) (spl_all ((lB hm1).trans (lB zHd_ok).symm)) ?_)
  clear H;intro W H
  refine lkR (sR (dB (vs:=(List.replicate 32 (0:UInt8)).map u8v) U (by kernel_rfl)) ?_)
  refine sMs U (sf (ecl Tryz.func7 U U (copyN _ U (H.rlist (A:=A2) (e:=34) (s:=3) (m:=l.length) (c:=c2) (S:=S2) (xs:=zs2) (l:=l) U) (by omega) hlg.ft) ?_))
  rintro _ W ⟨A4,c4,zs4,S4,rfl,hd4,hn_⟩
  replace H:=H.add2 hn_
  clear hn_
  refine sMi U (sR (d_quo (c:=(i:Int) / 2) U U U (by omega) (by rw [IntKind.wrap_i64];omega)) ?_)
  refine sf (ecl Tryz.func8 U U (nthP ((i:Int) / 2) _ (by omega)) ?_)
  rintro _ W hs_
  obtain ⟨Sn1,An1,cn1,Bn1,dn1,rfl,H1_⟩:=NewTx.rep hs_ H ⟨by show (-9223372036854775808:Int)<=0;decide,by show (0:Int)<=9223372036854775807;decide⟩
  clear H hs_
  have H:=H1_
  clear H1_
  refine sf (ebs (xs:=[.tmp 28]) (vals:=[.agg (txC An1 (nthT ((i:Int) / 2)).ins.length cn1 Bn1 (nthT ((i:Int) / 2)).outs.length dn1 (nthT ((i:Int) / 2)).lock).toArray]) (vs:=(txC An1 (nthT ((i:Int) / 2)).ins.length cn1 Bn1 (nthT ((i:Int) / 2)).outs.length dn1 (nthT ((i:Int) / 2)).lock)) U U U U tu22 ts34 ty34 U (by simp [agg_cells,txC]) (by simp [agg_cells]) H ?_)
  clear H;intro g6_6 W H
  refine sf (eap tu22 tx34 U U U H (rd_blk (m:=1) H.blk U) (U) (by omega) U ?_)
  clear H;intro A7 c7 W hc7 hd7 H
  replace H:=H.drop
  replace H:=(St.elsnoc (H.perm (.cons _ (.swap _ _ _))) rfl).perm (.swap _ _ _)
  have e7:l.length+1=(l++[(nthT ((i:Int) / 2))]).length:=by rw [List.length_append];rfl
  rw [e7] at hc7 H ⊢
  obtain ⟨zs7,S7,H1_⟩:∃zs7 S7,St nT w W (Fact.row 34 3 (.slice A7 (l++[(nthT ((i:Int) / 2))]).length c7) (l++[(nthT ((i:Int) / 2))]).length zs7::Fact.els RTx 3 S7 zs7 (l++[(nthT ((i:Int) / 2))])::_):=⟨_,_,H⟩
  clear H
  have H:=H1_
  clear H1_
  refine sf (ecl Tryz.func6 U U (makeN (p:=(List.replicate 32 (0:UInt8))) _ U (H.rlist (A:=A7) (e:=34) (s:=3) (m:=(l++[(nthT ((i:Int) / 2))]).length) (c:=c7) (S:=S7) (xs:=zs7) (l:=(l++[(nthT ((i:Int) / 2))])) U) (H.gat hG) (H.gl hB) (by simp) ⟨by decide,by decide⟩ (by rw [←e7];omega) (Bn.good_snoc hlg Bn.good_nth).ft) ?_)
  rintro _ W ⟨A5,c5,zs5,S5,rfl,hd5,hn_⟩
  replace H:=H.add2 hn_
  clear hn_
  refine sf (eal (bC zHd none 0 0) tz28 H ?_)
  clear H;intro g6 W H
  refine sf (esk (bC (mkH (List.replicate 32 (0:UInt8)) (l++[(nthT ((i:Int) / 2))]) 0) A5 (l++[(nthT ((i:Int) / 2))]).length c5) U U U ts28 (lB hm2) blk_one H (by rw [lB zHd_ok];decide) (spl_all ((lB hm2).trans (lB zHd_ok).symm)) ?_)
  clear H;intro W H
  refine ln (kQ (kR (sR (dM (g:=gb) (off:=0) U H (sa (a:=bC (mkH (UInt8.ofNat i::List.replicate 31 0) l (i:Int)) A3 l.length c3) (lB hm1)) (lB hm1) U U U ta28 ts28) (sf (eI Tryz.func4 U U (blockPutsB (b:=⟨(mkH (UInt8.ofNat i::List.replicate 31 0) l (i:Int)),l⟩) _ (H.rlist (A:=A3) (e:=34) (s:=3) (m:=l.length) (c:=c3) (S:=S3) (xs:=zs3) (l:=l) U) hm1 (H.gat hG) (H.gl hB) hlg.sz) H ?_)))))
  clear H;intro W H
  refine sR (d_not U U) (sBf U (U) (sr (w_g U U U U) U (dM (g:=g6) (off:=0) U H (sa (a:=bC (mkH (List.replicate 32 (0:UInt8)) (l++[(nthT ((i:Int) / 2))]) 0) A5 (l++[(nthT ((i:Int) / 2))]).length c5) (lB hm2)) (lB hm2) U U U ta28 ts28) (sf (e_call (w_g U U U U) U U Tryz.func4 U U U (blockPutsB (b:=⟨(mkH (List.replicate 32 (0:UInt8)) (l++[(nthT ((i:Int) / 2))]) 0),(l++[(nthT ((i:Int) / 2))])⟩) _ (H.rlist (A:=A5) (e:=34) (s:=3) (m:=(l++[(nthT ((i:Int) / 2))]).length) (c:=c5) (S:=S5) (xs:=zs5) (l:=(l++[(nthT ((i:Int) / 2))])) U) hm2 (H.gat hG) (H.gl hB) (Bn.good_snoc hlg Bn.good_nth).sz) ?_))))
  rintro _ W ⟨rfl,hb⟩
  replace H:=H.below hb
  clear hb
  refine sr (w_g U U U U) U (d_not U U) (sPF U U (sBf U (U) (sr (w_g U U U U) U (mv_i U U) (sr (w_g U U U U) U (dF U U tf28_0) (sr (w_g U U U U) U (dM (g:=gb) (off:=0) U H (sub_b_hdr hm1) (len_hdr hm1) U U U ta26 ts26) (sf (e_call (w_g U U U U) U U Tryz.func9 U U U (blockRootsB _ (H.gat hG) (H.gl hB) hm1) ?_)))))))
  rintro _ W ⟨rfl,hb⟩
  replace H:=H.below hb
  clear hb
  refine sr (w_g U U U U) U (d_not U U) (sPF U U (sBf U (U) (sr (w_g U U U U) U (dB (vs:=(List.replicate 32 (0:UInt8)).map u8v) U (by kernel_rfl)) ?_)))
  refine sr (w_g U U U U) U (mv_i U U) (sr (w_g U U U U) U (mv_s U U) (sr (w_g U U U U) U (mv_i U U) (sf (e_call (w_g U U U U) U U Tryz.func10 U U U (blockMadeB (p:=(List.replicate 32 (0:UInt8))) _ (H.rlist (A:=A2) (e:=34) (s:=3) (m:=l.length) (c:=c2) (S:=S2) (xs:=zs2) (l:=l) U) (H.gat hG) (H.gl hB) hlg.sz (by simp) ⟨by omega,by omega⟩ ⟨by omega,by omega⟩) ?_))))
  rintro _ W ⟨rfl,hb⟩
  replace H:=H.below hb
  clear hb
  refine sr (w_g U U U U) U (d_not U U) (sPF U U (sBf U (U) (sr (w_g U U U U) U (dM (g:=gb) (off:=0) U H (sa (a:=bC (mkH (UInt8.ofNat i::List.replicate 31 0) l (i:Int)) A3 l.length c3) (lB hm1)) (lB hm1) U U U ta28 ts28) (sr (w_g U U U U) U (mv_i U U) (sr (w_g U U U U) U (d_mul U U U (by omega)) (sf (e_call (w_g U U U U) U U Tryz.func11 U U U (blockCutB (b:=⟨(mkH (UInt8.ofNat i::List.replicate 31 0) l (i:Int)),l⟩) (S1:=nT) (u:=.slice none 0 0) (m:=[]) _ (H.rlist (A:=A3) (e:=34) (s:=3) (m:=l.length) (c:=c3) (S:=S3) (xs:=zs3) (l:=l) U) hm1 (H.gat hG) (H.gl hB) hlg.sz Bs.nil) ?_)))))))
  rintro _ W ⟨rfl,hb⟩
  replace H:=H.below hb
  clear hb
  refine sr (w_g U U U U) U (d_not U U) (sPF U U (ln (kF U U (kS ?_))))
  replace H:St nT w W [Fact.row 34 3 (.slice A2 l.length c2) l.length zs2,Fact.els RTx 3 S2 zs2 l]:=H.sb
  refine kr (sMs U (sMi U (sf (ecl Tryz.func8 U U (nthP (i:Int) _ (by omega)) ?_))))
  rintro _ W hs_
  obtain ⟨Sn1,An1,cn1,Bn1,dn1,rfl,H1_⟩:=NewTx.rep hs_ H ⟨by show (-9223372036854775808:Int)<=0;decide,by show (0:Int)<=9223372036854775807;decide⟩
  clear H hs_
  have H:=H1_
  clear H1_
  refine sf (ebs (xs:=[.tmp 64]) (vals:=[.agg (txC An1 (nthT (i:Int)).ins.length cn1 Bn1 (nthT (i:Int)).outs.length dn1 (nthT (i:Int)).lock).toArray]) (vs:=(txC An1 (nthT (i:Int)).ins.length cn1 Bn1 (nthT (i:Int)).outs.length dn1 (nthT (i:Int)).lock)) U U U U tu22 ts34 ty34 U (by simp [agg_cells,txC]) (by simp [agg_cells]) H ?_)
  clear H;intro g9_3 W H
  refine sf (eap tu22 tx34 U U U H (rd_blk (m:=1) H.blk U) (U) (by omega) U ?_)
  clear H;intro A9 c9 W hc9 hd9 H
  replace H:=H.drop
  refine sAs U (ln (kn (zE (kI U U U (by omega) U (kn (kY ?_))))))
  replace H:=(St.elsnoc (H.perm (.cons _ (.swap _ _ _))) rfl).perm (.swap _ _ _)
  have e9:l.length+1=(l++[(nthT (i:Int))]).length:=by rw [List.length_append];rfl
  rw [e9] at hc9 H
  refine ⟨_,_,_,?_,U,?_,?_,⟨i+1,(l++[(nthT (i:Int))]),A9,c9,_,_,U,U,by omega,(by rw [←e9,hll]),(Bn.good_snoc hlg Bn.good_nth),⟨hc9,hd9⟩,H⟩⟩
  ·omega
  ·with_reducible repeat first|exact .refl|refine .f ?_ ?_ ?_;kernel_rfl;kernel_rfl|refine .u ?_ ?_;kernel_rfl
  ·refine ⟨?_,?_,trivial⟩
   ·exact vi (by omega)
   ·exact sl_eq e9
 ·obtain rfl:18=i:=by simp at hc14;omega
  refine ke (xt (xt ?_))
  refine xH (kR (sf (ecl Tryz.func8 U U (nthP 0 _ (by decide)) ?_)))
  rintro _ W hs_
  obtain ⟨Sn1,An1,cn1,Bn1,dn1,rfl,H1_⟩:=NewTx.rep hs_ H ⟨by show (-9223372036854775808:Int)<=0;decide,by show (0:Int)<=9223372036854775807;decide⟩
  clear H hs_
  have H:=H1_
  clear H1_
  refine sf (eal [.slice none 0 0,.slice none 0 0,.int .i64 0] tz34 H ?_)
  clear H;intro g5 W H
  refine sf (esk (txC An1 (nthT 0).ins.length cn1 Bn1 (nthT 0).outs.length dn1 (nthT 0).lock) U U U ts34 U U H (by decide) U ?_)
  clear H;intro W H
  refine lkR (sFa U tf34_2 (sf (esk (v:=.int .i64 (-1)) (vs:=[.int .i64 (-1)]) (txC An1 (nthT 0).ins.length cn1 Bn1 (nthT 0).outs.length dn1 (-1)) U U U ts3 U U H (Nat.le_of_ble_eq_true U) U ?_)))
  clear H;intro W H
  refine lkR (sf (ebs (xs:=[.const (.int .i64 (-9223372036854775808)),.const (.int .i64 (-1)),.const (.int .i64 0),.const (.int .i64 1),.const (.int .i64 1073741824),.const (.int .i64 1073741825),.const (.int .i64 9223372036854775807)]) (vals:=[.int .i64 _,.int .i64 _,.int .i64 _,.int .i64 _,.int .i64 _,.int .i64 _,.int .i64 _]) (vs:=[.int .i64 _,.int .i64 _,.int .i64 _,.int .i64 _,.int .i64 _,.int .i64 _,.int .i64 _]) U U U U tu40 ts3 ty3 U U U H ?_))
  clear H;intro gn W H
  replace H:St nT w W [Fact.blk gn (Bn.ks.map (Value.int .i64)) 3,Fact.blk g5 (txC An1 (nthT 0).ins.length cn1 Bn1 (nthT 0).outs.length dn1 (-1)) 34,Fact.rep RTx Sn1 (txC An1 (nthT 0).ins.length cn1 Bn1 (nthT 0).outs.length dn1 (nthT 0).lock) (nthT 0),Fact.row 34 3 (.slice A2 l.length c2) l.length zs2,Fact.els RTx 3 S2 zs2 l]:=H
  refine sAs U (ln (kQ (kR (sAi U (ln (kb (kL 70 [0,7] (fun mm sl W=>∃i:Nat,7 - i=mm∧sl=[(7,.int .i64 (i:Int))]∧(i<=7)∧St nT w W [Fact.blk gn (Bn.ks.map (Value.int .i64)) 3,Fact.blk g5 (txC An1 (nthT 0).ins.length cn1 Bn1 (nthT 0).outs.length dn1 (-1)) 34,Fact.rep RTx Sn1 (txC An1 (nthT 0).ins.length cn1 Bn1 (nthT 0).outs.length dn1 (nthT 0).lock) (nthT 0),Fact.row 34 3 (.slice A2 l.length c2) l.length zs2,Fact.els RTx 3 S2 zs2 l]) _ _ ⟨0,U,U,Nat.zero_le _,H⟩ ⟨U,trivial⟩ (fun mm sl ρv W hJ=>?_))))))))
  clear H;obtain ⟨i,rfl,rfl,hi,H⟩:=hJ
  refine ko (kQ (kR (sMi U (sMs U (sLn U tu40 (sLt U U (ln (kC U (fun hc73=>?_) (fun hc73=>?_)))))))))
  ·have hi7:i<7:=by have:Bn.ks.length=7:=rfl;simp at hc73;omega
   have hks:=Bn.ks_ok hi7
   have hlt_:(l.take i).length=i:=by rw [List.length_take];omega
   have hm3:Bk.OkH (mkH (List.replicate 32 (0:UInt8)) (l.take i) (Bn.ks.getD i 0)):=mkH_ok (by simp) hks
   have hm4:Bk.OkH (mkH (List.replicate 32 (0:UInt8)) (l.take i++[(⟨(nthT 0).ins,(nthT 0).outs,-1⟩:DTx)]) (Bn.ks.getD i 0)):=mkH_ok (by simp) hks
   refine kS (kQ (kb (kQ (k_cut 76 [] (fun sl W=>sl=[(112,.bool false)]∧St nT w W [Fact.blk gn (Bn.ks.map (Value.int .i64)) 3,Fact.blk g5 (txC An1 (nthT 0).ins.length cn1 Bn1 (nthT 0).outs.length dn1 (-1)) 34,Fact.rep RTx Sn1 (txC An1 (nthT 0).ins.length cn1 Bn1 (nthT 0).outs.length dn1 (nthT 0).lock) (nthT 0),Fact.row 34 3 (.slice A2 l.length c2) l.length zs2,Fact.els RTx 3 S2 zs2 l]) ?_ (fun sl ρv W hJ=>?_)))))
   ·skip
    refine k_drawT (.rd 0 (.rd 1 (.rd 2 (.rd 3 (.rd 4 (.rd 5 (.rd 6 (.rd 7 (.ef 8 (.ef 9 (.rd 10 (.rd 11 (.rd 12 (.rd 13 (.rd 14 (.rd 15 (.rd 16 (.rd 17 (.rd 18 (.rd 19 (.rd 21 (.many 15 [20,22] fun j=>(bif Nat.beq j 20 then (.ef 22 (.ef 23 (.ef 24 (.ef 25 (.rd 26 (.rd 27 (.rd 28 (.rd 29 (.rd 30 (.rd 31 (.rd 32 (.rd 33 (.ef 34 (.rd 35 (.rd 36 .nil))))))))))))))) else (.ef 20 (.ef 23 (.ef 24 (.ef 25 (.rd 26 (.rd 27 (.rd 28 (.rd 29 (.rd 30 (.rd 31 (.rd 32 (.rd 33 (.ef 34 (.rd 35 (.rd 36 .nil)))))))))))))))))))))))))))))))))))))) [Fact.blk gn (Bn.ks.map (Value.int .i64)) 3,Fact.blk g5 (txC An1 (nthT 0).ins.length cn1 Bn1 (nthT 0).outs.length dn1 (-1)) 34] (by kernel_rfl) (by kernel_rfl) H (by repeat (first|exact .refl _|exact List.nil_sublist _|refine .cons_cons _ ?_|refine .cons _ ?_)) ?_
    clear H;intro W H
    refine tR U (fun W H=>dB (vs:=(List.replicate 32 (0:UInt8)).map u8v) U (by kernel_rfl)) ?_
    refine tR U (fun W H=>mv_s U U) (tR U (fun W H=>mv_i U U) (tR U (fun W H=>d_iaS U (rd_blk (m:=7) (H.blk (g:=gn)) U) U U (q:=i) U hi7 tu40 ts3) (tR U (fun W H=>d_ldR0 U (rd_blk (m:=7) (H.blk (g:=gn)) U) U ta3 (Bn.ks_get hi7)) (tR U (fun W H=>mv_s U U) (tR U (fun W H=>mv_i U U) (tR U (fun W H=>d_cutP U U (h:=i) U (by omega) U tu22 ts34) (tf U (ecl Tryz.func6 U U (makeN (p:=(List.replicate 32 (0:UInt8))) _ hlt_ (Bn.rl_pre (h:=i) (H.rlist (A:=A2) (e:=34) (s:=3) (m:=l.length) (c:=c2) (S:=S2) (xs:=zs2) (l:=l) U) (by omega)) (H.gat hG) (H.gl hB) (by simp) hks (by omega) (Bn.good_take hlg).ft) ?_))))))))
    rintro _ W ⟨A3,c3,zs3,S3,rfl,hd3,hn_⟩
    replace H:=H.add2 hn_
    clear hn_
    refine ⟨_,fun _ h=>h,H.sb,?_⟩
    refine tf U (eI Tryz.func4 U U (blockPutsB (b:=⟨(mkH (List.replicate 32 (0:UInt8)) (l.take i) (Bn.ks.getD i 0)),(l.take i)⟩) _ (H.rlist (A:=A3) (e:=34) (s:=3) (m:=(l.take i).length) (c:=c3) (S:=S3) (xs:=zs3) (l:=(l.take i)) U) hm3 (H.gat hG) (H.gl hB) (Bn.good_take hlg).sz) H ?_)
    clear H;intro W H
    refine ⟨_,fun _ h=>h,H.sb,?_⟩
    refine tR U (fun W H=>d_not U U) (tR U (fun W H=>mv_bx (c:=false) U U (U)) (t_run U (w_g U U U U) U (fun W H=>dB (vs:=(List.replicate 32 (0:UInt8)).map u8v) U (by kernel_rfl)) ?_))
    refine t_run U (w_g U U U U) U (fun W H=>mv_s U U) (t_run U (w_g U U U U) U (fun W H=>mv_i U U) (t_run U (w_g U U U U) U (fun W H=>d_iaS U (rd_blk (m:=7) (H.blk (g:=gn)) U) U U (q:=i) U hi7 tu40 ts3) (t_run U (w_g U U U U) U (fun W H=>d_ldR0 U (rd_blk (m:=7) (H.blk (g:=gn)) U) U ta3 (Bn.ks_get hi7)) (t_run U (w_g U U U U) U (fun W H=>mv_s U U) (t_run U (w_g U U U U) U (fun W H=>mv_i U U) (t_run U (w_g U U U U) U (fun W H=>d_cutP U U (h:=i) U (by omega) U tu22 ts34) (t_run U (w_g U U U U) U (fun W H=>dM (g:=g5) (off:=0) U H (sa (a:=txC An1 (nthT 0).ins.length cn1 Bn1 (nthT 0).outs.length dn1 (-1)) (m:=3) U) U U U U ta34 ts34) (t_each ?_ ?_))))))))
    ·skip
     refine tf U (e_call (w_g U U U U) U U Tryz.func7 U U U (copyN _ hlt_ (Bn.rl_pre (h:=i) (H.rlist (A:=A2) (e:=34) (s:=3) (m:=l.length) (c:=c2) (S:=S2) (xs:=zs2) (l:=l) U) (by omega)) (by omega) (Bn.good_take hlg).ft) ?_)
     rintro _ W ⟨A4,c4,zs4,S4,rfl,hd4,hn_⟩
     replace H:=H.add2 hn_
     clear hn_
     refine ⟨_,fun _ h=>h,H.sb,?_⟩
     refine tf U (e_bsl (xs:=[.tmp 97]) (vals:=[.agg (txC An1 (nthT 0).ins.length cn1 Bn1 (nthT 0).outs.length dn1 (-1)).toArray]) (vs:=(txC An1 (nthT 0).ins.length cn1 Bn1 (nthT 0).outs.length dn1 (-1))) (w_g U U U U) U U U U U U tu22 ts34 ty34 U (by simp [agg_cells,txC]) (by simp [agg_cells]) H ?_)
     clear H;intro g16_22 W H
     refine ⟨_,fun _ h=>h,H.sb,?_⟩
     refine tf U (e_app (w_g U U U U) U U tu22 tx34 U U U H (rd_blk (m:=1) H.blk U) (U) (by omega) U ?_)
     clear H;intro A7 c7 W hc7 hd7 H
     refine ⟨_,fun _ h=>h,H.sb,?_⟩
     refine tf U (e_call (w_g U U U U) U U Tryz.func6 U U U (makeN (p:=(List.replicate 32 (0:UInt8))) (l:=(l.take i++[(⟨(nthT 0).ins,(nthT 0).outs,-1⟩:DTx)])) _ (by rw [List.length_append];rfl) (Bn.rl_snoc (H.get (f:=Fact.row 34 3 (.slice A7 ((l.take i).length+1) c7) ((l.take i).length+1) (zs4++txC An1 (nthT 0).ins.length cn1 Bn1 (nthT 0).outs.length dn1 (-1)))) (H.get (f:=Fact.els RTx 3 S4 zs4 (l.take i))) (Bn.rtx_lock (H.rep1 (R:=RTx) (S:=Sn1) (cs:=txC An1 (nthT 0).ins.length cn1 Bn1 (nthT 0).outs.length dn1 (nthT 0).lock) (a:=(nthT 0))) U U ⟨by decide,by decide⟩) U) (H.gat hG) (H.gl hB) (by simp) hks (by rw [List.length_append];show _+1<=_;omega) (Bn.good_snoc (Bn.good_take hlg) Bn.good_nth).ft) ?_)
     rintro _ W ⟨A5,c5,zs5,S5,rfl,hd5,hn_⟩
     replace H:=H.add2 hn_
     clear hn_
     refine ⟨_,fun _ h=>h,H.sb,?_⟩
     refine tf U (e_call (w_g U U U U) U U Tryz.func4 U U U (blockPutsB (b:=⟨(mkH (List.replicate 32 (0:UInt8)) (l.take i++[(⟨(nthT 0).ins,(nthT 0).outs,-1⟩:DTx)]) (Bn.ks.getD i 0)),(l.take i++[(⟨(nthT 0).ins,(nthT 0).outs,-1⟩:DTx)])⟩) _ (H.rlist (A:=A5) (e:=34) (s:=3) (m:=(l.take i++[(⟨(nthT 0).ins,(nthT 0).outs,-1⟩:DTx)]).length) (c:=c5) (S:=S5) (xs:=zs5) (l:=(l.take i++[(⟨(nthT 0).ins,(nthT 0).outs,-1⟩:DTx)])) U) hm4 (H.gat hG) (H.gl hB) (Bn.good_snoc (Bn.good_take hlg) Bn.good_nth).sz) ?_)
     rintro _ W ⟨rfl,hb⟩
     replace H:=H.below hb
     clear hb
     refine ⟨_,fun _ h=>h,H.sb,?_⟩
     refine t_run U (w_g U U U U) U (fun W H=>d_not U U) (tR U (fun W H=>d_pickF U U U) (tR U (fun W H=>mv_bx (c:=false) U U (U)) (t_run U (w_g U U U U) U (fun W H=>mv_s U U) (t_run U (w_g U U U U) U (fun W H=>mv_i U U) (t_run U (w_g U U U U) U (fun W H=>d_iaS U (rd_blk (m:=7) (H.blk (g:=gn)) U) U U (q:=i) U hi7 tu40 ts3) (t_run U (w_g U U U U) U (fun W H=>d_ldR0 U (rd_blk (m:=7) (H.blk (g:=gn)) U) U ta3 (Bn.ks_get hi7)) (t_run U (w_g U U U U) U (fun W H=>dB (vs:=hdrC ⟨(List.replicate 32 (0:UInt8)),(List.replicate 32 (0:UInt8)),(Bn.ks.getD i 0)⟩) U (by kernel_rfl)) ?_)))))))
     refine tf U (e_call (w_g U U U U) U U Tryz.func9 U U U (blockRootsB (h:=⟨(List.replicate 32 (0:UInt8)),(List.replicate 32 (0:UInt8)),(Bn.ks.getD i 0)⟩) _ (H.gat hG) (H.gl hB) ⟨by simp,by simp,hks⟩) ?_)
     rintro _ W ⟨rfl,hb⟩
     replace H:=H.below hb
     clear hb
     refine ⟨_,fun _ h=>h,H.sb,?_⟩
     refine t_run U (w_g U U U U) U (fun W H=>d_not U U) (tR U (fun W H=>d_pickF U U U) (t_nil (kn (n_then ?_))))
     refine ⟨_,_,U,?_,?_,⟨U,H.sb⟩⟩
     ·with_reducible repeat first|exact .refl|refine .f ?_ ?_ ?_;kernel_rfl;kernel_rfl|refine .u ?_ ?_;kernel_rfl
     ·refine ⟨?_,trivial⟩
      ·exact U
    refine t_each ?_ ?_
    ·skip
     refine tf U (e_bsl (xs:=[.tmp 97]) (vals:=[.agg (txC An1 (nthT 0).ins.length cn1 Bn1 (nthT 0).outs.length dn1 (-1)).toArray]) (vs:=(txC An1 (nthT 0).ins.length cn1 Bn1 (nthT 0).outs.length dn1 (-1))) (w_g U U U U) U U U U U U tu22 ts34 ty34 U (by simp [agg_cells,txC]) (by simp [agg_cells]) H ?_)
     clear H;intro g16_22 W H
     refine ⟨_,fun _ h=>h,H.sb,?_⟩
     refine tf U (e_call (w_g U U U U) U U Tryz.func7 U U U (copyN _ hlt_ (Bn.rl_pre (h:=i) (H.rlist (A:=A2) (e:=34) (s:=3) (m:=l.length) (c:=c2) (S:=S2) (xs:=zs2) (l:=l) U) (by omega)) (by omega) (Bn.good_take hlg).ft) ?_)
     rintro _ W ⟨A4,c4,zs4,S4,rfl,hd4,hn_⟩
     replace H:=H.add2 hn_
     clear hn_
     refine ⟨_,fun _ h=>h,H.sb,?_⟩
     refine tf U (e_app (w_g U U U U) U U tu22 tx34 U U U H (rd_blk (m:=1) H.blk U) (U) (by omega) U ?_)
     clear H;intro A7 c7 W hc7 hd7 H
     refine ⟨_,fun _ h=>h,H.sb,?_⟩
     refine tf U (e_call (w_g U U U U) U U Tryz.func6 U U U (makeN (p:=(List.replicate 32 (0:UInt8))) (l:=(l.take i++[(⟨(nthT 0).ins,(nthT 0).outs,-1⟩:DTx)])) _ (by rw [List.length_append];rfl) (Bn.rl_snoc (H.get (f:=Fact.row 34 3 (.slice A7 ((l.take i).length+1) c7) ((l.take i).length+1) (zs4++txC An1 (nthT 0).ins.length cn1 Bn1 (nthT 0).outs.length dn1 (-1)))) (H.get (f:=Fact.els RTx 3 S4 zs4 (l.take i))) (Bn.rtx_lock (H.rep1 (R:=RTx) (S:=Sn1) (cs:=txC An1 (nthT 0).ins.length cn1 Bn1 (nthT 0).outs.length dn1 (nthT 0).lock) (a:=(nthT 0))) U U ⟨by decide,by decide⟩) U) (H.gat hG) (H.gl hB) (by simp) hks (by rw [List.length_append];show _+1<=_;omega) (Bn.good_snoc (Bn.good_take hlg) Bn.good_nth).ft) ?_)
     rintro _ W ⟨A5,c5,zs5,S5,rfl,hd5,hn_⟩
     replace H:=H.add2 hn_
     clear hn_
     refine ⟨_,fun _ h=>h,H.sb,?_⟩
     refine tf U (e_call (w_g U U U U) U U Tryz.func4 U U U (blockPutsB (b:=⟨(mkH (List.replicate 32 (0:UInt8)) (l.take i++[(⟨(nthT 0).ins,(nthT 0).outs,-1⟩:DTx)]) (Bn.ks.getD i 0)),(l.take i++[(⟨(nthT 0).ins,(nthT 0).outs,-1⟩:DTx)])⟩) _ (H.rlist (A:=A5) (e:=34) (s:=3) (m:=(l.take i++[(⟨(nthT 0).ins,(nthT 0).outs,-1⟩:DTx)]).length) (c:=c5) (S:=S5) (xs:=zs5) (l:=(l.take i++[(⟨(nthT 0).ins,(nthT 0).outs,-1⟩:DTx)])) U) hm4 (H.gat hG) (H.gl hB) (Bn.good_snoc (Bn.good_take hlg) Bn.good_nth).sz) ?_)
     rintro _ W ⟨rfl,hb⟩
     replace H:=H.below hb
     clear hb
     refine ⟨_,fun _ h=>h,H.sb,?_⟩
     refine t_run U (w_g U U U U) U (fun W H=>d_not U U) (tR U (fun W H=>d_pickF U U U) (tR U (fun W H=>mv_bx (c:=false) U U (U)) (t_run U (w_g U U U U) U (fun W H=>mv_s U U) (t_run U (w_g U U U U) U (fun W H=>mv_i U U) (t_run U (w_g U U U U) U (fun W H=>d_iaS U (rd_blk (m:=7) (H.blk (g:=gn)) U) U U (q:=i) U hi7 tu40 ts3) (t_run U (w_g U U U U) U (fun W H=>d_ldR0 U (rd_blk (m:=7) (H.blk (g:=gn)) U) U ta3 (Bn.ks_get hi7)) (t_run U (w_g U U U U) U (fun W H=>dB (vs:=hdrC ⟨(List.replicate 32 (0:UInt8)),(List.replicate 32 (0:UInt8)),(Bn.ks.getD i 0)⟩) U (by kernel_rfl)) ?_)))))))
     refine tf U (e_call (w_g U U U U) U U Tryz.func9 U U U (blockRootsB (h:=⟨(List.replicate 32 (0:UInt8)),(List.replicate 32 (0:UInt8)),(Bn.ks.getD i 0)⟩) _ (H.gat hG) (H.gl hB) ⟨by simp,by simp,hks⟩) ?_)
     rintro _ W ⟨rfl,hb⟩
     replace H:=H.below hb
     clear hb
     refine ⟨_,fun _ h=>h,H.sb,?_⟩
     refine t_run U (w_g U U U U) U (fun W H=>d_not U U) (tR U (fun W H=>d_pickF U U U) (t_nil (kn (n_then ?_))))
     refine ⟨_,_,U,?_,?_,⟨U,H.sb⟩⟩
     ·with_reducible repeat first|exact .refl|refine .f ?_ ?_ ?_;kernel_rfl;kernel_rfl|refine .u ?_ ?_;kernel_rfl
     ·refine ⟨?_,trivial⟩
      ·exact U
    exact t_none
   clear H;obtain ⟨rfl,H⟩:=hJ
   refine kF U U (kS (kn (zE (kI U U U (by omega) U (kn (kY ?_))))))
   refine ⟨_,_,_,?_,U,?_,?_,⟨i+1,U,U,by omega,H.sb⟩⟩
   ·omega
   ·with_reducible repeat first|exact .refl|refine .f ?_ ?_ ?_;kernel_rfl;kernel_rfl|refine .u ?_ ?_;kernel_rfl
   ·refine ⟨?_,trivial⟩
    ·exact vi (by omega)
  ·skip
   refine ke (xt (xt ?_))
   refine xH (kR (sR (dB (vs:=((1:UInt8)::List.replicate 31 0).map u8v) U (by kernel_rfl)) ?_))
   refine sMs U (sR (d_cutP U U (h:=2) U (by omega) U tu22 ts34) (sf (ecl Tryz.func6 U U (makeN (p:=((1:UInt8)::List.replicate 31 0)) _ (by rw [List.length_take];omega) (Bn.rl_pre (h:=2) (H.rlist (A:=A2) (e:=34) (s:=3) (m:=l.length) (c:=c2) (S:=S2) (xs:=zs2) (l:=l) U) (by omega)) (H.gat hG) (H.gl hB) (by simp) ⟨by decide,by decide⟩ (by rw [List.length_take];omega) (Bn.good_take hlg).ft) ?_)))
   rintro _ W ⟨A8,c8,zs8,S8,rfl,hd8,hn_⟩
   replace H:=H.add2 hn_
   clear hn_
   have hm5:Bk.OkH (mkH ((1:UInt8)::List.replicate 31 0) (l.take 2) 2):=mkH_ok (by simp) ⟨by decide,by decide⟩
   refine sf (eal (bC zHd none 0 0) tz28 H ?_)
   clear H;intro g8 W H
   refine sf (esk (bC (mkH ((1:UInt8)::List.replicate 31 0) (l.take 2) 2) A8 (l.take 2).length c8) U U U ts28 (lB hm5) blk_one H (by rw [lB zHd_ok];decide) (spl_all ((lB hm5).trans (lB zHd_ok).symm)) ?_)
   clear H;intro W H
   refine lkR (sR (dM (g:=g8) (off:=0) U H (sa (a:=bC (mkH ((1:UInt8)::List.replicate 31 0) (l.take 2) 2) A8 (l.take 2).length c8) (lB hm5)) (lB hm5) U U U ta28 ts28) (sf (ecl Tryz.func12 U U (putBP (b:=(⟨(mkH ((1:UInt8)::List.replicate 31 0) (l.take 2) 2),(l.take 2)⟩:DBlock)) _ (H.rlist (A:=A8) (e:=34) (s:=3) (m:=(l.take 2).length) (c:=c8) (S:=S8) (xs:=zs8) (l:=(l.take 2)) U) hm5 (H.gat hG) (H.gl hB)) ?_)))
   rintro _ W ⟨_,rfl,A6,c6,rfl,hc6,hd6,hn⟩
   replace H:=H.new hn
   clear hn
   refine sMt U (sEx U U (sEx U U (sAs U (sAi U (ln ?_)))))
   have hlp:=len_putAny (⟨(mkH ((1:UInt8)::List.replicate 31 0) (l.take 2) 2),(l.take 2)⟩:DBlock) ⟨hm5,rl_txs (H.rlist (A:=A8) (e:=34) (s:=3) (m:=(l.take 2).length) (c:=c8) (S:=S8) (xs:=zs8) (l:=(l.take 2)) rfl)⟩
   replace H:St nT w W [Fact.row 5 1 (.slice A6 (Bk.put BTG (⟨(mkH ((1:UInt8)::List.replicate 31 0) (l.take 2) 2),(l.take 2)⟩:DBlock)).1.length c6) (Bk.put BTG (⟨(mkH ((1:UInt8)::List.replicate 31 0) (l.take 2) 2),(l.take 2)⟩:DBlock)).1.length ((Bk.put BTG (⟨(mkH ((1:UInt8)::List.replicate 31 0) (l.take 2) 2),(l.take 2)⟩:DBlock)).1.map u8v),Fact.blk g8 (bC (mkH ((1:UInt8)::List.replicate 31 0) (l.take 2) 2) A8 (l.take 2).length c8) 28,Fact.row 34 3 (.slice A8 (l.take 2).length c8) (l.take 2).length zs8,Fact.els RTx 3 S8 zs8 (l.take 2)]:=H.sb
   refine kQ (kR (sAi U (ln (kb (kL 122 [0,11,12] (fun mm sl W=>∃i:Nat,(Bk.put BTG (⟨(mkH ((1:UInt8)::List.replicate 31 0) (l.take 2) 2),(l.take 2)⟩:DBlock)).1.length - i=mm∧sl=[(11,.int .i64 (i:Int))]∧(i<=(Bk.put BTG (⟨(mkH ((1:UInt8)::List.replicate 31 0) (l.take 2) 2),(l.take 2)⟩:DBlock)).1.length)∧St nT w W [Fact.row 5 1 (.slice A6 (Bk.put BTG (⟨(mkH ((1:UInt8)::List.replicate 31 0) (l.take 2) 2),(l.take 2)⟩:DBlock)).1.length c6) (Bk.put BTG (⟨(mkH ((1:UInt8)::List.replicate 31 0) (l.take 2) 2),(l.take 2)⟩:DBlock)).1.length ((Bk.put BTG (⟨(mkH ((1:UInt8)::List.replicate 31 0) (l.take 2) 2),(l.take 2)⟩:DBlock)).1.map u8v),Fact.blk g8 (bC (mkH ((1:UInt8)::List.replicate 31 0) (l.take 2) 2) A8 (l.take 2).length c8) 28,Fact.row 34 3 (.slice A8 (l.take 2).length c8) (l.take 2).length zs8,Fact.els RTx 3 S8 zs8 (l.take 2)]) _ _ ⟨0,U,U,Nat.zero_le _,H⟩ ⟨U,trivial⟩ (fun mm sl ρv W hJ=>?_))))))
   clear H;obtain ⟨i,rfl,rfl,hi,H⟩:=hJ
   refine ko (kQ (kR (sMi U (sMs U (sLn U tu41 (sLt U U (ln (kC U (fun hc125=>?_) (fun hc125=>?_)))))))))
   ·have hil:i<(Bk.put BTG (⟨(mkH ((1:UInt8)::List.replicate 31 0) (l.take 2) 2),(l.take 2)⟩:DBlock)).1.length:=by have h:=of_decide_eq_true hc125;omega
    refine kS (kQ (kb (kR (sMs U (sf (eN Tryz.func13 U U (copyBytes _ _ _ (H.rowbs (A:=A6) U) (by omega)) H ?_))))))
    clear H;intro A10 c10 W hc10 hd10 H
    refine sAs U (lkR (sMs U (sMi U (sMs U (sMi U (sR (d_iaB U (H.rowrd (A:=A10)) U U (q:=i) U (by omega) tu41 ts5) (sR (d_ldB U (H.rowrd (A:=A10)) (l_get (k:=i) (by omega)) U ta5) (sR (d_bitW U U U xor8C) (sR (d_iaB U (H.rowrd (A:=A10)) U U (q:=i) U (by omega) tu41 ts5) (sf (e_stoR (e:=5) (A:=A10) (m:=(Bk.put BTG (⟨(mkH ((1:UInt8)::List.replicate 31 0) (l.take 2) 2),(l.take 2)⟩:DBlock)).1.length) (c:=c10) (q:=0) (k:=i) (wn U) U U U U Bn.add0 U ts5 U H (by omega) ?_)))))))))))
    clear H;intro W H
    obtain ⟨l2,hl2,hm2⟩:∃l2:List UInt8,l2.length=(Bk.put BTG (⟨(mkH ((1:UInt8)::List.replicate 31 0) (l.take 2) 2),(l.take 2)⟩:DBlock)).1.length∧((Bk.put BTG (⟨(mkH ((1:UInt8)::List.replicate 31 0) (l.take 2) 2),(l.take 2)⟩:DBlock)).1.map u8v).set (0+i) (u8v ((Bk.put BTG (⟨(mkH ((1:UInt8)::List.replicate 31 0) (l.take 2) 2),(l.take 2)⟩:DBlock)).1.getD i 0 ^^^ 1))=l2.map u8v:=⟨(Bk.put BTG (⟨(mkH ((1:UInt8)::List.replicate 31 0) (l.take 2) 2),(l.take 2)⟩:DBlock)).1.set i ((Bk.put BTG (⟨(mkH ((1:UInt8)::List.replicate 31 0) (l.take 2) 2),(l.take 2)⟩:DBlock)).1.getD i 0 ^^^ 1),by simp,by rw [List.map_set,Nat.zero_add]⟩
    replace H:St nT w W [Fact.row 5 1 (.slice A10 (Bk.put BTG (⟨(mkH ((1:UInt8)::List.replicate 31 0) (l.take 2) 2),(l.take 2)⟩:DBlock)).1.length c10) (Bk.put BTG (⟨(mkH ((1:UInt8)::List.replicate 31 0) (l.take 2) 2),(l.take 2)⟩:DBlock)).1.length (((Bk.put BTG (⟨(mkH ((1:UInt8)::List.replicate 31 0) (l.take 2) 2),(l.take 2)⟩:DBlock)).1.map u8v).set (0+i) (u8v ((Bk.put BTG (⟨(mkH ((1:UInt8)::List.replicate 31 0) (l.take 2) 2),(l.take 2)⟩:DBlock)).1.getD i 0 ^^^ 1))),Fact.row 5 1 (.slice A6 (Bk.put BTG (⟨(mkH ((1:UInt8)::List.replicate 31 0) (l.take 2) 2),(l.take 2)⟩:DBlock)).1.length c6) (Bk.put BTG (⟨(mkH ((1:UInt8)::List.replicate 31 0) (l.take 2) 2),(l.take 2)⟩:DBlock)).1.length ((Bk.put BTG (⟨(mkH ((1:UInt8)::List.replicate 31 0) (l.take 2) 2),(l.take 2)⟩:DBlock)).1.map u8v),Fact.blk g8 (bC (mkH ((1:UInt8)::List.replicate 31 0) (l.take 2) 2) A8 (l.take 2).length c8) 28,Fact.row 34 3 (.slice A8 (l.take 2).length c8) (l.take 2).length zs8,Fact.els RTx 3 S8 zs8 (l.take 2)]:=H
    rw [hm2] at H
    refine lkR (sMs U (sf (eI Tryz.func5 U U (blockGetsB (b:=l2) _ (H.gat hG) (H.gl hB) (H.rowbs (A:=A10) hl2)) H ?_)))
    clear H;intro W H
    refine sR (d_not U U) (sBf U (U) (sr (w_g U U U U) U (mv_s U U) (sr (w_g U U U U) U (mv_i U U) (sr (w_g U U U U) U (d_cutP U U (h:=i) U (by omega) U tu41 ts5) (sf (e_call (w_g U U U U) U U Tryz.func5 U U U (blockGetsB (b:=(Bk.put BTG (⟨(mkH ((1:UInt8)::List.replicate 31 0) (l.take 2) 2),(l.take 2)⟩:DBlock)).1.take i) _ (H.gat hG) (H.gl hB) (bs_first (h:=i) (H.rowbs (A:=A6) U) U (by omega))) ?_))))))
    rintro _ W ⟨rfl,hb⟩
    replace H:=H.below hb
    clear hb
    refine sr (w_g U U U U) U (d_not U U) (sPF U U (sBf U (U) (sr (w_g U U U U) U (dM (g:=g8) (off:=0) U H (sa (a:=bC (mkH ((1:UInt8)::List.replicate 31 0) (l.take 2) 2) A8 (l.take 2).length c8) (lB hm5)) (lB hm5) U U U ta28 ts28) (sr (w_g U U U U) U (mv_i U U) (sf (e_bsl (xs:=[.const (.int .u8 1),.const (.int .u8 2)]) (vals:=[.int .u8 _,.int .u8 _]) (vs:=[.int .u8 _,.int .u8 _]) (w_g U U U U) U U U U U U tu41 ts5 ty5 U U U H ?_))))))
    clear H;intro g12 W H
    refine sf (e_call (w_g U U U U) U U Tryz.func11 U U U (blockCutB (b:=(⟨(mkH ((1:UInt8)::List.replicate 31 0) (l.take 2) 2),(l.take 2)⟩:DBlock)) (S1:=(·=g12)) (ct:=(i:Int)) (m:=[1,2]) _ (H.rlist (A:=A8) (e:=34) (s:=3) (m:=(l.take 2).length) (c:=c8) (S:=S8) (xs:=zs8) (l:=(l.take 2)) U) hm5 (H.gat hG) (H.gl hB) (Bn.good_take hlg).sz (Bs.mk (S:=(·=g12)) (l:=[1,2]) (rd_blk H.blk U) (by decide) (by decide))) ?_)
    rintro _ W ⟨rfl,hb⟩
    replace H:=H.below hb
    clear hb
    refine sr (w_g U U U U) U (d_not U U) (sPF U U (ln (kF U U (kS (kn (zE (kI U U U (by omega) U (kn (kY ?_)))))))))
    refine ⟨_,_,_,?_,U,?_,?_,⟨i+1,U,U,by omega,H.sb⟩⟩
    ·omega
    ·with_reducible repeat first|exact .refl|refine .f ?_ ?_ ?_;kernel_rfl;kernel_rfl|refine .u ?_ ?_;kernel_rfl
    ·refine ⟨?_,trivial⟩
     ·exact vi (by omega)
   ·skip
    refine ke (xt (xt ?_))
    refine xH (kR (sf (eI Tryz.func14 U U (works09 _ (H.gat hG) (H.gl hB)) H ?_)))
    clear H;intro W H
    refine sAb U (ln (kx ?_))
    exact qr (v:=.bool _) U U ⟨_,U,U,H.under⟩
end Go.Proofs.YtfhhfhdnhadooaaGreatDoor
