import Derived.Test.YtjjodibkmeefpaaGreatDoorMWF
import Derived.Test.YtjjodibkmeefpaaGreatDoorMWA
set_option linter.unusedVariables false
set_option linter.unusedSimpArgs false
set_option maxHeartbeats 4000000

namespace Go.Proofs.YtjjodibkmeefpaaGreatDoor
open Go Go.RowKit
attribute [local irreducible] wpList

theorem copyTxsR {S:Nat->Prop} {A:Option Addr} {c:Nat} {l:List DTx} (w:World) (hl:RL 3 RTx w S [.slice A l.length c] l) (hn:l.length<=1000000) (hf:∀t∈l,Tx.Fits t):Calls Tryz.prog 51 [.slice A l.length c].toArray w (Ret (fun v' w'=>∃A3 c3 zs S3,v'=.slice A3 l.length c3∧(l.length<=c3∧c3<=9223372036854775807)∧St nT w w' [Fact.row 47 3 (.slice A3 l.length c3) l.length zs,Fact.els RTx 3 S3 zs l])):=by
 have hl0:=hl
 obtain ⟨A_,c_,xs,hv_,_,_,hr,hel⟩:=hl0
 cases hv_
 refine kE (l:=[_]) Tryz.func51 U U ?_
 have H:=St.start nT w
 refine kR (sAs U (lkR (sAs U (ln (kQ (kR (sAi U (ln (kb (kL 3 [] (fun mm sl W=>∃i:Nat,∃A3:Option Addr,∃c3:Nat,∃zs:List Value,∃S3:Nat->Prop,l.length - i=mm∧sl=[(4,.int .i64 (i:Int)),(3,.slice A3 i c3)]∧(i<=l.length)∧(i<=c3∧c3<=9223372036854775807)∧St nT w W [Fact.row 47 3 (.slice A3 i c3) i zs,Fact.els RTx 3 S3 zs (l.take i)]) _ _ ⟨0,none,0,[],(fun _=>False),U,U,Nat.zero_le _,⟨Nat.le_refl _,by omega⟩,((H.els0 RTx 3).nilrow 47 3)⟩ ⟨U,U,trivial⟩ (fun mm sl ρv W hJ=>?_)))))))))))
 clear H;obtain ⟨i,A3,c3,zs,S3,rfl,rfl,hi,hd3,H⟩:=hJ
 refine ko (kQ (kR (sMi U (sMs U (sLn U tu74 (sLt U U (ln (kC U (fun hc8=>?_) (fun hc8=>?_)))))))))
 ·have hlt:i<l.length:=by simp at hc8;omega
  obtain ⟨g0,o0,rfl,-⟩:=hr.2 (by omega)
  obtain ⟨t,ht⟩:=get_lt hlt
  have hRt:=hel i t ht
  obtain ⟨Ai,ci,Bi,di,hL,-,-,hkt⟩:=tx_of hRt
  rw [hL] at hRt
  have hft:=hf t (List.mem_of_getElem? ht)
  refine kS (kQ (kb (kr (sMs U (sMs U (sMi U (sR (dG U (H.rd hr) U U (q:=i) U hlt tu74 ts47) (sR (dN (off:=0) U (H.rd hr) hlt hL (sa (a:=txC Ai t.ins.length ci Bi t.outs.length di t.lock) (m:=3) U) U U (by omega) ta47 ts47) (sf (ecl Tryz.func40 U U (copyTx _ (keeps_Tx _ _ _ _ _ hRt (fun g hg _=>H.fr.block g hg (fun h=>h))) hft) ?_))))))))))
  rintro _ W hs_
  obtain ⟨Sn5,An5,cn5,Bn5,dn5,rfl,H1_⟩:=NewTx.rep hs_ H hkt
  clear H hs_
  have H:=H1_
  clear H1_
  refine sf (ebs (xs:=[.tmp 16]) (vals:=[.agg (txC An5 t.ins.length cn5 Bn5 t.outs.length dn5 t.lock).toArray]) (vs:=(txC An5 t.ins.length cn5 Bn5 t.outs.length dn5 t.lock)) U U U U tu74 ts47 ty47 U (by simp [agg_cells,txC]) (by simp [agg_cells]) H ?_)
  clear H;intro g5_6 W H
  refine sf (eap tu74 tx47 U U U H (rd_blk (m:=1) H.blk U) (U) (by omega) U ?_)
  clear H;intro A7 c7 W hc7 hd7 H
  replace H:=H.drop
  refine sAs U (ln (kn (zE (kI U U U (by omega) U (kn (kY ?_))))))
  replace H:=(St.elsnoc (H.perm (.cons _ (.swap _ _ _))) rfl).perm (.swap _ _ _)
  refine ⟨_,_,_,?_,U,?_,?_,⟨i+1,A7,c7,_,_,U,U,by omega,⟨hc7,hd7⟩,(by rw [take_get ht];exact H)⟩⟩
  ·omega
  ·with_reducible repeat first|exact .refl|refine .f ?_ ?_ ?_;kernel_rfl;kernel_rfl|refine .u ?_ ?_;kernel_rfl
  ·refine ⟨?_,?_,trivial⟩
   ·exact vi (by omega)
   ·exact U
 ·obtain rfl:i=l.length:=by simp at hc8;omega
  rw [List.take_length] at H
  refine ke (xQ (xQ ?_))
  refine xH (kR (sMs U (sAs U (ln (kx ?_)))))
  exact qr (v:=.slice _ _ _) U U ⟨_,U,A3,c3,zs,S3,U,hd3,H⟩

theorem copyTxs {S:Nat->Prop} {A:Option Addr} {c:Nat} {l:List DTx} (w:World) (hl:RL 3 RTx w S [.slice A l.length c] l) (hn:l.length<=1000000) (hf:∀t∈l,Tx.Fits t):Calls Tryz.prog 51 [.slice A l.length c].toArray w (Ret (fun v' w'=>∃S3 A3 c3,v'=.slice A3 l.length c3∧St nT w w' [Fact.rep (RL 3 RTx) S3 [.slice A3 l.length c3] l])):=Calls.mono (copyTxsR w hl hn hf) (fun e w' h=>by
 obtain ⟨v,rfl,A3,c3,zs,S3,rfl,_,h⟩:=h
 exact ⟨_,U,_,A3,c3,U,h.tolist⟩)

theorem copyBlock {S:Nat->Prop} {A:Option Addr} {c:Nat} {b:DBlock} (w:World) (hl:RL 3 RTx w S [.slice A b.txs.length c] b.txs) (hh:Bk.OkH b.header) (hn:b.txs.length<=1000000) (hf:∀t∈b.txs,Tx.Fits t):Calls Tryz.prog 30 [.agg (bC b.header A b.txs.length c).toArray].toArray w (Ret (fun v' w'=>∃S3 A3 c3,v'=.agg (bC b.header A3 b.txs.length c3).toArray∧St nT w w' [Fact.rep (RL 3 RTx) S3 [.slice A3 b.txs.length c3] b.txs])):=by
 refine kE (l:=[_]) Tryz.func30 U U ?_
 have H:=St.start nT w
 refine kR (sf (ebx (vs:=(bC b.header A b.txs.length c)) U U H ?_))
 clear H;intro gb W H
 refine sf (eal (bC zHd none 0 0) tz76 H ?_)
 clear H;intro go W H
 refine ln (kQ (k_draw [(0,true),(1,true),(2,true),(3,true),(4,false),(5,true),(6,false)] [Fact.blk gb (bC b.header A b.txs.length c) 76] (by kernel_rfl) (by kernel_rfl) H (by repeat (first|exact .refl _|exact List.nil_sublist _|refine .cons_cons _ ?_|refine .cons _ ?_)) ?_))
 clear H;intro W H
 refine cFa U U tf76_0 (cR U (fun W H=>dM (g:=gb) (off:=0) U H (sub_b_hdr hh) (len_hdr hh) U U U ta73 ts73) (cFa U U tf76_1 (cR U (fun W H=>dX (g:=gb) (off:=65) U H (sub_b_txs hh) U U ta74) (cf U (ecl Tryz.func51 U U (copyTxs _ (keeps_L keeps_Tx _ _ _ _ _ hl (fun g hg _=>H.fr.block g hg (fun h=>h))) hn hf) ?_)))))
 rintro _ W ⟨S3,A3,c3,rfl,hn3⟩
 replace H:=H.add1 hn3
 clear hn3
 refine ⟨H.sb,?_⟩
 refine cR U (fun W H=>dB (vs:=bC b.header A3 b.txs.length c3) U (built_fields (places:=[(0,65),(65,1)]) tz76 (by kernel_rfl) (by kernel_rfl) (fN (vs:=hdrC b.header) (.agg (hdrC b.header).toArray) U U U (len_hdr hh) (Nat.le_of_ble_eq_true U) (fN (vs:=[.slice A3 b.txs.length c3]) (.slice A3 b.txs.length c3) U (by first|(simp [(len_hdr hh)];done)|(simp [(len_hdr hh)];omega)) U U (Nat.le_of_ble_eq_true U) (fill_end (by rw [List.drop_drop,List.drop_of_length_le (by rw [lB zHd_ok];exact Nat.le_refl _)];simp [bC])))))) ?_
 refine cf U (esk (bC b.header A3 b.txs.length c3) U U U ts76 (lB hh) blk_one H (by rw [lB zHd_ok];decide) (spl_all ((lB hh).trans (lB zHd_ok).symm)) ?_)
 clear H;intro W H
 refine ⟨H.sb,?_⟩
 refine c_nil (kx ?_)
 refine q_retc U (c:=bC b.header A3 b.txs.length c3) (g:=go) H U ta76 (by rw [lB hh];exact ts76) ⟨_,U,S3,A3,c3,U,?_⟩
 exact H.sub (L':=[_]) (by repeat (first|exact .refl _|exact List.nil_sublist _|refine .cons_cons _ ?_|refine .cons _ ?_))

theorem copyBlocks {S:Nat->Prop} {A:Option Addr} {c:Nat} {l:List DBlock} (w:World) (hl:RL 66 RBlock w S [.slice A l.length c] l) (hn:l.length<=1000000) (hf:∀b∈l,b.txs.length<=1000000∧∀t∈b.txs,Tx.Fits t):Calls Tryz.prog 7 [.slice A l.length c].toArray w (Ret (fun v' w'=>∃A3 c3 zs S3,v'=.slice A3 l.length c3∧(l.length<=c3∧c3<=9223372036854775807)∧St nT w w' [Fact.row 76 66 (.slice A3 l.length c3) l.length zs,Fact.els RBlock 66 S3 zs l])):=by
 have hl0:=hl
 obtain ⟨A_,c_,xs,hv_,_,_,hr,hel⟩:=hl0
 cases hv_
 refine kE (l:=[_]) Tryz.func7 U U ?_
 have H:=St.start nT w
 refine kR (sAs U (lkR (sAs U (ln (kQ (kR (sAi U (ln (kb (kL 3 [] (fun mm sl W=>∃i:Nat,∃A3:Option Addr,∃c3:Nat,∃zs:List Value,∃S3:Nat->Prop,l.length - i=mm∧sl=[(4,.int .i64 (i:Int)),(3,.slice A3 i c3)]∧(i<=l.length)∧(i<=c3∧c3<=9223372036854775807)∧St nT w W [Fact.row 76 66 (.slice A3 i c3) i zs,Fact.els RBlock 66 S3 zs (l.take i)]) _ _ ⟨0,none,0,[],(fun _=>False),U,U,Nat.zero_le _,⟨Nat.le_refl _,by omega⟩,((H.els0 RBlock 66).nilrow 76 66)⟩ ⟨U,U,trivial⟩ (fun mm sl ρv W hJ=>?_)))))))))))
 clear H;obtain ⟨i,A3,c3,zs,S3,rfl,rfl,hi,hd3,H⟩:=hJ
 refine ko (kQ (kR (sMi U (sMs U (sLn U tu22 (sLt U U (ln (kC U (fun hc8=>?_) (fun hc8=>?_)))))))))
 ·have hlt:i<l.length:=by simp at hc8;omega
  obtain ⟨g0,o0,rfl,-⟩:=hr.2 (by omega)
  obtain ⟨b,hib⟩:=get_lt hlt
  obtain ⟨Ab,cb,hLb,hTx,hh⟩:=blk_of (hel i b hib)
  obtain ⟨hfn,hft⟩:=hf b (List.mem_of_getElem? hib)
  refine kS (kQ (kb (kr (sMs U (sMs U (sMi U (sR (dG U (H.rd hr) U U (q:=i) U hlt tu22 ts76) (sR (dN (off:=0) U (H.rd hr) hlt hLb (sa (lB hh)) U U (by omega) ta76 ts76) (sf (ecl Tryz.func30 U U (copyBlock _ (keeps_L keeps_Tx _ _ _ _ _ hTx (fun g hg _=>H.fr.block g hg (fun h=>h))) hh hfn hft) ?_))))))))))
  rintro _ W ⟨S5,A5,c5,rfl,hn3⟩
  replace H:=H.add1 hn3
  clear hn3
  refine sf (ebs (xs:=[.tmp 16]) (vals:=[.agg (bC b.header A5 b.txs.length c5).toArray]) (vs:=(bC b.header A5 b.txs.length c5)) U U U U tu22 ts76 ty76 U (by simp [agg_cells,lB hh]) (by simp [agg_cells]) H ?_)
  clear H;intro g5_6 W H
  refine sf (eap tu22 tx76 U U U H (rd_blk (m:=1) H.blk (lB hh)) (blk_one) (by omega) U ?_)
  clear H;intro A7 c7 W hc7 hd7 H
  replace H:=H.drop
  refine sAs U (ln (kn (zE (kI U U U (by omega) U (kn (kY ?_))))))
  replace H:=H.rerep (R':=RBlock) (cs':=bC b.header A5 b.txs.length c5) (b:=b) (fun h=>blk_rep hh h)
  replace H:=(St.elsnoc (H.perm (.cons _ (.swap _ _ _))) (lB hh)).perm (.swap _ _ _)
  refine ⟨_,_,_,?_,U,?_,?_,⟨i+1,A7,c7,_,_,U,U,by omega,⟨hc7,hd7⟩,(by rw [take_get hib];exact H)⟩⟩
  ·omega
  ·with_reducible repeat first|exact .refl|refine .f ?_ ?_ ?_;kernel_rfl;kernel_rfl|refine .u ?_ ?_;kernel_rfl
  ·refine ⟨?_,?_,trivial⟩
   ·exact vi (by omega)
   ·exact U
 ·obtain rfl:i=l.length:=by simp at hc8;omega
  rw [List.take_length] at H
  refine ke (xQ (xQ ?_))
  refine xH (kR (sMs U (sAs U (ln (kx ?_)))))
  exact qr (v:=.slice _ _ _) U U ⟨_,U,A3,c3,zs,S3,U,hd3,H⟩
end Go.Proofs.YtjjodibkmeefpaaGreatDoor

namespace Go.Proofs.YtjjodibkmeefpaaGreatDoor
open Go Go.RowKit

namespace Wt
variable {ID:DTx->List UInt8} {SUM:List UInt8->List UInt8} {p r:List DBlock} {s h id:List UInt8} {pt:DPoint}
theorem hit_is {i:Nat} {hb:WHit} (h2:(found ID p s)[i]?=some hb):hb.out.script=s∧1<=hb.depth∧hb.depth<=(p.length:Int)∧hb.depth<=depth ID p hb.point.tx:=by
 obtain ⟨h1,j,hj,h3,b,hb1,hb2⟩:=foundN_of (List.mem_of_getElem? h2)
 refine ⟨h1,by rw [h3];omega,by rw [h3];omega,?_⟩
 rw [h3]
 exact depthN_ge hb1 hb2
theorem secret_is {d:List UInt8} (k:secret SUM p pt h=some d):d.length=32∧SUM d=h:=by
 unfold secret secretS at k
 cases e:spent p pt with
 | none=>rw [e] at k;cases k
 | some x =>
  rw [e] at k
  dsimp only at k
  cases e2:x.1.ins[x.2.1]? with
  | none=>rw [e2] at k;cases k
  | some y=>rw [e2] at k;exact secretW_of k
end Wt
end Go.Proofs.YtjjodibkmeefpaaGreatDoor

namespace Go.Proofs.YtjjodibkmeefpaaGreatDoor
open Go Go.RowKit
attribute [local irreducible] wpList

theorem len_secV {p:List DBlock} {pt:DPoint} {h:List UInt8}:(secV (Wt.secret Old.Bl.sum p pt h)).length=32:=by
 cases e:Wt.secret Old.Bl.sum p pt h with
 | none=>exact List.length_replicate
 | some d=>exact (Wt.secret_is e).1
def qC (A:Option Addr) (m c:Nat) (pt:DPoint) (h id:List UInt8):List Value:=[.slice A m c]++(pointC pt++(h.map u8v++id.map u8v))
section
variable {A:Option Addr} {m c:Nat} {pt:DPoint} {h id:List UInt8}
theorem qc_s:sub (qC A m c pt h id) 0 1=[.slice A m c]:=sub_head rfl
theorem qc_p (hp:pt.tx.length=32):sub (qC A m c pt h id) 1 33=pointC pt:=sub_Question_1 rfl (len_point hp)
theorem qc_h (hp:pt.tx.length=32) (hh:h.length=32):sub (qC A m c pt h id) 34 32=h.map u8v:=sub_Question_2 rfl (len_point hp) (by rw [List.length_map];exact hh)
theorem qc_i (hp:pt.tx.length=32) (hh:h.length=32) (hi:id.length=32):sub (qC A m c pt h id) 66 32=id.map u8v:=sub_Question_3 rfl (len_point hp) (by rw [List.length_map];exact hh) (by rw [List.length_map];exact hi)
end
attribute [local irreducible] Tx.dig Old.Bl.sum

end Go.Proofs.YtjjodibkmeefpaaGreatDoor
