import Derived.Test.YtfhhfhdnhadooaaGreatDoorMBN
import Derived.Test.YtfhhfhdnhadooaaGreatDoorMBF
import Derived.Test.YtfhhfhdnhadooaaGreatDoorMBZ
import Derived.Test.YtfhhfhdnhadooaaGreatDoorMBK
import Derived.Test.YtfhhfhdnhadooaaGreatDoorMBC
import Derived.Test.YtfhhfhdnhadooaaGreatDoorMB
set_option linter.unusedVariables false
set_option linter.unusedSimpArgs false
set_option maxHeartbeats 4000000

namespace Go.Proofs.YtfhhfhdnhadooaaGreatDoor
open Go Go.RowKit
attribute [local irreducible] wpList

theorem copyTxsR {S:Nat->Prop} {A:Option Addr} {c:Nat} {l:List DTx} (w:World) (hl:RL 3 RTx w S [.slice A l.length c] l) (hn:l.length<=1000000) (hf:∀t∈l,Tx.Fits t):Calls Tryz.prog 7 [.slice A l.length c].toArray w (Ret (fun v' w'=>∃A3 c3 zs S3,v'=.slice A3 l.length c3∧(l.length<=c3∧c3<=9223372036854775807)∧St nT w w' [Fact.row 34 3 (.slice A3 l.length c3) l.length zs,Fact.els RTx 3 S3 zs l])):=by
 have hl0:=hl
 obtain ⟨A_,c_,xs,hv_,_,_,hr,hel⟩:=hl0
 cases hv_
 refine kE (l:=[_]) Tryz.func7 U U ?_
 have H:=St.start nT w
 refine kR (sAs U (lkR (sAs U (ln (kQ (kR (sAi U (ln (kb (kL 3 [] (fun mm sl W=>∃i:Nat,∃A3:Option Addr,∃c3:Nat,∃zs:List Value,∃S3:Nat->Prop,l.length - i=mm∧sl=[(4,.int .i64 (i:Int)),(3,.slice A3 i c3)]∧(i<=l.length)∧(i<=c3∧c3<=9223372036854775807)∧St nT w W [Fact.row 34 3 (.slice A3 i c3) i zs,Fact.els RTx 3 S3 zs (l.take i)]) _ _ ⟨0,none,0,[],(fun _=>False),U,U,Nat.zero_le _,⟨Nat.le_refl _,by omega⟩,((H.els0 RTx 3).nilrow 34 3)⟩ ⟨U,U,trivial⟩ (fun mm sl ρv W hJ=>?_)))))))))))
 clear H;obtain ⟨i,A3,c3,zs,S3,rfl,rfl,hi,hd3,H⟩:=hJ
 refine ko (kQ (kR (sMi U (sMs U (sLn U tu22 (sLt U U (ln (kC U (fun hc8=>?_) (fun hc8=>?_)))))))))
 ·have hlt:i<l.length:=by simp at hc8;omega
  obtain ⟨g0,o0,rfl,-⟩:=hr.2 (by omega)
  obtain ⟨t,ht⟩:=get_lt hlt
  have hRt:=hel i t ht
  obtain ⟨Ai,ci,Bi,di,hL,-,-,hkt⟩:=tx_of hRt
  rw [hL] at hRt
  have hft:=hf t (List.mem_of_getElem? ht)
  refine kS (kQ (kb (kr (sMs U (sMs U (sMi U (sR (dG U (H.rd hr) U U (q:=i) U hlt tu22 ts34) (sR (dN (off:=0) U (H.rd hr) hlt hL (sa (a:=txC Ai t.ins.length ci Bi t.outs.length di t.lock) (m:=3) U) U U (by omega) ta34 ts34) (sf (ecl Tryz.func33 U U (copyTx _ (keeps_Tx _ _ _ _ _ hRt (fun g hg _=>H.fr.block g hg (fun h=>h))) hft) ?_))))))))))
  rintro _ W hs_
  obtain ⟨Sn5,An5,cn5,Bn5,dn5,rfl,H1_⟩:=NewTx.rep hs_ H hkt
  clear H hs_
  have H:=H1_
  clear H1_
  refine sf (ebs (xs:=[.tmp 16]) (vals:=[.agg (txC An5 t.ins.length cn5 Bn5 t.outs.length dn5 t.lock).toArray]) (vs:=(txC An5 t.ins.length cn5 Bn5 t.outs.length dn5 t.lock)) U U U U tu22 ts34 ty34 U (by simp [agg_cells,txC]) (by simp [agg_cells]) H ?_)
  clear H;intro g5_6 W H
  refine sf (eap tu22 tx34 U U U H (rd_blk (m:=1) H.blk U) (U) (by omega) U ?_)
  clear H;intro A7 c7 W hc7 hd7 H
  replace H:=H.drop
  refine sAs U (ln (kn (zE (kI U U U (by omega) U (kn (kY ?_))))))
  replace H:=(St.elsnoc (H.perm (.cons _ (.swap _ _ _))) rfl).perm (.swap _ _ _)
  refine ⟨_,_,_,?_,U,?_,?_,⟨i+1,A7,c7,_,_,U,U,by omega,⟨hc7,hd7⟩,(by rw [take_get ht];exact H)⟩⟩
  ·omega
  ·with_reducible repeat first|exact .refl|refine .f ?_ ?_ ?_;kernel_rfl;kernel_rfl|refine .u ?_ ?_;kernel_rfl
  ·refine ⟨?_,?_,trivial⟩
   ·exact vi (by omega)
   ·exact U
 ·obtain rfl:i=l.length:=by simp at hc8;omega
  rw [List.take_length] at H
  refine ke (xt (xt ?_))
  refine xH (kR (sMs U (sAs U (ln (kx ?_)))))
  exact qr (v:=.slice _ _ _) U U ⟨_,U,A3,c3,zs,S3,U,hd3,H⟩

theorem copyTxs {S:Nat->Prop} {A:Option Addr} {c:Nat} {l:List DTx} (w:World) (hl:RL 3 RTx w S [.slice A l.length c] l) (hn:l.length<=1000000) (hf:∀t∈l,Tx.Fits t):Calls Tryz.prog 7 [.slice A l.length c].toArray w (Ret (fun v' w'=>∃S3 A3 c3,v'=.slice A3 l.length c3∧St nT w w' [Fact.rep (RL 3 RTx) S3 [.slice A3 l.length c3] l])):=Calls.mono (copyTxsR w hl hn hf) (fun e w' h=>by
 obtain ⟨v,rfl,A3,c3,zs,S3,rfl,_,h⟩:=h
 exact ⟨_,U,_,A3,c3,U,h.tolist⟩)

theorem copyBlock {S:Nat->Prop} {A:Option Addr} {c:Nat} {b:DBlock} (w:World) (hl:RL 3 RTx w S [.slice A b.txs.length c] b.txs) (hh:Bk.OkH b.header) (hn:b.txs.length<=1000000) (hf:∀t∈b.txs,Tx.Fits t):Calls Tryz.prog 16 [.agg (bC b.header A b.txs.length c).toArray].toArray w (Ret (fun v' w'=>∃S3 A3 c3,v'=.agg (bC b.header A3 b.txs.length c3).toArray∧St nT w w' [Fact.rep (RL 3 RTx) S3 [.slice A3 b.txs.length c3] b.txs])):=by
 refine kE (l:=[_]) Tryz.func16 U U ?_
 have H:=St.start nT w
 refine kR (sf (ebx (vs:=(bC b.header A b.txs.length c)) U U H ?_))
 clear H;intro gb W H
 refine sf (eal (bC zHd none 0 0) tz28 H ?_)
 clear H;intro go W H
 refine ln (kQ (k_draw [(0,true),(1,true),(2,true),(3,true),(4,false),(5,true),(6,false)] [Fact.blk gb (bC b.header A b.txs.length c) 28] (by kernel_rfl) (by kernel_rfl) H (by repeat (first|exact .refl _|exact List.nil_sublist _|refine .cons_cons _ ?_|refine .cons _ ?_)) ?_))
 clear H;intro W H
 refine cFa U U tf28_0 (cR U (fun W H=>dM (g:=gb) (off:=0) U H (sub_b_hdr hh) (len_hdr hh) U U U ta26 ts26) (cFa U U tf28_1 (cR U (fun W H=>dX (g:=gb) (off:=65) U H (sub_b_txs hh) U U ta22) (cf U (ecl Tryz.func7 U U (copyTxs _ (keeps_L keeps_Tx _ _ _ _ _ hl (fun g hg _=>H.fr.block g hg (fun h=>h))) hn hf) ?_)))))
 rintro _ W ⟨S3,A3,c3,rfl,hn3⟩
 replace H:=H.add1 hn3
 clear hn3
 refine ⟨H.sb,?_⟩
 refine cR U (fun W H=>dB (vs:=bC b.header A3 b.txs.length c3) U (built_fields (places:=[(0,65),(65,1)]) tz28 (by kernel_rfl) (by kernel_rfl) (fN (vs:=hdrC b.header) (.agg (hdrC b.header).toArray) U U U (len_hdr hh) (Nat.le_of_ble_eq_true U) (fN (vs:=[.slice A3 b.txs.length c3]) (.slice A3 b.txs.length c3) U (by first|(simp [(len_hdr hh)];done)|(simp [(len_hdr hh)];omega)) U U (Nat.le_of_ble_eq_true U) (fill_end (by rw [List.drop_drop,List.drop_of_length_le (by rw [lB zHd_ok];exact Nat.le_refl _)];simp [bC])))))) ?_
 refine cf U (esk (bC b.header A3 b.txs.length c3) U U U ts28 (lB hh) blk_one H (by rw [lB zHd_ok];decide) (spl_all ((lB hh).trans (lB zHd_ok).symm)) ?_)
 clear H;intro W H
 refine ⟨H.sb,?_⟩
 refine c_nil (kx ?_)
 refine q_retc U (c:=bC b.header A3 b.txs.length c3) (g:=go) H U ta28 (by rw [lB hh];exact ts28) ⟨_,U,S3,A3,c3,U,?_⟩
 exact H.sub (L':=[_]) (by repeat (first|exact .refl _|exact List.nil_sublist _|refine .cons_cons _ ?_|refine .cons _ ?_))

theorem putBR {S:Nat->Prop} {A:Option Addr} {c:Nat} {b:DBlock} (w:World) (hl:RL 3 RTx w S [.slice A b.txs.length c] b.txs) (hh:Bk.OkH b.header):Calls Tryz.prog 17 [.agg (bC b.header A b.txs.length c).toArray].toArray w (Ret (fun v' w'=>∃x,v'=.tuple #[x,.int .i64 (Bk.put BTG b).2]∧NewB 5 w (Bk.put BTG b).1 x w')):=by
 have hl0:=hl
 obtain ⟨A_,c_,xs,hv_,_,_,hr,hel⟩:=hl0
 cases hv_
 have htx:=rl_txs hl
 refine kE (l:=[_]) Tryz.func17 U U ?_
 have H:=St.start nT w
 have hlh:=len_encH hh
 refine kR (sf (ebx (vs:=(bC b.header A b.txs.length c)) U U H ?_))
 clear H;intro gb W H
 refine sAs U (sAi U (lkR (sR (dM (g:=gb) (off:=0) U H (sa (lB hh)) (lB hh) U U U ta28 ts28) (sf (eI Tryz.func44 U U (checkBR _ (keeps_L keeps_Tx _ _ _ _ _ hl (fun g hg _=>H.fr.block g hg (fun h=>h))) hh) H ?_)))))
 clear H;intro W H
 refine sAi U (ln (kQ (kR (sMi U (sNe U U (ln (kC U (fun hc12=>?_) (fun hc12=>?_))))))))
 ·have hne:Bk.chk BTG b≠0:=by simpa using hc12
  rw [put_bad hne]
  refine kR (sMi U (sAs U (sAi U (ln (kx ?_)))))
  replace H:=H.nilrow 5 1
  exact q_ret2 (v:=.slice _ _ _) (x:=.int _ _) U U U ⟨_,U,_,U,H.newB (l:=[]) U U (Nat.le_refl _) (by omega)⟩
 ·have hne:Bk.chk BTG b=0:=by simpa using hc12
  rw [put_ok hne]
  obtain ⟨-,hn16,hcs,-,-⟩:=Bk.chk_of hne
  refine kS (kQ (k_draw [(0,true),(1,true),(3,true),(4,true),(5,true),(2,false),(6,false),(7,true)] [Fact.blk gb (bC b.header A b.txs.length c) 28] (by kernel_rfl) (by kernel_rfl) H (.refl _) ?_))
  clear H;intro W H
  refine cFa U U tf28_0 (cR U (fun W H=>dM (g:=gb) (off:=0) U H (sub_b_hdr hh) (len_hdr hh) U U U ta26 ts26) (cFa U U tf28_1 (cR U (fun W H=>dX (g:=gb) (off:=65) U H (sub_b_txs hh) U U ta22) (cR U (fun W H=>d_len U U tu22) (cf U (eN Tryz.func46 U U (headR _ hh) H ?_))))))
  clear H;intro A1 c1 W hc1 hd1 H
  refine ⟨H.sb,?_⟩
  refine cf U (eN Tryz.func45 U U (refInt (b:=Bk.encH b.header) (b.txs.length:Int) _ (H.rowbs (A:=A1) U) (by omega) (by omega)) H ?_)
  clear H;intro A2 c2 W hc2 hd2 H
  have e0:Bk.encH b.header++Pk.int (Pk.toU (b.txs.length:Int))=(Bk.encH b.header++Pk.int b.txs.length++((b.txs.take 0).map Bk.encT).flatten):=by rw [toU_cast' (by omega)];simp
  rw [e0] at hc2 H
  refine ⟨H.sb,?_⟩
  refine cAs U U (c_nil (kQ (kR (sAi U (ln (kb (kL 21 [5,6,7,8] (fun mm sl W=>∃i:Nat,∃A2:Option Addr,∃d2:Nat,b.txs.length - i=mm∧sl=[(6,.int .i64 (i:Int)),(5,.slice A2 (Bk.encH b.header++Pk.int b.txs.length++((b.txs.take i).map Bk.encT).flatten).length d2)]∧(i<=b.txs.length)∧((Bk.encH b.header++Pk.int b.txs.length++((b.txs.take i).map Bk.encT).flatten).length<=d2∧d2<=9223372036854775807)∧St nT w W [Fact.row 5 1 (.slice A2 (Bk.encH b.header++Pk.int b.txs.length++((b.txs.take i).map Bk.encT).flatten).length d2) (Bk.encH b.header++Pk.int b.txs.length++((b.txs.take i).map Bk.encT).flatten).length ((Bk.encH b.header++Pk.int b.txs.length++((b.txs.take i).map Bk.encT).flatten).map u8v),Fact.blk gb (bC b.header A b.txs.length c) 28]) _ _ ⟨0,A2,c2,U,U,Nat.zero_le _,⟨hc2,hd2⟩,H.sub (L':=[_,_]) (by repeat (first|exact .refl _|exact List.nil_sublist _|refine .cons_cons _ ?_|refine .cons _ ?_))⟩ ⟨U,sl_eq (by rw [←e0]),trivial⟩ (fun mm sl ρv W hJ=>?_))))))))
  clear H;obtain ⟨i,A2,d2,rfl,rfl,hi,hd,H⟩:=hJ
  refine ko (kQ (kR (sMi U (sFa U tf28_1 (sR (dX (g:=gb) (off:=65) U H (sub_b_txs hh) U U ta22) (sLn U tu22 (sLt U U (ln (kC U (fun hc25=>?_) (fun hc25=>?_))))))))))
  ·have hlt:i<b.txs.length:=by simp at hc25;omega
   obtain ⟨g0,o0,rfl,-⟩:=hr.2 (by omega)
   obtain ⟨t,ht⟩:=get_lt hlt
   have hRt:=hel i t ht
   obtain ⟨Ai,ci,Bi,di,hL,-,-,-⟩:=tx_of hRt
   rw [hL] at hRt
   have htm:=List.mem_of_getElem? ht
   have hct:=hcs t htm
   have hlp:=Bk.len_put hct (htx t htm)
   have hpt:Tx.put t=Tx.putB t:=by unfold Tx.put;rw [if_pos hct]
   have hfl:=len_take_flat (f:=Bk.encT) (k:=16400) (fun y hy=>len_encT (hcs y hy) (htx y hy)) hi
   have hqi:=Pk.len_int b.txs.length
   have hA:(Bk.encH b.header++Pk.int b.txs.length++((b.txs.take i).map Bk.encT).flatten).length<=1000000:=by rw [List.length_append,List.length_append];omega
   refine kS (kQ (kb (kR (sFa U tf28_1 (sR (dX (g:=gb) (off:=65) U H (sub_b_txs hh) U U ta22) (sMi U (sR (dG U (H.rd hr) U U (q:=i) U hlt tu22 ts34) (sR (dN (off:=0) U (H.rd hr) hlt hL (sa (a:=txC Ai t.ins.length ci Bi t.outs.length di t.lock) (m:=3) U) U U (by omega) ta34 ts34) (sf (ecl Tryz.func47 U U (putTR _ (keeps_Tx _ _ _ _ _ hRt (fun g hg _=>H.fr.block g hg (fun h=>h)))) ?_))))))))))
   rintro _ W ⟨_,rfl,A6,c6,rfl,hc6,hd6,hn⟩
   replace H:=H.new hn
   clear hn
   rw [hpt] at hc6 H ⊢
   refine sMt U (sEx U U (sEx U U (sAs U (sAi U (ln (kr (sMs U (sMs U (sf (eN Tryz.func48 U U (refBlob (b:=(Bk.encH b.header++Pk.int b.txs.length++((b.txs.take i).map Bk.encT).flatten)) (p:=Tx.putB t) _ (H.rowbs (A:=A2) U) (by omega) (H.rowbs (A:=A6) U) (by omega)) H ?_))))))))))
   clear H;intro A7 c7 W hc7 hd7 H
   refine sAs U (ln (kn (zE (kI U U U (by omega) U (kn (kY ?_))))))
   have he:(Bk.encH b.header++Pk.int b.txs.length++((b.txs.take (i+1)).map Bk.encT).flatten)=(Bk.encH b.header++Pk.int b.txs.length++((b.txs.take i).map Bk.encT).flatten)++(Pk.int (Tx.putB t).length++Tx.putB t):=by rw [flat_at ht];simp only [List.append_assoc];rfl
   refine ⟨_,_,_,?_,U,?_,?_,⟨i+1,A7,c7,U,U,by omega,⟨by rw [he];exact hc7,hd7⟩,by rw [he];exact H.sub (L':=[_,_]) (by repeat (first|exact .refl _|exact List.nil_sublist _|refine .cons_cons _ ?_|refine .cons _ ?_))⟩⟩
   ·omega
   ·with_reducible repeat first|exact .refl|refine .f ?_ ?_ ?_;kernel_rfl;kernel_rfl|refine .u ?_ ?_;kernel_rfl
   ·refine ⟨?_,?_,trivial⟩
    ·exact vi (by omega)
    ·exact sl_eq (by rw [he])
  ·obtain rfl:i=b.txs.length:=by simp at hc25;omega
   refine ke (xt (xt ?_))
   refine xH (kQ ?_)
   have hE:(Bk.encH b.header++Pk.int b.txs.length++((b.txs.take b.txs.length).map Bk.encT).flatten)=Bk.putB b:=by rw [List.take_length,List.append_assoc];rfl
   rw [hE] at hd H ⊢
   refine kr (sMs U (sAs U (sAi U (ln (kx ?_)))))
   exact q_ret2 (v:=.slice _ _ _) (x:=.int _ _) U U U ⟨_,U,_,U,H.newB U U hd.1 hd.2⟩

theorem makeR {S:Nat->Prop} {A:Option Addr} {c:Nat} {l:List DTx} (w:World) (hl:RL 3 RTx w S [.slice A l.length c] l) (hn:l.length<=1000000) (hf:∀t∈l,Tx.Fits t) {p:List UInt8} (hp:p.length=32) {k:Int} (hk:I64 k):Calls Tryz.prog 26 [.agg (p.map u8v).toArray,.int .i64 k,.slice A l.length c].toArray w (Ret (fun v' w'=>∃S3 A3 c3,v'=.agg (bC (mkH p l k) A3 l.length c3).toArray∧St nT w w' [Fact.rep (RL 3 RTx) S3 [.slice A3 l.length c3] l])):=by
 have hh:Bk.OkH (mkH p l k):=mkH_ok hp hk
 have hpl:(p.map u8v).length=32:=by rw [List.length_map];exact hp
 have hrl:((rootB l).map u8v).length=32:=by rw [List.length_map];exact len_rootB l
 refine kE (l:=[_,_,_]) Tryz.func26 U U ?_
 have H:=St.start nT w
 refine kR (sf (ebx (vs:=(p.map u8v)) U U H ?_))
 clear H;intro gp W H
 refine sf (eal (bC zHd none 0 0) tz28 H ?_)
 clear H;intro go W H
 refine ln (kQ (k_draw [(0,true),(1,true),(3,true),(5,true),(2,false),(4,true),(6,false),(7,true),(8,false)] [Fact.blk gp (p.map u8v) 24] (by kernel_rfl) (by kernel_rfl) H (by repeat (first|exact .refl _|exact List.nil_sublist _|refine .cons_cons _ ?_|refine .cons _ ?_)) ?_))
 clear H;intro W H
 refine cR U (fun W H=>d_ldm0 (g:=gp) U H U ta24 ts24 hpl) (cMs U U (cMi U U (cMs U U (cf U (eI Tryz.func21 U U (rootR _ (keeps_L keeps_Tx _ _ _ _ _ hl (fun g hg _=>H.fr.block g hg (fun h=>h))) hn) H ?_)))))
 clear H;intro W H
 refine ⟨H.sb,?_⟩
 refine cR U (fun W H=>dB (vs:=hdrC (mkH p l k)) U (built_fields (places:=[(0,32),(32,32),(64,1)]) tz26 (by kernel_rfl) (by kernel_rfl) (fN (vs:=p.map u8v) (.agg (p.map u8v).toArray) U U U hpl (Nat.le_of_ble_eq_true U) (fN (vs:=(rootB l).map u8v) (.agg ((rootB l).map u8v).toArray) U (by first|(simp [hpl];done)|(simp [hpl];omega)) U hrl (Nat.le_of_ble_eq_true U) (fN (vs:=[.int .i64 k]) (.int .i64 k) U (by first|(simp [hpl,hrl];done)|(simp [hpl,hrl];omega)) U U (Nat.le_of_ble_eq_true U) (fill_end (by rw [List.drop_drop,List.drop_drop,List.drop_of_length_le (by rw [len_hdr zHd_ok];exact Nat.le_refl _)];simp [hdrC,mkH]))))))) ?_
 refine cf U (ecl Tryz.func7 U U (copyTxs _ (keeps_L keeps_Tx _ _ _ _ _ hl (fun g hg _=>H.fr.block g hg (fun h=>h))) hn hf) ?_)
 rintro _ W ⟨S3,A3,c3,rfl,hn3⟩
 replace H:=H.add1 hn3
 clear hn3
 refine ⟨H.sb,?_⟩
 refine cR U (fun W H=>dB (vs:=bC (mkH p l k) A3 l.length c3) U (built_fields (places:=[(0,65),(65,1)]) tz28 (by kernel_rfl) (by kernel_rfl) (fN (vs:=hdrC (mkH p l k)) (.agg (hdrC (mkH p l k)).toArray) U U U (len_hdr hh) (Nat.le_of_ble_eq_true U) (fN (vs:=[.slice A3 l.length c3]) (.slice A3 l.length c3) U (by first|(simp [(len_hdr hh)];done)|(simp [(len_hdr hh)];omega)) U U (Nat.le_of_ble_eq_true U) (fill_end (by rw [List.drop_drop,List.drop_of_length_le (by rw [lB zHd_ok];exact Nat.le_refl _)];simp [bC])))))) ?_
 refine cf U (esk (bC (mkH p l k) A3 l.length c3) U U U ts28 (lB hh) blk_one H (by rw [lB zHd_ok];decide) (spl_all ((lB hh).trans (lB zHd_ok).symm)) ?_)
 clear H;intro W H
 refine ⟨H.sb,?_⟩
 refine c_nil (kx ?_)
 refine q_retc U (c:=bC (mkH p l k) A3 l.length c3) (g:=go) H U ta28 (by rw [lB hh];exact ts28) ⟨_,U,S3,A3,c3,U,?_⟩
 exact H.sub (L':=[_]) (by repeat (first|exact .refl _|exact List.nil_sublist _|refine .cons_cons _ ?_|refine .cons _ ?_))

theorem bigL_z {l:List DTx} (h:bigL l=false):∀t∈l,Tx.FitZ t:=by
 unfold bigL at h
 rw [Bool.or_eq_false_iff] at h
 intro t ht
 have hb:Tx.big 20 2048 t=false:=by
  refine Bool.eq_false_iff.2 (fun e=>?_)
  have:=List.any_eq_true.2 ⟨t,ht,e⟩
  rw [h.2] at this
  cases this
 exact Tx.fitz (Tx.not_big hb (by decide))
theorem len_putAny (b:DBlock) (hb:Bk.Ok b):(Bk.put BTG b).1.length<=400000:=by
 by_cases h:Bk.chk BTG b=0
 ·rw [put_ok h];exact (len_putBk h hb).2
 ·rw [put_bad h];exact Nat.zero_le _

theorem blockPutsB {S:Nat->Prop} {A:Option Addr} {c:Nat} {b:DBlock} (w:World) (hl:RL 3 RTx w S [.slice A b.txs.length c] b.txs) (hh:Bk.OkH b.header) (hG:Gat w 0 formsC) (hB:Old.Gl w) (hz:∀t∈b.txs,Tx.Szd t):Calls Tryz.prog 4 [.agg (bC b.header A b.txs.length c).toArray].toArray w (Ret (Is w (.bool true))):=by
 have hok:Bk.Ok b:=⟨hh,rl_txs hl⟩
 have hpe:=put_err b
 have hpl:=len_putAny b hok
 have hm:Bk.OkH (mkH b.header.prev b.txs b.header.nonce):=mkH_ok hh.1 hh.2.2
 refine kE (l:=[_]) Tryz.func4 U U ?_
 have H:=St.start nT w
 refine kR (sf (ebx (vs:=(bC b.header A b.txs.length c)) U U H ?_))
 clear H;intro gb W H
 refine sAb U (ln (kQ (kR (sFa U tf28_1 (sR (dX (g:=gb) (off:=65) U H (sub_b_txs hh) U U ta22) (sf (eI Tryz.func15 U U (bigLP _ (keeps_L keeps_Tx _ _ _ _ _ hl (fun g hg _=>H.fr.block g hg (fun h=>h))) hz) H ?_)))))))
 clear H;intro W H
 refine ln (kC U (fun hc13=>?_) (fun hc13=>?_))
 ·skip
  refine kR (sf (eI Tryz.func14 U U (works09 _ (H.gat hG) (H.gl hB)) H ?_))
  clear H;intro W H
  refine sAb U (ln (kx ?_))
  exact qr (v:=.bool _) U U ⟨_,U,U,H.under⟩
 ·obtain ⟨hl20,hft⟩:=bigL_f (by exact hc13)
  have hfz:=bigL_z (by exact hc13)
  refine kS (kR (sR (dM (g:=gb) (off:=0) U H (sa (a:=bC b.header A b.txs.length c) (lB hh)) (lB hh) U U U ta28 ts28) (sf (ecl Tryz.func16 U U (copyBlock _ (keeps_L keeps_Tx _ _ _ _ _ hl (fun g hg _=>H.fr.block g hg (fun h=>h))) hh (by omega) hft) ?_))))
  rintro _ W ⟨S3,A3,c3,rfl,hn3⟩
  replace H:=H.add1 hn3
  clear hn3
  refine sf (eal (bC zHd none 0 0) tz28 H ?_)
  clear H;intro gx W H
  refine sf (esk (bC b.header A3 b.txs.length c3) U U U ts28 (lB hh) blk_one H (by rw [lB zHd_ok];decide) (spl_all ((lB hh).trans (lB zHd_ok).symm)) ?_)
  clear H;intro W H
  refine lkR (sR (dM (g:=gx) (off:=0) U H (sa (a:=bC b.header A3 b.txs.length c3) (lB hh)) (lB hh) U U U ta28 ts28) (sf (ecl Tryz.func12 U U (putBP _ (H.rep1 (R:=RL 3 RTx) (S:=S3) (cs:=[.slice A3 b.txs.length c3]) (a:=b.txs)) hh (H.gat hG) (H.gl hB)) ?_)))
  rintro _ W ⟨_,rfl,A1,c1,rfl,hc1,hd1,hn⟩
  replace H:=H.new hn
  clear hn
  refine sMt U (sEx U U (sEx U U (sAs U (sAi U (lkR (sR (dM (g:=gx) (off:=0) U H (sa (a:=bC b.header A3 b.txs.length c3) (lB hh)) (lB hh) U U U ta28 ts28) (sf (ecl Tryz.func12 U U (putBP _ (H.rep1 (R:=RL 3 RTx) (S:=S3) (cs:=[.slice A3 b.txs.length c3]) (a:=b.txs)) hh (H.gat hG) (H.gl hB)) ?_))))))))
  rintro _ W ⟨_,rfl,A2,c2,rfl,hc2,hd2,hn⟩
  replace H:=H.new hn
  clear hn
  refine sMt U (sEx U U (sEx U U (sAs U (sAi U (lkR (sR (dM (g:=gb) (off:=0) U H (sa (a:=bC b.header A b.txs.length c) (lB hh)) (lB hh) U U U ta28 ts28) (sf (ecl Tryz.func17 U U (putBR _ (keeps_L keeps_Tx _ _ _ _ _ hl (fun g hg _=>H.fr.block g hg (fun h=>h))) hh) ?_))))))))
  rintro _ W ⟨_,rfl,A4,c4,rfl,hc4,hd4,hn⟩
  replace H:=H.new hn
  clear hn
  refine sMt U (sEx U U (sEx U U (sAs U (sAi U (ln (kQ (kQ (k_draw [(0,true),(2,true),(1,false),(3,true),(4,true),(5,true),(6,true),(7,true),(8,true),(9,true),(10,true),(11,true),(12,false),(13,true),(14,true),(15,true),(16,true),(17,true),(19,true),(20,true),(18,false),(21,false),(22,true),(23,true),(24,true),(25,true),(26,true),(28,true),(29,true),(27,false),(30,false),(31,true),(32,true)] _ (by kernel_rfl) (by kernel_rfl) H (.refl _) ?_))))))))
  clear H;intro W H
  refine cR U (fun W H=>dM (g:=gx) (off:=0) U H (sa (a:=bC b.header A3 b.txs.length c3) (lB hh)) (lB hh) U U U ta28 ts28) (cMi U U (cf U (eI Tryz.func18 U U (checkBP _ (H.rep1 (R:=RL 3 RTx) (S:=S3) (cs:=[.slice A3 b.txs.length c3]) (a:=b.txs)) hh (H.gat hG) (H.gl hB)) H ?_)))
  clear H;intro W H
  refine ⟨H.sb,?_⟩
  refine cR U (fun W H=>d_ne U U U) (cR U (fun W H=>mv_bx (c:=false) U U (by rw [hpe];simp)) ?_)
  refine c_run U (w_g U U U U) U (fun W H=>mv_i U U) (c_run U (w_g U U U U) U (fun W H=>mv_i U U) (c_run U (w_g U U U U) U (fun W H=>d_ne U U U) (cR U (fun W H=>d_pickF U U U) (cR U (fun W H=>mv_bx (c:=false) U U (by simp)) (c_run U (w_g U U U U) U (fun W H=>mv_s U U) (c_run U (w_g U U U U) U (fun W H=>mv_s U U) (cf U (e_call (w_g U U U U) U U Tryz.func19 U U U (sameBytes _ _ ((Bk.put BTG b).1) ((Bk.put BTG b).1) _ (H.rowbs (A:=A1) U) (H.rowbs (A:=A4) U)) ?_))))))))
  rintro _ W ⟨rfl,hb⟩
  replace H:=H.below hb
  clear hb
  refine ⟨H.sb,?_⟩
  refine c_run U (w_g U U U U) U (fun W H=>d_not U U) (cR U (fun W H=>d_pickF U U U) (cR U (fun W H=>mv_bx (c:=false) U U (by simp)) (c_run U (w_g U U U U) U (fun W H=>dF U U tf28_1) (c_run U (w_g U U U U) U (fun W H=>dX (g:=gx) (off:=65) U H (sub_b_txs hh) U U ta22) (c_run U (w_g U U U U) U (fun W H=>dF U U tf28_1) (c_run U (w_g U U U U) U (fun W H=>dX (g:=gb) (off:=65) U H (sub_b_txs hh) U U ta22) (cf U (e_call (w_g U U U U) U U Tryz.func20 U U U (rootP _ (H.rep1 (R:=RL 3 RTx) (S:=S3) (cs:=[.slice A3 b.txs.length c3]) (a:=b.txs)) (H.gat hG) (H.gl hB) (by omega)) ?_))))))))
  rintro _ W ⟨rfl,hb⟩
  replace H:=H.below hb
  clear hb
  refine ⟨H.sb,?_⟩
  refine cf U (e_call (w_g U U U U) U U Tryz.func21 U U U (rootR _ (keeps_L keeps_Tx _ _ _ _ _ hl (fun g hg _=>H.fr.block g hg (fun h=>h))) (by omega)) ?_)
  rintro _ W ⟨rfl,hb⟩
  replace H:=H.below hb
  clear hb
  refine ⟨H.sb,?_⟩
  refine c_run U (w_g U U U U) U (fun W H=>d_nearr U U U tu24 tu5 ts5 (len_rootB _) (len_rootB _) (by kernel_rfl)) ?_
  refine cR U (fun W H=>d_pickF U U U) (cR U (fun W H=>mv_bx (c:=false) U U (by simp)) (c_run U (w_g U U U U) U (fun W H=>dF U U tf28_0) (c_run U (w_g U U U U) U (fun W H=>dM (g:=gx) (off:=0) U H (sub_b_hdr hh) (len_hdr hh) U U U ta26 ts26) (c_run U (w_g U U U U) U (fun W H=>dF U U tf28_0) (c_run U (w_g U U U U) U (fun W H=>dM (g:=gb) (off:=0) U H (sub_b_hdr hh) (len_hdr hh) U U U ta26 ts26) (cf U (e_call (w_g U U U U) U U Tryz.func22 U U U (idHP _ (H.gat hG) (H.gl hB) hh) ?_)))))))
  rintro _ W ⟨rfl,hb⟩
  replace H:=H.below hb
  clear hb
  refine ⟨H.sb,?_⟩
  refine cf U (e_call (w_g U U U U) U U Tryz.func23 U U U (idHR _ hh) ?_)
  rintro _ W ⟨rfl,hb⟩
  replace H:=H.below hb
  clear hb
  refine ⟨H.sb,?_⟩
  refine c_run U (w_g U U U U) U (fun W H=>d_nearr U U U tu24 tu5 ts5 (Old.Bl.len_tagged _ _) (Old.Bl.len_tagged _ _) (by kernel_rfl)) ?_
  refine cR U (fun W H=>d_pickF U U U) (c_nil (kF U (by simp) (kS (kR (sMs U (sf (ecl Tryz.func24 U U (spoilAll _ (H.get (f:=Fact.row 5 1 (.slice A1 ((Bk.put BTG b).1).length c1) ((Bk.put BTG b).1).length (((Bk.put BTG b).1).map u8v))) (by omega)) ?_)))))))
  rintro _ W ⟨rfl,⟨ys1,hr_⟩,hf_⟩
  replace H:=H.mut (f:=Fact.row 5 1 (.slice A1 ((Bk.put BTG b).1).length c1) ((Bk.put BTG b).1).length (((Bk.put BTG b).1).map u8v)) (f':=Fact.row 5 1 (.slice A1 ((Bk.put BTG b).1).length c1) ((Bk.put BTG b).1).length ((ys1).map u8v)) hf_ hr_ (fun _ h=>h)
  clear hr_ hf_
  refine lkR (sFa U tf28_0 (sFa U tf26_0 (sR (dM (g:=gx) (off:=0) U H (sub_b_prev hh) (by rw [List.length_map];exact hh.1) U U U ta24 ts24) ?_)))
  refine sFa U tf28_0 (sFa U tf26_2 (sR (dX (g:=gx) (off:=64) U H (sub_b_nonce hh) U U ta3) (sFa U tf28_1 (sR (dX (g:=gx) (off:=65) U H (sub_b_txs hh) U U ta22) (sf (ecl Tryz.func6 U U (makeZ _ (H.rep1 (R:=RL 3 RTx) (S:=S3) (cs:=[.slice A3 b.txs.length c3]) (a:=b.txs)) (H.gat hG) (H.gl hB) hh.1 hh.2.2 (by omega) hfz) ?_))))))
  rintro _ W ⟨Sz,Az,cz,zl,rfl,hzt,hn_⟩
  replace H:=H.add1 hn_
  clear hn_
  have hzn:zl.length=b.txs.length:=by rw [←hzt,List.length_map]
  refine sf (eal (bC zHd none 0 0) tz28 H ?_)
  clear H;intro gm W H
  refine sf (esk (bC (mkH b.header.prev b.txs b.header.nonce) Az b.txs.length cz) U U U ts28 (lB hm) blk_one H (by rw [lB zHd_ok];decide) (spl_all ((lB hm).trans (lB zHd_ok).symm)) ?_)
  clear H;intro W H
  refine ln (kQ (kQ (k_draw [(0,true),(1,true),(2,true),(3,true),(4,true),(5,true),(6,true),(7,true),(8,true),(9,false),(10,false),(11,true)] _ (by kernel_rfl) (by kernel_rfl) H (.refl _) ?_)))
  clear H;intro W H
  refine cR U (fun W H=>dM (g:=gm) (off:=0) U H (sa (a:=bC (mkH b.header.prev b.txs b.header.nonce) Az b.txs.length cz) (lB hm)) (lB hm) U U U ta28 ts28) (cFa U U tf28_0 (cFa U U tf26_0 (cR U (fun W H=>dM (g:=gb) (off:=0) U H (sub_b_prev hh) (by rw [List.length_map];exact hh.1) U U U ta24 ts24) ?_)))
  refine cFa U U tf28_0 (cFa U U tf26_2 (cR U (fun W H=>dX (g:=gb) (off:=64) U H (sub_b_nonce hh) U U ta3) (cFa U U tf28_1 (cR U (fun W H=>dX (g:=gb) (off:=65) U H (sub_b_txs hh) U U ta22) (cf U (ecl Tryz.func26 U U (makeR _ (keeps_L keeps_Tx _ _ _ _ _ hl (fun g hg _=>H.fr.block g hg (fun h=>h))) (by omega) hft hh.1 hh.2.2) ?_))))))
  rintro _ W ⟨S5,A5,c5,rfl,hn3⟩
  replace H:=H.add1 hn3
  clear hn3
  refine ⟨H.sb,?_⟩
  refine cf U (eI Tryz.func25 U U (sameBlock (a:=⟨(mkH b.header.prev b.txs b.header.nonce),b.txs⟩) (b:=⟨(mkH b.header.prev b.txs b.header.nonce),b.txs⟩) _ (zb_rl (e:=34) (eI:=64) (eO:=66) (H.get (f:=Fact.zb 34 64 66 Sz Az b.txs.length cz zl)) hzn hzt) (H.rep1 (R:=RL 3 RTx) (S:=S5) (cs:=[.slice A5 b.txs.length c5]) (a:=b.txs)) hm hm) H ?_)
  clear H;intro W H
  refine ⟨H.sb,?_⟩
  refine cR U (fun W H=>d_not U U) (c_nil (kF U (by simp) (kS (kR (sR (dM (g:=gm) (off:=0) U H (sa (a:=bC (mkH b.header.prev b.txs b.header.nonce) Az b.txs.length cz) (lB hm)) (lB hm) U U U ta28 ts28) (sf (ecl Tryz.func27 U U (spoilBlock _ hm (H.get (f:=Fact.zb 34 64 66 Sz Az b.txs.length cz zl)) (lt_ofB (f:=Fact.zb 34 64 66 Sz Az b.txs.length cz zl) H) hzn.symm (by omega)) ?_)))))))
  rintro _ W ⟨rfl,hf_⟩
  replace H:=H.mut (f:=Fact.zb 34 64 66 Sz Az b.txs.length cz zl) (f':=Fact.gone) hf_ trivial (fun _ h=>h.elim)
  clear hf_
  refine lkR (sMs U (sMs U (sf (eI Tryz.func19 U U (sameBytes _ _ ((Bk.put BTG b).1) ((Bk.put BTG b).1) _ (H.rowbs (A:=A2) U) (H.rowbs (A:=A4) U)) H ?_))))
  clear H;intro W H
  refine sBt U (by simp) (sr (w_g U U U U) U (dM (g:=gx) (off:=0) U H (sa (a:=bC b.header A3 b.txs.length c3) (lB hh)) (lB hh) U U U ta28 ts28) (sr (w_g U U U U) U (dM (g:=gb) (off:=0) U H (sa (a:=bC b.header A b.txs.length c) (lB hh)) (lB hh) U U U ta28 ts28) (sf (e_call (w_g U U U U) U U Tryz.func25 U U U (sameBlock (a:=b) (b:=b) _ (H.rep1 (R:=RL 3 RTx) (S:=S3) (cs:=[.slice A3 b.txs.length c3]) (a:=b.txs)) (keeps_L keeps_Tx _ _ _ _ _ hl (fun g hg _=>H.fr.block g hg (fun h=>h))) hh hh) ?_))))
  rintro _ W ⟨rfl,hb⟩
  replace H:=H.below hb
  clear hb
  refine sPT U U (sBt U (by simp) (sf (e_call (w_g U U U U) U U Tryz.func14 U U U (works09 _ (H.gat hG) (H.gl hB)) ?_)))
  rintro _ W ⟨rfl,hb⟩
  replace H:=H.below hb
  clear hb
  refine sPT U U (sAb U (ln (kx ?_)))
  exact qr (v:=.bool _) U U ⟨_,U,U,H.under⟩
end Go.Proofs.YtfhhfhdnhadooaaGreatDoor
