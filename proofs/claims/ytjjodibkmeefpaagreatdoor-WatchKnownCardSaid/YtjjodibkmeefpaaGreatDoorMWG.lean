import Derived.Test.YtjjodibkmeefpaaGreatDoorMWF
import Derived.Test.YtjjodibkmeefpaaGreatDoorMWA
set_option linter.unusedVariables false
set_option linter.unusedSimpArgs false
set_option maxHeartbeats 4000000

namespace Go.Proofs.YtjjodibkmeefpaaGreatDoor
open Go Go.RowKit
attribute [local irreducible] wpList

theorem copyTxsR {S:Nat->Prop} {A:Option Addr} {c:Nat} {l:List DTx} (w:World) (hl:RL 3 RTx w S [.slice A l.length c] l) (hn:l.length<=1000000) (hf:∀t∈l,Tx.Fits t):Calls Tryz.prog 51 [.slice A l.length c].toArray w (Ret (fun v' w'=>∃A3 c3 zs S3,v'=.slice A3 l.length c3∧(l.length<=c3∧c3<=9223372036854775807)∧St nT w w' [Fact.row 47 3 (.slice A3 l.length c3) l.length zs,Fact.els RTx 3 S3 zs l])):=by
 have hl0:=hl
 obtain ⟨A_,c_,xs,hv_,_,_,hr,hel⟩:=hl0
 cases hv_
 refine kE (l:=[_]) Tryz.func51 U U ?_
 have H:=St.start nT w
 refine kR (sAs U (lkR (sAs U (ln (kQ (kR (sAi U (ln (kb (kL 3 [] (fun mm sl W=>∃i:Nat,∃A3:Option Addr,∃c3:Nat,∃zs:List Value,∃S3:Nat->Prop,l.length - i=mm∧sl=[(4,.int .i64 (i:Int)),(3,.slice A3 i c3)]∧(i<=l.length)∧(i<=c3∧c3<=9223372036854775807)∧St nT w W [Fact.row 47 3 (.slice A3 i c3) i zs,Fact.els RTx 3 S3 zs (l.take i)]) _ _ ⟨0,none,0,[],(fun _=>False),U,U,Nat.zero_le _,⟨Nat.le_refl _,by omega⟩,((H.els0 RTx 3).nilrow 47 3)⟩ ⟨U,U,trivial⟩ (fun mm sl ρv W hJ=>?_)))))))))))
 clear H;obtain ⟨i,A3,c3,zs,S3,rfl,rfl,hi,hd3,H⟩:=hJ
 refine ko (kQ (kR (sMi U (sMs U (sLn U tu74 (sLt U U (ln (kC U (fun hc8=>?_) (fun hc8=>?_)))))))))
 ·have hlt:i<l.length:=by simp at hc8;omega
  obtain ⟨g0,o0,rfl,-⟩:=hr.2 (by omega)
  obtain ⟨t,ht⟩:=get_lt hlt
  have hRt:=hel i t ht
  obtain ⟨Ai,ci,Bi,di,hL,-,-,hkt⟩:=tx_of hRt
  rw [hL] at hRt
  have hft:=hf t (List.mem_of_getElem? ht)
  refine kS (kQ (kb (kr (sMs U (sMs U (sMi U (sR (dG U (H.rd hr) U U (q:=i) U hlt tu74 ts47) (sR (dN (off:=0) U (H.rd hr) hlt hL (sa (a:=txC Ai t.ins.length ci Bi t.outs.length di t.lock) (m:=3) U) U U (by omega) ta47 ts47) (sf (ecl Tryz.func40 U U (copyTx _ (keeps_Tx _ _ _ _ _ hRt (fun g hg _=>H.fr.block g hg (fun h=>h))) hft) ?_))))))))))
  rintro _ W hs_
  obtain ⟨Sn5,An5,cn5,Bn5,dn5,rfl,H1_⟩:=NewTx.rep hs_ H hkt
  clear H hs_
  have H:=H1_
  clear H1_
  refine sf (ebs (xs:=[.tmp 16]) (vals:=[.agg (txC An5 t.ins.length cn5 Bn5 t.outs.length dn5 t.lock).toArray]) (vs:=(txC An5 t.ins.length cn5 Bn5 t.outs.length dn5 t.lock)) U U U U tu74 ts47 ty47 U (by simp [agg_cells,txC]) (by simp [agg_cells]) H ?_)
  clear H;intro g5_6 W H
  refine sf (eap tu74 tx47 U U U H (rd_blk (m:=1) H.blk U) (U) (by omega) U ?_)
  clear H;intro A7 c7 W hc7 hd7 H
  replace H:=H.drop
  refine sAs U (ln (kn (zE (kI U U U (by omega) U (kn (kY ?_))))))
  replace H:=(St.elsnoc (H.perm (.cons _ (.swap _ _ _))) rfl).perm (.swap _ _ _)
  refine ⟨_,_,_,?_,U,?_,?_,⟨i+1,A7,c7,_,_,U,U,by omega,⟨hc7,hd7⟩,(by rw [take_get ht];exact H)⟩⟩
  ·omega
  ·with_reducible repeat first|exact .refl|refine .f ?_ ?_ ?_;kernel_rfl;kernel_rfl|refine .u ?_ ?_;kernel_rfl
  ·refine ⟨?_,?_,trivial⟩
   ·exact vi (by omega)
   ·exact U
 ·obtain rfl:i=l.length:=by simp at hc8;omega
  rw [List.take_length] at H
  refine ke (xQ (xQ ?_))
  refine xH (kR (sMs U (sAs U (ln (kx ?_)))))
  exact qr (v:=.slice _ _ _) U U ⟨_,U,A3,c3,zs,S3,U,hd3,H⟩

theorem copyTxs {S:Nat->Prop} {A:Option Addr} {c:Nat} {l:List DTx} (w:World) (hl:RL 3 RTx w S [.slice A l.length c] l) (hn:l.length<=1000000) (hf:∀t∈l,Tx.Fits t):Calls Tryz.prog 51 [.slice A l.length c].toArray w (Ret (fun v' w'=>∃S3 A3 c3,v'=.slice A3 l.length c3∧St nT w w' [Fact.rep (RL 3 RTx) S3 [.slice A3 l.length c3] l])):=Calls.mono (copyTxsR w hl hn hf) (fun e w' h=>by
 obtain ⟨v,rfl,A3,c3,zs,S3,rfl,_,h⟩:=h
 exact ⟨_,U,_,A3,c3,U,h.tolist⟩)

theorem copyBlock {S:Nat->Prop} {A:Option Addr} {c:Nat} {b:DBlock} (w:World) (hl:RL 3 RTx w S [.slice A b.txs.length c] b.txs) (hh:Bk.OkH b.header) (hn:b.txs.length<=1000000) (hf:∀t∈b.txs,Tx.Fits t):Calls Tryz.prog 30 [.agg (bC b.header A b.txs.length c).toArray].toArray w (Ret (fun v' w'=>∃S3 A3 c3,v'=.agg (bC b.header A3 b.txs.length c3).toArray∧St nT w w' [Fact.rep (RL 3 RTx) S3 [.slice A3 b.txs.length c3] b.txs])):=by
 refine kE (l:=[_]) Tryz.func30 U U ?_
 have H:=St.start nT w
 refine kR (sf (ebx (vs:=(bC b.header A b.txs.length c)) U U H ?_))
 clear H;intro gb W H
 refine sf (eal (bC zHd none 0 0) tz76 H ?_)
 clear H;intro go W H
 refine ln (kQ (k_draw [(0,true),(1,true),(2,true),(3,true),(4,false),(5,true),(6,false)] [Fact.blk gb (bC b.header A b.txs.length c) 76] (by kernel_rfl) (by kernel_rfl) H (by repeat (first|exact .refl _|exact List.nil_sublist _|refine .cons_cons _ ?_|refine .cons _ ?_)) ?_))
 clear H;intro W H
 refine cFa U U tf76_0 (cR U (fun W H=>dM (g:=gb) (off:=0) U H (sub_b_hdr hh) (len_hdr hh) U U U ta73 ts73) (cFa U U tf76_1 (cR U (fun W H=>dX (g:=gb) (off:=65) U H (sub_b_txs hh) U U ta74) (cf U (ecl Tryz.func51 U U (copyTxs _ (keeps_L keeps_Tx _ _ _ _ _ hl (fun g hg _=>H.fr.block g hg (fun h=>h))) hn hf) ?_)))))
 rintro _ W ⟨S3,A3,c3,rfl,hn3⟩
 replace H:=H.add1 hn3
 clear hn3
 refine ⟨H.sb,?_⟩
 refine cR U (fun W H=>dB (vs:=bC b.header A3 b.txs.length c3) U (built_fields (places:=[(0,65),(65,1)]) tz76 (by kernel_rfl) (by kernel_rfl) (fN (vs:=hdrC b.header) (.agg (hdrC b.header).toArray) U U U (len_hdr hh) (Nat.le_of_ble_eq_true U) (fN (vs:=[.slice A3 b.txs.length c3]) (.slice A3 b.txs.length c3) U (by first|(simp [(len_hdr hh)];done)|(simp [(len_hdr hh)];omega)) U U (Nat.le_of_ble_eq_true U) (fill_end (by rw [List.drop_drop,List.drop_of_length_le (by rw [lB zHd_ok];exact Nat.le_refl _)];simp [bC])))))) ?_
 refine cf U (esk (bC b.header A3 b.txs.length c3) U U U ts76 (lB hh) blk_one H (by rw [lB zHd_ok];decide) (spl_all ((lB hh).trans (lB zHd_ok).symm)) ?_)
 clear H;intro W H
 refine ⟨H.sb,?_⟩
 refine c_nil (kx ?_)
 refine q_retc U (c:=bC b.header A3 b.txs.length c3) (g:=go) H U ta76 (by rw [lB hh];exact ts76) ⟨_,U,S3,A3,c3,U,?_⟩
 exact H.sub (L':=[_]) (by repeat (first|exact .refl _|exact List.nil_sublist _|refine .cons_cons _ ?_|refine .cons _ ?_))

theorem copyBlocks {S:Nat->Prop} {A:Option Addr} {c:Nat} {l:List DBlock} (w:World) (hl:RL 66 RBlock w S [.slice A l.length c] l) (hn:l.length<=1000000) (hf:∀b∈l,b.txs.length<=1000000∧∀t∈b.txs,Tx.Fits t):Calls Tryz.prog 7 [.slice A l.length c].toArray w (Ret (fun v' w'=>∃A3 c3 zs S3,v'=.slice A3 l.length c3∧(l.length<=c3∧c3<=9223372036854775807)∧St nT w w' [Fact.row 76 66 (.slice A3 l.length c3) l.length zs,Fact.els RBlock 66 S3 zs l])):=by
 have hl0:=hl
 obtain ⟨A_,c_,xs,hv_,_,_,hr,hel⟩:=hl0
 cases hv_
 refine kE (l:=[_]) Tryz.func7 U U ?_
 have H:=St.start nT w
 refine kR (sAs U (lkR (sAs U (ln (kQ (kR (sAi U (ln (kb (kL 3 [] (fun mm sl W=>∃i:Nat,∃A3:Option Addr,∃c3:Nat,∃zs:List Value,∃S3:Nat->Prop,l.length - i=mm∧sl=[(4,.int .i64 (i:Int)),(3,.slice A3 i c3)]∧(i<=l.length)∧(i<=c3∧c3<=9223372036854775807)∧St nT w W [Fact.row 76 66 (.slice A3 i c3) i zs,Fact.els RBlock 66 S3 zs (l.take i)]) _ _ ⟨0,none,0,[],(fun _=>False),U,U,Nat.zero_le _,⟨Nat.le_refl _,by omega⟩,((H.els0 RBlock 66).nilrow 76 66)⟩ ⟨U,U,trivial⟩ (fun mm sl ρv W hJ=>?_)))))))))))
 clear H;obtain ⟨i,A3,c3,zs,S3,rfl,rfl,hi,hd3,H⟩:=hJ
 refine ko (kQ (kR (sMi U (sMs U (sLn U tu22 (sLt U U (ln (kC U (fun hc8=>?_) (fun hc8=>?_)))))))))
 ·have hlt:i<l.length:=by simp at hc8;omega
  obtain ⟨g0,o0,rfl,-⟩:=hr.2 (by omega)
  obtain ⟨b,hib⟩:=get_lt hlt
  obtain ⟨Ab,cb,hLb,hTx,hh⟩:=blk_of (hel i b hib)
  obtain ⟨hfn,hft⟩:=hf b (List.mem_of_getElem? hib)
  refine kS (kQ (kb (kr (sMs U (sMs U (sMi U (sR (dG U (H.rd hr) U U (q:=i) U hlt tu22 ts76) (sR (dN (off:=0) U (H.rd hr) hlt hLb (sa (lB hh)) U U (by omega) ta76 ts76) (sf (ecl Tryz.func30 U U (copyBlock _ (keeps_L keeps_Tx _ _ _ _ _ hTx (fun g hg _=>H.fr.block g hg (fun h=>h))) hh hfn hft) ?_))))))))))
  rintro _ W ⟨S5,A5,c5,rfl,hn3⟩
  replace H:=H.add1 hn3
  clear hn3
  refine sf (ebs (xs:=[.tmp 16]) (vals:=[.agg (bC b.header A5 b.txs.length c5).toArray]) (vs:=(bC b.header A5 b.txs.length c5)) U U U U tu22 ts76 ty76 U (by simp [agg_cells,lB hh]) (by simp [agg_cells]) H ?_)
  clear H;intro g5_6 W H
  refine sf (eap tu22 tx76 U U U H (rd_blk (m:=1) H.blk (lB hh)) (blk_one) (by omega) U ?_)
  clear H;intro A7 c7 W hc7 hd7 H
  replace H:=H.drop
  refine sAs U (ln (kn (zE (kI U U U (by omega) U (kn (kY ?_))))))
  replace H:=H.rerep (R':=RBlock) (cs':=bC b.header A5 b.txs.length c5) (b:=b) (fun h=>blk_rep hh h)
  replace H:=(St.elsnoc (H.perm (.cons _ (.swap _ _ _))) (lB hh)).perm (.swap _ _ _)
  refine ⟨_,_,_,?_,U,?_,?_,⟨i+1,A7,c7,_,_,U,U,by omega,⟨hc7,hd7⟩,(by rw [take_get hib];exact H)⟩⟩
  ·omega
  ·with_reducible repeat first|exact .refl|refine .f ?_ ?_ ?_;kernel_rfl;kernel_rfl|refine .u ?_ ?_;kernel_rfl
  ·refine ⟨?_,?_,trivial⟩
   ·exact vi (by omega)
   ·exact U
 ·obtain rfl:i=l.length:=by simp at hc8;omega
  rw [List.take_length] at H
  refine ke (xQ (xQ ?_))
  refine xH (kR (sMs U (sAs U (ln (kx ?_)))))
  exact qr (v:=.slice _ _ _) U U ⟨_,U,A3,c3,zs,S3,U,hd3,H⟩
end Go.Proofs.YtjjodibkmeefpaaGreatDoor

namespace Go.Proofs.YtjjodibkmeefpaaGreatDoor
open Go Go.RowKit

namespace Wt
variable {ID:DTx->List UInt8} {SUM:List UInt8->List UInt8} {p r:List DBlock} {s h id:List UInt8} {pt:DPoint}
theorem found_grow:found ID (p++r) s=(found ID p s).map (deeper r.length)++foundN ID s (p.length+r.length) r p.length:=by
 unfold found
 rw [List.length_append,foundN_app,foundN_deep,Nat.zero_add]
theorem grow_len:(found ID p s).length<=(found ID (p++r) s).length:=by rw [found_grow,List.length_append,List.length_map];omega
theorem grow_lt {i:Nat} {ha hb:WHit} (h1:(found ID p s)[i]?=some ha) (h2:(found ID (p++r) s)[i]?=some hb):hb=deeper r.length ha:=by
 have hi:=(List.getElem?_eq_some_iff.1 h1).1
 rw [found_grow,List.getElem?_append_left (by rw [List.length_map];exact hi),List.getElem?_map,h1] at h2
 exact (Option.some.inj h2).symm
theorem grow_ge {i:Nat} {hb:WHit} (hi:(found ID p s).length<=i) (h2:(found ID (p++r) s)[i]?=some hb):hb.depth<=(r.length:Int):=by
 rw [found_grow,List.getElem?_append_right (by rw [List.length_map];exact hi)] at h2
 obtain ⟨_,j,_,h3,_⟩:=foundN_of (List.mem_of_getElem? h2)
 rw [h3];omega
theorem hit_is {i:Nat} {hb:WHit} (h2:(found ID p s)[i]?=some hb):hb.out.script=s∧1<=hb.depth∧hb.depth<=(p.length:Int)∧hb.depth<=depth ID p hb.point.tx:=by
 obtain ⟨h1,j,hj,h3,b,hb1,hb2⟩:=foundN_of (List.mem_of_getElem? h2)
 refine ⟨h1,by rw [h3];omega,by rw [h3];omega,?_⟩
 rw [h3]
 exact depthN_ge hb1 hb2
theorem spent_some {t:DTx} {n:Nat} {d:Int} (h:spent p pt=some (t,n,d)):spent (p++r) pt=some (t,n,d+r.length):=by
 unfold spent at h ⊢
 rw [List.length_append,spentN_app,spentN_deep,h]
 rfl
theorem spent_none {x:DTx × Nat × Int} (h:spent p pt=none) (hx:spent (p++r) pt=some x):x.2.2<=(r.length:Int):=by
 unfold spent at h hx
 rw [List.length_append,spentN_app,spentN_deep,h] at hx
 have:=(spentN_le (i:=0+p.length) (by exact hx)).1
 omega
theorem secret_some {x:DTx × Nat × Int} (k:spent p pt=some x):secret SUM (p++r) pt h=secret SUM p pt h:=by
 obtain ⟨t,n,d⟩:=x
 unfold secret
 rw [spent_some k,k];rfl
theorem secret_none (k:spent p pt=none):secret SUM p pt h=none:=by
 unfold secret
 rw [k];rfl
theorem secret_is {d:List UInt8} (k:secret SUM p pt h=some d):d.length=32∧SUM d=h:=by
 unfold secret secretS at k
 cases e:spent p pt with
 | none=>rw [e] at k;cases k
 | some x =>
  rw [e] at k
  dsimp only at k
  cases e2:x.1.ins[x.2.1]? with
  | none=>rw [e2] at k;cases k
  | some y=>rw [e2] at k;exact secretW_of k
theorem secret_cases:(∃d,secret SUM p pt h=some d∧secret SUM (p++r) pt h=some d∧SUM d=h∧(spent p pt).isSome=true)∨(secret SUM p pt h=none∧secret SUM (p++r) pt h=none∧(spent p pt).isSome=true)∨(∃d,secret SUM p pt h=none∧secret SUM (p++r) pt h=some d∧SUM d=h∧(spent p pt).isSome=false)∨(secret SUM p pt h=none∧secret SUM (p++r) pt h=none∧(spent p pt).isSome=false):=by
 cases h1:spent p pt with
 | some x =>
  have e:=secret_some (SUM:=SUM) (h:=h) (r:=r) h1
  cases h2:secret SUM p pt h with
  | some d=>exact .inl ⟨d,rfl,by rw [e,h2],(secret_is h2).2,rfl⟩
  | none=>exact .inr (.inl ⟨rfl,by rw [e,h2],rfl⟩)
 | none =>
  have e:=secret_none (SUM:=SUM) (h:=h) h1
  cases h2:secret SUM (p++r) pt h with
  | some d=>exact .inr (.inr (.inl ⟨d,e,rfl,(secret_is h2).2,rfl⟩))
  | none=>exact .inr (.inr (.inr ⟨e,rfl,rfl⟩))
theorem spent_deep {x:DTx × Nat × Int} (k:spent p pt=some x):0<x.2.2∧x.2.2<=(p.length:Int):=by
 have:=spentN_le (show spentN pt p.length p 0=some x from k)
 omega
theorem depth_le:0<=depth ID p id∧depth ID p id<=(p.length:Int):=by
 have:=depthN_le (ID:=ID) (id:=id) (N:=p.length) p 0 (by omega)
 unfold depth
 omega
theorem depth_none (k:depth ID p id=0):depth ID (p++r) id<=(r.length:Int):=by
 unfold depth at k ⊢
 rw [List.length_append]
 have h1:=(depthN_app (ID:=ID) (id:=id) (N:=p.length+r.length) p r 0 (by omega)).2 (by rw [depthN_deep p 0 (by omega),k];rfl)
 rw [h1]
 have:=(depthN_le (ID:=ID) (id:=id) (N:=p.length+r.length) r (0+p.length) (by omega)).2
 omega
theorem depth_some (k:depth ID p id≠0):depth ID (p++r) id=depth ID p id+r.length∧0<depth ID p id:=by
 have h0:=(depthN_le (ID:=ID) (id:=id) (N:=p.length) p 0 (by omega)).1
 unfold depth at k ⊢
 rw [List.length_append]
 have e:depthN ID id (p.length+r.length) p 0=depthN ID id p.length p 0+r.length:=by rw [depthN_deep p 0 (by omega),if_neg k]
 exact ⟨by rw [(depthN_app p r 0 (by omega)).1 (by rw [e];omega),e],by omega⟩
end Wt
end Go.Proofs.YtjjodibkmeefpaaGreatDoor

namespace Go.Proofs.YtjjodibkmeefpaaGreatDoor
open Go Go.RowKit
attribute [local irreducible] wpList

theorem sub_drop {l:List Value} {a b m:Nat}:sub (l.drop a) b m=sub l (a+b) m:=by unfold sub;rw [List.drop_drop]
theorem all_sub {s:Nat} {f:Value->Bool}:∀(n:Nat) (ys:List Value),ys.length=n*s->(∀i,i<n->(sub ys (i*s) s).all f=true)->ys.all f=true
 | 0,ys,h,_=>by
  rw [Nat.zero_mul] at h
  rw [List.eq_nil_of_length_eq_zero h];rfl
 | n+1,ys,h,k=>by
  have h0:=k 0 (by omega)
  rw [Nat.zero_mul] at h0
  rw [Nat.add_mul,Nat.one_mul] at h
  have h1:=all_sub (s:=s) (f:=f) n (ys.drop s) (by rw [List.length_drop];omega) (fun i hi=>by
   rw [sub_drop,show s+i*s=(i+1)*s by rw [Nat.add_mul,Nat.one_mul];omega]
   exact k (i+1) (by omega))
  rw [←List.take_append_drop s ys,List.all_append,h1,Bool.and_true]
  exact h0
theorem path_one {w:World} {S:Nat->Prop} {ys:List Value} {l:List DBlock} (h0:ys.length=l.length*66) (h:∀(i:Nat) (x:DBlock),l[i]?=some x->RBlock w S (sub ys (i*66) 66) x):ys.all (·.oneCell')=true :=
 all_sub l.length ys h0 (fun i hi=>by
  obtain ⟨b,hb⟩:=get_lt hi
  obtain ⟨A,c,e,_,_⟩:=blk_of (h i b hb)
  rw [e]
  exact blk_one)
theorem rl_long {W:World} {S3 S2:Nat->Prop} {A:Option Addr} {c:Nat} {zs ys:List Value} {p r:List DBlock} (hr:W.ownsRow 0 76 66 (.slice A (p++r).length c) (p++r).length (zs++ys)) (he:zs.length=p.length*66∧∀(i:Nat) (x:DBlock),p[i]?=some x->RBlock W S3 (sub zs (i*66) 66) x) (hy:∀(i:Nat) (x:DBlock),r[i]?=some x->RBlock W S2 (sub ys (i*66) 66) x) (hc:(p++r).length<=c∧c<=9223372036854775807):RL 66 RBlock W (0<=·) [.slice A (p++r).length c] (p++r):=by
 refine ⟨A,c,zs++ys,U,hc.1,hc.2,(Rd.of_own hr).swap (fun _ _ _=>Nat.zero_le _),fun i x hx=>?_⟩
 rcases Nat.lt_or_ge i p.length with hi|hi
 ·rw [List.getElem?_append_left hi] at hx
  rw [sub_app he.1 hi]
  exact mono_Block _ _ _ _ _ (he.2 i x hx) (fun _ _ _=>Nat.zero_le _)
 ·rw [List.getElem?_append_right hi] at hx
  rw [show i*66=p.length*66+(i - p.length)*66 by rw [←Nat.add_mul];congr 1;omega,sub_skip he.1]
  exact mono_Block _ _ _ _ _ (hy _ x hx) (fun _ _ _=>Nat.zero_le _)
theorem hit_bs {T:Nat->Prop} {w0 W:World} {L:List Fact} {xs:List Value} {l:List WHit} {i c:Nat} {y:WHit} {A:Option Addr} (H:St T w0 W L) [h:In (Fact.hits xs l) L] (hL:sub xs (i*36) 36=hitC y A y.out.script.length c) (hy:l[i]?=some y):Bs W (0<=·) (.slice A y.out.script.length c) y.out.script:=by
 obtain ⟨A',c',e,ho,hw⟩:=(H.get (f:=Fact.hits xs l)).2.1 i y hy
 rw [hL] at e
 have e2:sub (hitC y A y.out.script.length c) 34 1=sub (hitC y A' y.out.script.length c') 34 1:=by rw [e]
 rw [sub_hit_s ho,sub_hit_s ho] at e2
 cases e2
 exact (bs_own hw U).mono (fun _ _ _=>Nat.zero_le _)
theorem len_secV {p:List DBlock} {pt:DPoint} {h:List UInt8}:(secV (Wt.secret Old.Bl.sum p pt h)).length=32:=by
 cases e:Wt.secret Old.Bl.sum p pt h with
 | none=>exact List.length_replicate
 | some d=>exact (Wt.secret_is e).1
def qC (A:Option Addr) (m c:Nat) (pt:DPoint) (h id:List UInt8):List Value:=[.slice A m c]++(pointC pt++(h.map u8v++id.map u8v))
section
variable {A:Option Addr} {m c:Nat} {pt:DPoint} {h id:List UInt8}
theorem qc_s:sub (qC A m c pt h id) 0 1=[.slice A m c]:=sub_head rfl
theorem qc_p (hp:pt.tx.length=32):sub (qC A m c pt h id) 1 33=pointC pt:=sub_Question_1 rfl (len_point hp)
theorem qc_h (hp:pt.tx.length=32) (hh:h.length=32):sub (qC A m c pt h id) 34 32=h.map u8v:=sub_Question_2 rfl (len_point hp) (by rw [List.length_map];exact hh)
theorem qc_i (hp:pt.tx.length=32) (hh:h.length=32) (hi:id.length=32):sub (qC A m c pt h id) 66 32=id.map u8v:=sub_Question_3 rfl (len_point hp) (by rw [List.length_map];exact hh) (by rw [List.length_map];exact hi)
end
attribute [local irreducible] Tx.dig Old.Bl.sum

theorem watchGrowsB {S S2 S3':Nat->Prop} {B B2 As:Option Addr} {c c2 cs:Nat} {p r:List DBlock} (w:World) (hl:RL 66 RBlock w S [.slice B p.length c] p) (hl2:RL 66 RBlock w S2 [.slice B2 r.length c2] r) (hG:Gat w 2 formsC) (hB:Old.Gl w) (hsz:∀b∈p,∀t∈b.txs,Tx.Szd t) (hsz2:∀b∈r,∀t∈b.txs,Tx.Szd t) {s:List UInt8} (hs:Bs w S3' (.slice As s.length cs) s) {pt:DPoint} (hp:pt.tx.length=32) (hn:I64 pt.n) {hq iq:List UInt8} (hh:hq.length=32) (hi_:iq.length=32):Calls Tryz.prog 26 [.slice B p.length c,.slice B2 r.length c2,.agg (qC As s.length cs pt hq iq).toArray].toArray w (Ret (Is w (.bool true))):=by
 obtain ⟨la,hla⟩:∃la,Wt.found (Tx.dig Tx.tTx) p s=la:=⟨_,rfl⟩
 obtain ⟨lb,hlb⟩:∃lb,Wt.found (Tx.dig Tx.tTx) (p++r) s=lb:=⟨_,rfl⟩
 have hgl:la.length<=lb.length:=by rw [←hla,←hlb];exact Wt.grow_len
 have hl20:=hl2
 obtain ⟨B_,c_,ys,hv_,-,-,hr2,hel2⟩:=hl20
 cases hv_
 have hys:ys.length=r.length*66:=hr2.1
 have hyo:=path_one hys hel2
 refine kE (l:=[_,_,_]) Tryz.func26 U U ?_
 have H:=St.start nT w
 refine kR (sf (ebx (vs:=(qC As s.length cs pt hq iq)) U U H ?_))
 clear H;intro gq W H
 refine sAb U (ln (kQ (kQ ?_)))
 rcases (show bigP p=true∨(bigP p=false∧bigP r=true)∨(bigP p=false∧bigP r=false) by cases bigP p <;> cases bigP r <;> simp) with hb1|⟨hb1,hb2⟩|⟨hb1,hb2⟩
 ·skip
  refine kr (sMs U (sf (eI Tryz.func5 U U (big13 _ (keeps_L keeps_Block _ _ _ _ _ hl (fun g hg _=>H.fr.block g hg (fun h=>h))) hsz) H ?_)))
  clear H;intro W H
  refine sBt U (by rw [hb1]) ?_
  refine sK (wO U U U U U) U (sK (wO U U U U U) U (sPT U U (sBt U (by rfl) ?_)))
  refine sK (wO U U U U U) U (sK (wO U U U U U) U (sK (wO U U U U U) U (sK (wO U U U U U) U (sPT U U (ln (kT U U (kR (sf (eI Tryz.func6 U U (works13 _ (H.gat hG) (H.gl hB)) H ?_)))))))))
  clear H;intro W H
  refine sAb U (ln (kx ?_))
  exact qr (v:=.bool _) U U ⟨_,U,vb (U),H.under⟩
 ·skip
  refine kr (sMs U (sf (eI Tryz.func5 U U (big13 _ (keeps_L keeps_Block _ _ _ _ _ hl (fun g hg _=>H.fr.block g hg (fun h=>h))) hsz) H ?_)))
  clear H;intro W H
  refine sBf U (by rw [hb1]) ?_
  refine sr (w_g U U U U) U (mv_s U U) (sf (e_call (w_g U U U U) U U Tryz.func5 U U U (big13 _ (keeps_L keeps_Block _ _ _ _ _ hl2 (fun g hg _=>H.fr.block g hg (fun h=>h))) hsz2) ?_))
  rintro _ W ⟨rfl,hb⟩
  replace H:=H.below hb
  clear hb
  refine sPF U U (sBt U (by rw [hb2]) ?_)
  refine sK (wO U U U U U) U (sK (wO U U U U U) U (sK (wO U U U U U) U (sK (wO U U U U U) U (sPT U U (ln (kT U U (kR (sf (eI Tryz.func6 U U (works13 _ (H.gat hG) (H.gl hB)) H ?_)))))))))
  clear H;intro W H
  refine sAb U (ln (kx ?_))
  exact qr (v:=.bool _) U U ⟨_,U,vb (U),H.under⟩
 ·skip
  refine kr (sMs U (sf (eI Tryz.func5 U U (big13 _ (keeps_L keeps_Block _ _ _ _ _ hl (fun g hg _=>H.fr.block g hg (fun h=>h))) hsz) H ?_)))
  clear H;intro W H
  refine sBf U (by rw [hb1]) ?_
  refine sr (w_g U U U U) U (mv_s U U) (sf (e_call (w_g U U U U) U U Tryz.func5 U U U (big13 _ (keeps_L keeps_Block _ _ _ _ _ hl2 (fun g hg _=>H.fr.block g hg (fun h=>h))) hsz2) ?_))
  rintro _ W ⟨rfl,hb⟩
  replace H:=H.below hb
  clear hb
  refine sPF U U (sBf U (by rw [hb2]) ?_)
  refine sr (w_g U U U U) U (dF U U tf29_0) (sr (w_g U U U U) U (dX (g:=gq) (off:=0) U H qc_s U U ta23) (sr (w_g U U U U) U (d_len U U tu23) (sr (w_g U U U U) U (d_gt U U U) (sPF U U (ln (kC U (fun hc32=>?_) (fun hc32=>?_)))))))
  ·skip
   refine kR (sf (eI Tryz.func6 U U (works13 _ (H.gat hG) (H.gl hB)) H ?_))
   clear H;intro W H
   refine sAb U (ln (kx ?_))
   exact qr (v:=.bool _) U U ⟨_,U,vb (U),H.under⟩
  ·have hsl:s.length<=2048:=by simp at hc32;omega
   obtain ⟨hpl,hpt,hP⟩:=bigP_f hb1
   obtain ⟨hrl,hrt,hR⟩:=bigP_f hb2
   have hPR:∀b∈p++r,∀t∈b.txs,Tx.FitW t:=fun b hb=>(List.mem_append.1 hb).elim (hP b) (hR b)
   have hlr:(p++r).length<=24:=by rw [List.length_append];omega
   have hNp:(flatP p).length<=100000:=Nat.le_trans (flat_le hpt) (by omega)
   have hNr:(flatP (p++r)).length<=100000:=Nat.le_trans (flat_le (K:=20) (fun b hb=>(List.mem_append.1 hb).elim (hpt b) (hrt b))) (by omega)
   have e9:p.length+r.length=(p++r).length:=List.length_append.symm
   refine kS (kR (sMs U (sLn U tu22 (sAi U (lkR (sMs U (sf (ecl Tryz.func7 U U (copyBlocks _ (keeps_L keeps_Block _ _ _ _ _ hl (fun g hg _=>H.fr.block g hg (fun h=>h))) (by omega) (fun b hb=>⟨by have:=hpt b hb;omega,fun t ht=>(hP b hb t ht).1⟩)) ?_))))))))
   rintro _ W ⟨A3,c3,zs,S3,rfl,hc3,hn3⟩
   replace H:=H.add2 hn3
   clear hn3
   refine sMs U (sf (eap tu22 tx76 U U U H (H.rd hr2) (hyo) (by omega) U ?_))
   clear H;intro A9 c9 W hc9 hd9 H
   refine sAs U (ln ?_)
   rw [e9] at H hc9 ⊢
   refine kR (sMs U (sFa U tf29_0 (sR (dX (g:=gq) (off:=0) U H qc_s U U ta23) (sf (ecl Tryz.func9 U U (foundP (p:=p) _ (keeps_L keeps_Block _ _ _ _ _ hl (fun g hg _=>H.fr.block g hg (fun h=>h))) (H.gat hG) (H.gl hB) hP hNp (H.bs hs)) ?_)))))
   rintro v1 W ⟨Aa,ca,xa,he,hcx,hn1⟩
   rw [hla] at he hcx hn1
   subst he
   replace H:=H.add2 hn1
   clear hn1
   refine sAs U (lkR (sMs U (sFa U tf29_0 (sR (dX (g:=gq) (off:=0) U H qc_s U U ta23) (sf (ecl Tryz.func9 U U (foundP (p:=p++r) _ (rl_long (S3:=S3) (S2:=S2) (H.get (f:=Fact.row 76 66 (.slice A9 (p++r).length c9) (p++r).length (zs++ys))) (H.get (f:=Fact.els RBlock 66 S3 zs p)) (fun i x hx=>keeps_Block _ _ _ _ _ (hel2 i x hx) (fun g hg _=>H.fr.block g hg (fun h=>h))) ⟨hc9,hd9⟩) (H.gat hG) (H.gl hB) hPR hNr (H.bs hs)) ?_))))))
   rintro v1 W ⟨Ab,cb,xb,he,hcx,hn1⟩
   rw [hlb] at he hcx hn1
   subst he
   replace H:=H.add2 hn1
   clear hn1
   refine sAs U (ln (kQ (kR (sMs U (sLn U tu34 (sMs U (sLn U tu34 (sLt U U (ln (kF U (by simp;omega) (kS (kQ ?_))))))))))))
   refine kR (sAi U (ln (kb (kL 53 [6,11] (fun mm sl W=>∃i:Nat,lb.length - i=mm∧sl=[(11,.int .i64 (i:Int))]∧(i<=lb.length)∧St nT w W [Fact.row 43 36 (.slice Ab lb.length cb) lb.length xb,Fact.hits xb lb,Fact.row 43 36 (.slice Aa la.length ca) la.length xa,Fact.hits xa la,Fact.row 76 66 (.slice A9 (p++r).length c9) (p++r).length (zs++ys),Fact.els RBlock 66 S3 zs p,Fact.blk gq (qC As s.length cs pt hq iq) 29]) _ _ ⟨0,U,U,Nat.zero_le _,H⟩ ⟨U,trivial⟩ (fun mm sl ρv W hJ=>?_)))))
   clear H;obtain ⟨i,rfl,rfl,hi,H⟩:=hJ
   refine ko (kQ (kR (sMi U (sMs U (sLn U tu34 (sLt U U (ln (kC U (fun hc56=>?_) (fun hc56=>?_)))))))))
   ·have hlt:i<lb.length:=by simp at hc56;omega
    obtain ⟨yb,hyb⟩:=get_lt hlt
    obtain ⟨gb0,rfl⟩:=row_own (H.get (f:=Fact.row 43 36 (.slice Ab lb.length cb) lb.length xb)) (by omega)
    obtain ⟨Ahb,chb,hLb,hokb,-⟩:=(H.get (f:=Fact.hits xb lb)).2.1 i yb hyb
    obtain ⟨hd1,hd2,hd3,hd4⟩:=Wt.hit_is (ID:=(Tx.dig Tx.tTx)) (p:=p++r) (s:=s) (by rw [hlb];exact hyb)
    refine kS (kQ (kb (kQ (kQ (k_cut 59 [] (fun sl W=>sl=[(105,.bool false)]∧St nT w W [Fact.row 43 36 (.slice (some ⟨gb0,0,none⟩) lb.length cb) lb.length xb,Fact.hits xb lb,Fact.row 43 36 (.slice Aa la.length ca) la.length xa,Fact.hits xa la,Fact.row 76 66 (.slice A9 (p++r).length c9) (p++r).length (zs++ys),Fact.els RBlock 66 S3 zs p,Fact.blk gq (qC As s.length cs pt hq iq) 29]) ?_ (fun sl ρv W hJ=>?_))))))
    ·skip
     rcases Nat.lt_or_ge i la.length with hia|hia
     ·obtain ⟨ya,hya⟩:=get_lt hia
      obtain ⟨ga0,rfl⟩:=row_own (H.get (f:=Fact.row 43 36 (.slice Aa la.length ca) la.length xa)) (by omega)
      obtain ⟨Aha,cha,hLa,hoka,-⟩:=(H.get (f:=Fact.hits xa la)).2.1 i ya hya
      obtain ⟨-,he2,he3,-⟩:=Wt.hit_is (ID:=(Tx.dig Tx.tTx)) (p:=p) (s:=s) (by rw [hla];exact hya)
      have hdy:=Wt.grow_lt (ID:=(Tx.dig Tx.tTx)) (p:=p) (r:=r) (s:=s) (by rw [hla];exact hya) (by rw [hlb];exact hyb)
      have hy1:yb.point=ya.point:=by rw [hdy];rfl
      have hy2:yb.depth=ya.depth+r.length:=by rw [hdy];rfl
      refine k_draw [(0,true),(1,true),(2,true),(3,true),(4,true),(5,true),(6,true),(7,true),(8,true),(9,true),(10,true),(11,true),(12,true),(13,true),(14,true),(15,true),(16,true),(17,true),(18,true),(19,true),(20,true),(21,true),(22,true),(23,true),(24,true),(25,true),(26,true),(27,true),(28,true),(29,true),(30,true),(31,true),(32,true),(33,true),(34,true),(35,true),(36,true),(37,true),(38,true),(39,true),(40,true),(41,true),(42,true),(43,true),(44,true),(45,true),(46,true)] _ (by kernel_rfl) (by kernel_rfl) H (.refl _) ?_
      clear H;intro W H
      refine cMi U U (cMs U U (cR U (fun W H=>d_len U U tu34) (cR U (fun W H=>d_lt U U U) (cR U (fun W H=>mv_bx (c:=true) U U (by simp;omega)) (c_run U (w_g U U U U) U (fun W H=>mv_s U U) (c_run U (w_g U U U U) U (fun W H=>mv_i U U) (c_run U (w_g U U U U) U (fun W H=>dG U ((Rd.of_own (H.get (f:=Fact.row 43 36 (.slice (some ⟨ga0,0,none⟩) la.length ca) la.length xa)))) U U (q:=i) U hia tu34 ts43) (c_run U (w_g U U U U) U (fun W H=>dF U U tf43_0) (c_run U (w_g U U U U) U (fun W H=>dN (off:=0) U ((Rd.of_own (H.get (f:=Fact.row 43 36 (.slice (some ⟨ga0,0,none⟩) la.length ca) la.length xa)))) hia hLa (sub_hit_p hoka) U U (by omega) ta27 ts27) (c_run U (w_g U U U U) U (fun W H=>mv_s U U) (c_run U (w_g U U U U) U (fun W H=>mv_i U U) (c_run U (w_g U U U U) U (fun W H=>dG U ((Rd.of_own (H.get (f:=Fact.row 43 36 (.slice (some ⟨gb0,0,none⟩) lb.length cb) lb.length xb)))) U U (q:=i) U hlt tu34 ts43) ?_))))))))))))
      refine c_run U (w_g U U U U) U (fun W H=>dF U U tf43_0) (c_run U (w_g U U U U) U (fun W H=>dN (off:=0) U ((Rd.of_own (H.get (f:=Fact.row 43 36 (.slice (some ⟨gb0,0,none⟩) lb.length cb) lb.length xb)))) hlt hLb (sub_hit_p hokb) U U (by omega) ta27 ts27) (c_run U (w_g U U U U) U (fun W H=>d_nest (r:=beqPoint ya.point yb.point) U U U (eq_Point (d:=9997) (point_rep (W:=w) (S:=nT) hoka.1 hoka.2.1) (point_rep (W:=w) (S:=nT) hokb.1 hokb.2.1)) (by kernel_rfl)) ?_))
      refine c_run U (w_g U U U U) U (fun W H=>mv_bx (c:=false) U U (by rw [hy1,beqPoint_iff.2 U];rfl)) ?_
      refine c_run U (w_g U U U U) U (fun W H=>mv_s U U) (c_run U (w_g U U U U) U (fun W H=>mv_i U U) (c_run U (w_g U U U U) U (fun W H=>dG U ((Rd.of_own (H.get (f:=Fact.row 43 36 (.slice (some ⟨ga0,0,none⟩) la.length ca) la.length xa)))) U U (q:=i) U hia tu34 ts43) (c_run U (w_g U U U U) U (fun W H=>dF U U tf43_2) (c_run U (w_g U U U U) U (fun W H=>dE (off:=35) U ((Rd.of_own (H.get (f:=Fact.row 43 36 (.slice (some ⟨ga0,0,none⟩) la.length ca) la.length xa)))) hia hLa (sub_hit_d hoka) U U (by omega) ta3) (c_run U (w_g U U U U) U (fun W H=>mv_i U U) (c_run U (w_g U U U U) U (fun W H=>d_add U U U (by omega)) (c_run U (w_g U U U U) U (fun W H=>mv_s U U) (c_run U (w_g U U U U) U (fun W H=>mv_i U U) (c_run U (w_g U U U U) U (fun W H=>dG U ((Rd.of_own (H.get (f:=Fact.row 43 36 (.slice (some ⟨gb0,0,none⟩) lb.length cb) lb.length xb)))) U U (q:=i) U hlt tu34 ts43) (c_run U (w_g U U U U) U (fun W H=>dF U U tf43_2) (c_run U (w_g U U U U) U (fun W H=>dE (off:=35) U ((Rd.of_own (H.get (f:=Fact.row 43 36 (.slice (some ⟨gb0,0,none⟩) lb.length cb) lb.length xb)))) hlt hLb (sub_hit_d hokb) U U (by omega) ta3) (c_run U (w_g U U U U) U (fun W H=>d_ne U U U) ?_))))))))))))
      refine c_run U (w_g U U U U) U (fun W H=>d_pickF U U U) (cR U (fun W H=>d_pickT U U U) (cR U (fun W H=>mv_bx (c:=false) U U (by simp;omega)) (c_run U (w_g U U U U) U (fun W H=>mv_i U U) (c_run U (w_g U U U U) U (fun W H=>mv_s U U) (c_run U (w_g U U U U) U (fun W H=>d_len U U tu34) (c_run U (w_g U U U U) U (fun W H=>d_ge U U U) (c_run U (w_g U U U U) U (fun W H=>mv_bx (c:=false) U U (by simp;omega)) (cK U (wO U U U U U) U (cK U (wO U U U U U) U (cK U (wO U U U U U) U (cK U (wO U U U U U) U (cK U (wO U U U U U) U ?_))))))))))))
      refine cK U (wO U U U U U) U (cK U (wO U U U U U) U (c_run U (w_g U U U U) U (fun W H=>d_pickF U U U) (cR U (fun W H=>d_pickF U U U) (c_nil (kn (n_then ?_))))))
      refine ⟨_,_,U,?_,?_,⟨U,H⟩⟩
      ·with_reducible repeat first|exact .refl|refine .f ?_ ?_ ?_;kernel_rfl;kernel_rfl|refine .u ?_ ?_;kernel_rfl
      ·refine ⟨?_,trivial⟩
       ·exact vb (by first|rfl|(simp;omega))
     ·have hy3:=Wt.grow_ge (ID:=(Tx.dig Tx.tTx)) (p:=p) (r:=r) (s:=s) (by rw [hla];exact hia) (by rw [hlb];exact hyb)
      refine k_draw [(0,true),(1,true),(2,true),(3,true),(4,true),(5,true),(6,true),(7,true),(8,true),(9,true),(10,true),(11,true),(12,true),(13,true),(14,true),(15,true),(16,true),(17,true),(18,true),(19,true),(20,true),(21,true),(22,true),(23,true),(24,true),(25,true),(26,true),(27,true),(28,true),(29,true),(30,true),(31,true),(32,true),(33,true),(34,true),(35,true),(36,true),(37,true),(38,true),(39,true),(40,true),(41,true),(42,true),(43,true),(44,true),(45,true),(46,true)] _ (by kernel_rfl) (by kernel_rfl) H (.refl _) ?_
      clear H;intro W H
      refine cMi U U (cMs U U (cR U (fun W H=>d_len U U tu34) (cR U (fun W H=>d_lt U U U) (cR U (fun W H=>mv_bx (c:=false) U U (by simp;omega)) (cK U (wO U U U U U) U (cK U (wO U U U U U) U (cK U (wO U U U U U) U (cK U (wO U U U U U) U (cK U (wO U U U U U) U (cK U (wO U U U U U) U (cK U (wO U U U U U) U (cK U (wO U U U U U) U ?_))))))))))))
      refine cK U (wO U U U U U) U (cK U (wO U U U U U) U (cK U (wO U U U U U) U (cK U (wO U U U U U) U (cK U (w_gu U U U U U) U (cK U (w_gu U U U U U) U (cK U (w_gu U U U U U) U (cK U (w_gu U U U U U) U (cK U (w_gu U U U U U) U (cK U (w_gu U U U U U) U (cK U (w_gu U U U U U) U (cK U (w_gu U U U U U) U (cK U (w_gu U U U U U) U ?_))))))))))))
      refine cK U (w_gu U U U U U) U (cK U (w_gu U U U U U) U (cK U (w_gu U U U U U) U (cK U (w_gu U U U U U) U (cK U (wO U U U U U) U (cR U (fun W H=>d_pickF U U U) (cR U (fun W H=>mv_bx (c:=false) U U (by rfl)) ?_))))))
      refine c_run U (w_g U U U U) U (fun W H=>mv_i U U) (c_run U (w_g U U U U) U (fun W H=>mv_s U U) (c_run U (w_g U U U U) U (fun W H=>d_len U U tu34) (c_run U (w_g U U U U) U (fun W H=>d_ge U U U) (c_run U (w_g U U U U) U (fun W H=>mv_bx (c:=true) U U (by simp;omega)) (c_run U (w_g U U U U) U (fun W H=>mv_s U U) (c_run U (w_g U U U U) U (fun W H=>mv_i U U) (c_run U (w_g U U U U) U (fun W H=>dG U ((Rd.of_own (H.get (f:=Fact.row 43 36 (.slice (some ⟨gb0,0,none⟩) lb.length cb) lb.length xb)))) U U (q:=i) U hlt tu34 ts43) (c_run U (w_g U U U U) U (fun W H=>dF U U tf43_2) (c_run U (w_g U U U U) U (fun W H=>dE (off:=35) U ((Rd.of_own (H.get (f:=Fact.row 43 36 (.slice (some ⟨gb0,0,none⟩) lb.length cb) lb.length xb)))) hlt hLb (sub_hit_d hokb) U U (by omega) ta3) (c_run U (w_g U U U U) U (fun W H=>mv_i U U) (c_run U (w_g U U U U) U (fun W H=>d_gt U U U) (c_run U (w_g U U U U) U (fun W H=>d_pickT U U U) ?_))))))))))))
      refine cR U (fun W H=>d_pickF U U U) (c_nil (kn (n_then ?_)))
      refine ⟨_,_,U,?_,?_,⟨U,H⟩⟩
      ·with_reducible repeat first|exact .refl|refine .f ?_ ?_ ?_;kernel_rfl;kernel_rfl|refine .u ?_ ?_;kernel_rfl
      ·refine ⟨?_,trivial⟩
       ·exact vb (by first|rfl|(simp;omega))
    clear H;obtain ⟨rfl,H⟩:=hJ
    refine kF U U (kS (kQ (k_draw [(0,true),(1,true),(2,true),(3,true),(4,true),(5,true),(6,true),(7,true),(8,true),(9,true),(10,true),(11,true),(12,true),(13,true),(14,true),(15,true),(16,true),(17,true),(18,true),(19,true),(20,true),(21,true),(22,true),(23,true),(25,true),(26,true),(27,true),(28,true),(29,true),(24,false),(30,true),(31,true),(32,true),(33,true),(34,true),(35,true),(36,true),(37,true),(38,true),(39,true),(40,true),(41,false),(42,true),(43,true)] _ (by kernel_rfl) (by kernel_rfl) H (.refl _) ?_)))
    clear H;intro W H
    refine cMs U U (cMi U U (cR U (fun W H=>dG U ((Rd.of_own (H.get (f:=Fact.row 43 36 (.slice (some ⟨gb0,0,none⟩) lb.length cb) lb.length xb)))) U U (q:=i) U hlt tu34 ts43) (cFa U U tf43_2 (cR U (fun W H=>dE (off:=35) U ((Rd.of_own (H.get (f:=Fact.row 43 36 (.slice (some ⟨gb0,0,none⟩) lb.length cb) lb.length xb)))) hlt hLb (sub_hit_d hokb) U U (by omega) ta3) (cR U (fun W H=>d_lt U U U) (cR U (fun W H=>mv_bx (c:=false) U U (by simp;omega)) (c_run U (w_g U U U U) U (fun W H=>mv_s U U) (c_run U (w_g U U U U) U (fun W H=>mv_i U U) (c_run U (w_g U U U U) U (fun W H=>dG U ((Rd.of_own (H.get (f:=Fact.row 43 36 (.slice (some ⟨gb0,0,none⟩) lb.length cb) lb.length xb)))) U U (q:=i) U hlt tu34 ts43) (c_run U (w_g U U U U) U (fun W H=>dF U U tf43_2) (c_run U (w_g U U U U) U (fun W H=>dE (off:=35) U ((Rd.of_own (H.get (f:=Fact.row 43 36 (.slice (some ⟨gb0,0,none⟩) lb.length cb) lb.length xb)))) hlt hLb (sub_hit_d hokb) U U (by omega) ta3) (c_run U (w_g U U U U) U (fun W H=>mv_s U U) ?_))))))))))))
    refine c_run U (w_g U U U U) U (fun W H=>d_len U U tu22) (c_run U (w_g U U U U) U (fun W H=>d_gt U U U) (cR U (fun W H=>d_pickF U U U) (cR U (fun W H=>mv_bx (c:=false) U U (by simp;omega)) (c_run U (w_g U U U U) U (fun W H=>mv_s U U) (c_run U (w_g U U U U) U (fun W H=>mv_s U U) (c_run U (w_g U U U U) U (fun W H=>mv_i U U) (c_run U (w_g U U U U) U (fun W H=>dG U ((Rd.of_own (H.get (f:=Fact.row 43 36 (.slice (some ⟨gb0,0,none⟩) lb.length cb) lb.length xb)))) U U (q:=i) U hlt tu34 ts43) (c_run U (w_g U U U U) U (fun W H=>dF U U tf43_0) (c_run U (w_g U U U U) U (fun W H=>dF U U tf27_0) (c_run U (w_g U U U U) U (fun W H=>dN (off:=0) U ((Rd.of_own (H.get (f:=Fact.row 43 36 (.slice (some ⟨gb0,0,none⟩) lb.length cb) lb.length xb)))) hlt hLb (sub_hit_tx hokb) U U (by omega) ta25 ts25) (c_run U (w_g U U U U) U (fun W H=>mv_s U U) (c_run U (w_g U U U U) U (fun W H=>mv_i U U) ?_))))))))))))
    refine c_run U (w_g U U U U) U (fun W H=>dG U ((Rd.of_own (H.get (f:=Fact.row 43 36 (.slice (some ⟨gb0,0,none⟩) lb.length cb) lb.length xb)))) U U (q:=i) U hlt tu34 ts43) (c_run U (w_g U U U U) U (fun W H=>dF U U tf43_2) (c_run U (w_g U U U U) U (fun W H=>dE (off:=35) U ((Rd.of_own (H.get (f:=Fact.row 43 36 (.slice (some ⟨gb0,0,none⟩) lb.length cb) lb.length xb)))) hlt hLb (sub_hit_d hokb) U U (by omega) ta3) (cf U (e_call (w_g U U U U) U U Tryz.func19 U U U (depthP (p:=p++r) _ (rl_long (S3:=S3) (S2:=S2) (H.get (f:=Fact.row 76 66 (.slice A9 (p++r).length c9) (p++r).length (zs++ys))) (H.get (f:=Fact.els RBlock 66 S3 zs p)) (fun i x hx=>keeps_Block _ _ _ _ _ (hel2 i x hx) (fun g hg _=>H.fr.block g hg (fun h=>h))) ⟨hc9,hd9⟩) (H.gat hG) (H.gl hB) hokb.1) ?_))))
    rintro _ W ⟨rfl,hb⟩
    replace H:=H.below hb
    clear hb
    refine ⟨H.sb,?_⟩
    refine c_run U (w_g U U U U) U (fun W H=>d_lt U U U) (cR U (fun W H=>d_pickF U U U) (cR U (fun W H=>mv_bx (c:=false) U U (by exact decide_eq_false (Int.not_lt.2 hd4))) ?_))
    refine c_run U (w_g U U U U) U (fun W H=>mv_s U U) (c_run U (w_g U U U U) U (fun W H=>mv_i U U) (c_run U (w_g U U U U) U (fun W H=>dG U ((Rd.of_own (H.get (f:=Fact.row 43 36 (.slice (some ⟨gb0,0,none⟩) lb.length cb) lb.length xb)))) U U (q:=i) U hlt tu34 ts43) (c_run U (w_g U U U U) U (fun W H=>dF U U tf43_1) (c_run U (w_g U U U U) U (fun W H=>dF U U tf41_1) (c_run U (w_g U U U U) U (fun W H=>dE (off:=34) U ((Rd.of_own (H.get (f:=Fact.row 43 36 (.slice (some ⟨gb0,0,none⟩) lb.length cb) lb.length xb)))) hlt hLb (sub_hit_s hokb) U U (by omega) ta23) (c_run U (w_g U U U U) U (fun W H=>dF U U tf29_0) (c_run U (w_g U U U U) U (fun W H=>dX (g:=gq) (off:=0) U H qc_s U U ta23) (cf U (e_call (w_g U U U U) U U Tryz.func35 U U U (sameBytes _ _ yb.out.script s _ (hit_bs (xs:=xb) (l:=lb) H hLb hyb) (H.bs hs)) ?_)))))))))
    rintro _ W ⟨rfl,hb⟩
    replace H:=H.below hb
    clear hb
    refine ⟨H.sb,?_⟩
    refine c_run U (w_g U U U U) U (fun W H=>d_not U U) (cR U (fun W H=>d_pickF U U U) (c_nil (kF U (by rw [hd1];simp) ?_)))
    refine kS (kn (zE (kI U U U (by omega) U (kn (kY ?_)))))
    refine ⟨_,_,_,?_,U,?_,?_,⟨i+1,U,U,by omega,H⟩⟩
    ·omega
    ·with_reducible repeat first|exact .refl|refine .f ?_ ?_ ?_;kernel_rfl;kernel_rfl|refine .u ?_ ?_;kernel_rfl
    ·refine ⟨?_,trivial⟩
     ·exact vi (by omega)
   ·skip
    refine ke (xQ (xQ ?_))
    refine xH (kR (sMs U (sFa U tf29_1 (sR (dM (g:=gq) (off:=1) U H (qc_p hp) (len_point hp) U U U ta27 ts27) (sf (ecl Tryz.func13 U U (spentP (p:=p) _ (keeps_L keeps_Block _ _ _ _ _ hl (fun g hg _=>H.fr.block g hg (fun h=>h))) hP hp hn) ?_))))))
    rintro _ W ⟨⟨S4,A4,c4,B4,d4,t4,n4,k4⟩,hz4,rfl,hn1⟩
    replace hn1:St nT _ W [Fact.zc 71 41 S4 A4 c4 B4 d4 t4]:=hn1
    replace H:=H.add1 hn1
    clear hn1
    refine sMt U (sEx U U (sEx U U (sf (eal (spC none 0 0 none 0 0 0 0 0) tz49 H ?_))))
    clear H;intro g12 W H
    refine sf (esk (spC A4 t4.ins.length c4 B4 t4.outs.length d4 t4.lock n4 k4) U U U ts49 U U H (by decide) U ?_)
    clear H;intro W H
    refine sAb U (lkR (sMs U (sFa U tf29_1 (sR (dM (g:=gq) (off:=1) U H (qc_p hp) (len_point hp) U U U ta27 ts27) (sf (ecl Tryz.func13 U U (spentP (p:=p++r) _ (rl_long (S3:=S3) (S2:=S2) (H.get (f:=Fact.row 76 66 (.slice A9 (p++r).length c9) (p++r).length (zs++ys))) (H.get (f:=Fact.els RBlock 66 S3 zs p)) (fun i x hx=>keeps_Block _ _ _ _ _ (hel2 i x hx) (fun g hg _=>H.fr.block g hg (fun h=>h))) ⟨hc9,hd9⟩) hPR hp hn) ?_))))))
    rintro _ W ⟨⟨S5,A5,c5,B5,d5,t5,n5,k5⟩,hz5,rfl,hn1⟩
    replace hn1:St nT _ W [Fact.zc 71 41 S5 A5 c5 B5 d5 t5]:=hn1
    replace H:=H.add1 hn1
    clear hn1
    refine sMt U (sEx U U (sEx U U (sf (eal (spC none 0 0 none 0 0 0 0 0) tz49 H ?_))))
    clear H;intro g14 W H
    refine sf (esk (spC A5 t5.ins.length c5 B5 t5.outs.length d5 t5.lock n5 k5) U U U ts49 U U H (by decide) U ?_)
    clear H;intro W H
    refine sAb U (ln (kQ (kQ (k_cut 164 [] (fun sl W=>sl=[(205,.bool false)]∧St nT w W [Fact.row 76 66 (.slice A9 (p++r).length c9) (p++r).length (zs++ys),Fact.els RBlock 66 S3 zs p,Fact.blk gq (qC As s.length cs pt hq iq) 29]) ?_ (fun sl ρv W hJ=>?_)))))
    ·skip
     rcases (show (Wt.spent p pt=none∧Wt.spent (p++r) pt=none)∨(∃x,Wt.spent p pt=none∧Wt.spent (p++r) pt=some x)∨(∃x,Wt.spent p pt=some x) by cases h1:Wt.spent p pt <;> cases h2:Wt.spent (p++r) pt <;> simp) with ⟨hsp,hsq⟩|⟨x,hsp,hsq⟩|⟨⟨t,n,d⟩,hsp⟩
     ·skip
      refine kr (sMb U (sBf U (by rw [hsp];rfl) ?_))
      refine sK (wO U U U U U) U (sK (wO U U U U U) U (sK (wO U U U U U) U (sK (w_gu U U U U U) U (sK (w_gu U U U U U) U (sK (w_gu U U U U U) U (sK (w_gu U U U U U) U (sK (w_gu U U U U U) U (sK (wO U U U U U) U (sK (wO U U U U U) U (sK (w_gu U U U U U) U (sK (w_gu U U U U U) U (sK (w_gu U U U U U) U ?_))))))))))))
      refine sK (w_gu U U U U U) U (sK (w_gu U U U U U) U (sK (w_gu U U U U U) U (sK (w_gu U U U U U) U (sK (wO U U U U U) U (sK (wO U U U U U) U (sK (w_gu U U U U U) U (sK (w_gu U U U U U) U (sK (w_gu U U U U U) U (sK (w_gu U U U U U) U (sK (w_gu U U U U U) U (sK (w_gu U U U U U) U (sK (wO U U U U U) U ?_))))))))))))
      refine sPF U U (sBf U (by rfl) ?_)
      refine sr (w_g U U U U) U (mv_b U U) (sr (w_g U U U U) U (d_not U U) (sr (w_g U U U U) U (mv_bx (c:=true) U U (by rw [hsp];rfl)) ?_))
      refine sr (w_g U U U U) U (mv_b U U) (sr (w_g U U U U) U (d_pickT U U U) (sr (w_g U U U U) U (mv_bx (c:=false) U U (by rw [hsq];rfl)) ?_))
      refine sK (wO U U U U U) U (sK (wO U U U U U) U (sK (wO U U U U U) U (sK (wO U U U U U) U (sr (w_g U U U U) U (d_pickF U U U) (sPF U U (ln (kn (n_then ?_))))))))
      refine ⟨_,_,U,?_,?_,⟨U,(H.sub (L':=[Fact.row 76 66 (.slice A9 (p++r).length c9) (p++r).length (zs++ys),Fact.els RBlock 66 S3 zs p,Fact.blk gq (qC As s.length cs pt hq iq) 29]) (by repeat (first|exact .refl _|exact List.nil_sublist _|refine .cons_cons _ ?_|refine .cons _ ?_)))⟩⟩
      ·with_reducible repeat first|exact .refl|refine .f ?_ ?_ ?_;kernel_rfl;kernel_rfl|refine .u ?_ ?_;kernel_rfl
      ·refine ⟨?_,trivial⟩
       ·exact vb (by first|rfl|(simp;omega))
     ·unfold SpO.Is at hz5
      rw [hsq] at hz5
      dsimp only at hz5
      obtain ⟨-,-,hk5⟩:=hz5
      have hk6:=Wt.spent_none hsp hsq
      refine kr (sMb U (sBf U (by rw [hsp];rfl) ?_))
      refine sK (wO U U U U U) U (sK (wO U U U U U) U (sK (wO U U U U U) U (sK (w_gu U U U U U) U (sK (w_gu U U U U U) U (sK (w_gu U U U U U) U (sK (w_gu U U U U U) U (sK (w_gu U U U U U) U (sK (wO U U U U U) U (sK (wO U U U U U) U (sK (w_gu U U U U U) U (sK (w_gu U U U U U) U (sK (w_gu U U U U U) U ?_))))))))))))
      refine sK (w_gu U U U U U) U (sK (w_gu U U U U U) U (sK (w_gu U U U U U) U (sK (w_gu U U U U U) U (sK (wO U U U U U) U (sK (wO U U U U U) U (sK (w_gu U U U U U) U (sK (w_gu U U U U U) U (sK (w_gu U U U U U) U (sK (w_gu U U U U U) U (sK (w_gu U U U U U) U (sK (w_gu U U U U U) U (sK (wO U U U U U) U ?_))))))))))))
      refine sPF U U (sBf U (by rfl) ?_)
      refine sr (w_g U U U U) U (mv_b U U) (sr (w_g U U U U) U (d_not U U) (sr (w_g U U U U) U (mv_bx (c:=true) U U (by rw [hsp];rfl)) ?_))
      refine sr (w_g U U U U) U (mv_b U U) (sr (w_g U U U U) U (d_pickT U U U) (sr (w_g U U U U) U (mv_bx (c:=true) U U (by rw [hsq];rfl)) ?_))
      refine sr (w_g U U U U) U (dF U U tf49_2) (sr (w_g U U U U) U (dX (g:=g14) (off:=4) U H U U U ta3) (sr (w_g U U U U) U (mv_i U U) (sr (w_g U U U U) U (d_gt U U U) (sr (w_g U U U U) U (d_pickT U U U) (sPF U U (ln (kn (n_then ?_))))))))
      refine ⟨_,_,U,?_,?_,⟨U,(H.sub (L':=[Fact.row 76 66 (.slice A9 (p++r).length c9) (p++r).length (zs++ys),Fact.els RBlock 66 S3 zs p,Fact.blk gq (qC As s.length cs pt hq iq) 29]) (by repeat (first|exact .refl _|exact List.nil_sublist _|refine .cons_cons _ ?_|refine .cons _ ?_)))⟩⟩
      ·with_reducible repeat first|exact .refl|refine .f ?_ ?_ ?_;kernel_rfl;kernel_rfl|refine .u ?_ ?_;kernel_rfl
      ·refine ⟨?_,trivial⟩
       ·exact vb (by first|rfl|(simp;omega))
     ·have hsq:=Wt.spent_some (r:=r) hsp
      have hkd:=Wt.spent_deep hsp
      unfold SpO.Is at hz4 hz5
      rw [hsp] at hz4
      rw [hsq] at hz5
      dsimp only at hz4 hz5 hkd
      have e1:t4=t5:=hz4.1.trans hz5.1.symm
      have e2:n4=n5:=hz4.2.1.trans hz5.2.1.symm
      have e3:k4=d:=hz4.2.2
      have e4:k5=d+r.length:=hz5.2.2
      refine kr (sMb U (sBt U (by rw [hsp];rfl) ?_))
      refine sr (w_g U U U U) U (mv_b U U) (sr (w_g U U U U) U (d_not U U) (sr (w_g U U U U) U (mv_bx (c:=false) U U (by rw [hsq];rfl)) ?_))
      refine sr (w_g U U U U) U (dF U U tf49_1) (sr (w_g U U U U) U (dX (g:=g12) (off:=3) U H U U U ta3) (sr (w_g U U U U) U (dF U U tf49_1) (sr (w_g U U U U) U (dX (g:=g14) (off:=3) U H U U U ta3) (sr (w_g U U U U) U (d_ne U U U) (sr (w_g U U U U) U (d_pickF U U U) (sr (w_g U U U U) U (mv_bx (c:=false) U U (by simp [e2])) ?_))))))
      refine sr (w_g U U U U) U (dF U U tf49_2) (sr (w_g U U U U) U (dX (g:=g12) (off:=4) U H U U U ta3) (sr (w_g U U U U) U (mv_i U U) (sr (w_g U U U U) U (d_add U U U (by omega)) (sr (w_g U U U U) U (dF U U tf49_2) (sr (w_g U U U U) U (dX (g:=g14) (off:=4) U H U U U ta3) (sr (w_g U U U U) U (d_ne U U U) (sr (w_g U U U U) U (d_pickF U U U) (sr (w_g U U U U) U (mv_bx (c:=false) U U (by simp;omega)) (sr (w_g U U U U) U (dF U U tf49_0) (sr (w_g U U U U) U (dM (g:=g12) (off:=0) (cs:=txC A4 t4.ins.length c4 B4 t4.outs.length d4 t4.lock) U H U U U U U ta47 ts47) (sr (w_g U U U U) U (dF U U tf49_0) (sr (w_g U U U U) U (dM (g:=g14) (off:=0) (cs:=txC A5 t5.ins.length c5 B5 t5.outs.length d5 t5.lock) U H U U U U U ta47 ts47) ?_))))))))))))
      refine sf (e_call (w_g U U U U) U U Tryz.func15 U U U (sameTx _ (H.zcrep (eI:=71) (eO:=41) (S:=S4)) (H.zcrep (eI:=71) (eO:=41) (S:=S5))) ?_)
      rintro _ W ⟨rfl,hb⟩
      replace H:=H.below hb
      clear hb
      refine sr (w_g U U U U) U (d_not U U) (sr (w_g U U U U) U (d_pickF U U U) (sPT U U (sBf U (by simp [e1]) ?_)))
      refine sr (w_g U U U U) U (mv_b U U) (sr (w_g U U U U) U (d_not U U) (sr (w_g U U U U) U (mv_bx (c:=false) U U (by rw [hsp];rfl)) ?_))
      refine sK (wO U U U U U) U (sr (w_g U U U U) U (d_pickF U U U) (sr (w_g U U U U) U (mv_bx (c:=false) U U (by rfl)) ?_))
      refine sK (wO U U U U U) U (sK (wO U U U U U) U (sK (wO U U U U U) U (sK (wO U U U U U) U (sr (w_g U U U U) U (d_pickF U U U) (sPF U U (ln (kn (n_then ?_))))))))
      refine ⟨_,_,U,?_,?_,⟨U,(H.sub (L':=[Fact.row 76 66 (.slice A9 (p++r).length c9) (p++r).length (zs++ys),Fact.els RBlock 66 S3 zs p,Fact.blk gq (qC As s.length cs pt hq iq) 29]) (by repeat (first|exact .refl _|exact List.nil_sublist _|refine .cons_cons _ ?_|refine .cons _ ?_)))⟩⟩
      ·with_reducible repeat first|exact .refl|refine .f ?_ ?_ ?_;kernel_rfl;kernel_rfl|refine .u ?_ ?_;kernel_rfl
      ·refine ⟨?_,trivial⟩
       ·exact vb (by first|rfl|(simp;omega))
    clear H;obtain ⟨rfl,H⟩:=hJ
    refine kF U U (kS (kR (sMs U (sFa U tf29_1 (sR (dM (g:=gq) (off:=1) U H (qc_p hp) (len_point hp) U U U ta27 ts27) (sFa U tf29_2 (sR (dM (g:=gq) (off:=34) U H (qc_h hp hh) (by rw [List.length_map];exact hh) U U U ta25 ts25) ?_)))))))
    refine sf (eI Tryz.func17 U U (secretP (p:=p) _ (keeps_L keeps_Block _ _ _ _ _ hl (fun g hg _=>H.fr.block g hg (fun h=>h))) (H.gat hG) (H.gl hB) hP hp hn hh) H ?_)
    clear H;intro W H
    refine sMt U (sEx U U (sEx U U (sf (eal (List.replicate 32 (u8v 0)) tz25 H ?_))))
    clear H;intro g16 W H
    refine sf (esk ((secV (Wt.secret Old.Bl.sum (p) pt hq)).map u8v) U U U ts25 (by rw [List.length_map];exact len_secV) (all_u8L _) H (by decide) (spl_all (by rw [List.length_map,List.length_replicate];exact len_secV)) ?_)
    clear H;intro W H
    refine sAb U (lkR (sMs U (sFa U tf29_1 (sR (dM (g:=gq) (off:=1) U H (qc_p hp) (len_point hp) U U U ta27 ts27) (sFa U tf29_2 (sR (dM (g:=gq) (off:=34) U H (qc_h hp hh) (by rw [List.length_map];exact hh) U U U ta25 ts25) ?_))))))
    refine sf (eI Tryz.func17 U U (secretP (p:=p++r) _ (rl_long (S3:=S3) (S2:=S2) (H.get (f:=Fact.row 76 66 (.slice A9 (p++r).length c9) (p++r).length (zs++ys))) (H.get (f:=Fact.els RBlock 66 S3 zs p)) (fun i x hx=>keeps_Block _ _ _ _ _ (hel2 i x hx) (fun g hg _=>H.fr.block g hg (fun h=>h))) ⟨hc9,hd9⟩) (H.gat hG) (H.gl hB) hPR hp hn hh) H ?_)
    clear H;intro W H
    refine sMt U (sEx U U (sEx U U (sf (eal (List.replicate 32 (u8v 0)) tz25 H ?_))))
    clear H;intro g18 W H
    refine sf (esk ((secV (Wt.secret Old.Bl.sum (p++r) pt hq)).map u8v) U U U ts25 (by rw [List.length_map];exact len_secV) (all_u8L _) H (by decide) (spl_all (by rw [List.length_map,List.length_replicate];exact len_secV)) ?_)
    clear H;intro W H
    refine sAb U (ln (kQ (kQ (k_cut 224 [] (fun sl W=>sl=[(253,.bool false)]∧St nT w W [Fact.row 76 66 (.slice A9 (p++r).length c9) (p++r).length (zs++ys),Fact.els RBlock 66 S3 zs p,Fact.blk gq (qC As s.length cs pt hq iq) 29]) ?_ (fun sl ρv W hJ=>?_)))))
    ·skip
     rcases Wt.secret_cases (SUM:=Old.Bl.sum) (p:=p) (r:=r) (pt:=pt) (h:=hq) with ⟨d,hA,hE,hD,hO⟩|⟨hA,hE,hO⟩|⟨d,hA,hE,hD,hO⟩|⟨hA,hE,hO⟩
     ·skip
      refine k_draw [(0,true),(1,true),(2,true),(3,true),(4,true),(5,true),(6,true),(7,true),(8,true),(9,true),(10,true),(11,true),(12,true),(13,true),(15,true),(16,true),(14,false),(17,true),(18,true),(19,true),(20,true),(21,true),(22,true),(23,true),(24,true),(25,true),(26,true),(27,true),(28,true),(29,true)] _ (by kernel_rfl) (by kernel_rfl) H (.refl _) ?_
      clear H;intro W H
      refine cR U (fun W H=>mv_b U U) (cR U (fun W H=>mv_bx (c:=true) U U (by rw [hA];rfl)) ?_)
      refine c_run U (w_g U U U U) U (fun W H=>mv_b U U) (c_run U (w_g U U U U) U (fun W H=>d_not U U) (c_run U (w_g U U U U) U (fun W H=>mv_bx (c:=false) U U (by rw [hE];rfl)) ?_))
      refine c_run U (w_g U U U U) U (fun W H=>d_ldm0 (g:=g16) U H U ta25 ts25 (by rw [List.length_map];exact len_secV)) ?_
      refine c_run U (w_g U U U U) U (fun W H=>d_ldm0 (g:=g18) U H U ta25 ts25 (by rw [List.length_map];exact len_secV)) ?_
      refine c_run U (w_g U U U U) U (fun W H=>d_nearr U U U tu25 tu5 ts5 len_secV len_secV (by kernel_rfl)) ?_
      refine c_run U (w_g U U U U) U (fun W H=>d_pickF U U U) (cR U (fun W H=>d_pickT U U U) (cR U (fun W H=>mv_bx (c:=false) U U (by rw [hA,hE];simp)) ?_))
      refine c_run U (w_g U U U U) U (fun W H=>mv_b U U) (c_run U (w_g U U U U) U (fun W H=>mv_bx (c:=true) U U (by rw [hE];rfl)) ?_)
      refine c_run U (w_g U U U U) U (fun W H=>d_arrA U U tu25 ts5) (c_run U (w_g U U U U) U (fun W H=>dF U U tf29_2) (c_run U (w_g U U U U) U (fun W H=>dM (g:=gq) (off:=34) U H (qc_h hp hh) (by rw [List.length_map];exact hh) U U U ta25 ts25) ?_))
      refine cf U (e_call (w_g U U U U) U U Tryz.func24 U U U (sumB _ (H.gl hB) (Wt.blk_bs (S:=fun _=>True) (H.blk (g:=g18)) U trivial len_secV (by decide)) (by rw [len_secV];decide)) ?_)
      rintro _ W ⟨rfl,hb⟩
      replace H:=H.below hb
      clear hb
      refine ⟨H.sb,?_⟩
      refine c_run U (w_g U U U U) U (fun W H=>d_nearr U U U tu25 tu5 ts5 (Old.Bl.len_sum _) hh (by kernel_rfl)) ?_
      refine c_run U (w_g U U U U) U (fun W H=>d_pickT U U U) (cR U (fun W H=>d_pickF U U U) (cR U (fun W H=>mv_bx (c:=false) U U (by rw [hE];show (!(Old.Bl.sum d == hq))=false;rw [hD];simp)) ?_))
      refine c_run U (w_g U U U U) U (fun W H=>mv_b U U) (c_run U (w_g U U U U) U (fun W H=>mv_bx (c:=true) U U (by exact hO)) ?_)
      refine c_run U (w_g U U U U) U (fun W H=>mv_b U U) (c_run U (w_g U U U U) U (fun W H=>d_not U U) (c_run U (w_g U U U U) U (fun W H=>d_pickT U U U) (c_run U (w_g U U U U) U (fun W H=>mv_bx (c:=false) U U (by rw [hA];rfl)) ?_)))
      refine cK U (wO U U U U U) U (c_run U (w_g U U U U) U (fun W H=>d_pickF U U U) (cR U (fun W H=>d_pickF U U U) (c_nil (kn (n_then ?_)))))
      refine ⟨_,_,U,?_,?_,⟨U,(H.sub (L':=[Fact.row 76 66 (.slice A9 (p++r).length c9) (p++r).length (zs++ys),Fact.els RBlock 66 S3 zs p,Fact.blk gq (qC As s.length cs pt hq iq) 29]) (by repeat (first|exact .refl _|exact List.nil_sublist _|refine .cons_cons _ ?_|refine .cons _ ?_)))⟩⟩
      ·with_reducible repeat first|exact .refl|refine .f ?_ ?_ ?_;kernel_rfl;kernel_rfl|refine .u ?_ ?_;kernel_rfl
      ·refine ⟨?_,trivial⟩
       ·exact U
     ·skip
      refine k_draw [(0,true),(1,true),(2,true),(3,true),(4,true),(5,true),(6,true),(7,true),(8,true),(9,true),(10,true),(11,true),(12,true),(13,true),(14,true),(15,true),(16,true),(17,true),(18,true),(19,true),(20,true),(21,true),(22,true),(23,true),(24,true),(25,true),(26,true),(27,true),(28,true),(29,true)] _ (by kernel_rfl) (by kernel_rfl) H (.refl _) ?_
      clear H;intro W H
      refine cR U (fun W H=>mv_b U U) (cR U (fun W H=>mv_bx (c:=false) U U (by rw [hA];rfl)) ?_)
      refine cK U (wO U U U U U) U (cK U (wO U U U U U) U (cK U (wO U U U U U) U (cK U (w_gu U U U U U) U (cK U (w_gu U U U U U) U (cK U (w_gu U U U U U) U (cK U (wO U U U U U) U (cR U (fun W H=>d_pickF U U U) (cR U (fun W H=>mv_bx (c:=false) U U (by rfl)) ?_))))))))
      refine c_run U (w_g U U U U) U (fun W H=>mv_b U U) (c_run U (w_g U U U U) U (fun W H=>mv_bx (c:=false) U U (by rw [hE];rfl)) ?_)
      refine cK U (wO U U U U U) U (cK U (wO U U U U U) U (cK U (wO U U U U U) U (cK U (wO U U U U U) U (cK U (wO U U U U U) U (c_run U (w_g U U U U) U (fun W H=>d_pickF U U U) (cR U (fun W H=>d_pickF U U U) (cR U (fun W H=>mv_bx (c:=false) U U (by rfl)) ?_)))))))
      refine c_run U (w_g U U U U) U (fun W H=>mv_b U U) (c_run U (w_g U U U U) U (fun W H=>mv_bx (c:=true) U U (by exact hO)) ?_)
      refine c_run U (w_g U U U U) U (fun W H=>mv_b U U) (c_run U (w_g U U U U) U (fun W H=>d_not U U) (c_run U (w_g U U U U) U (fun W H=>d_pickT U U U) (c_run U (w_g U U U U) U (fun W H=>mv_bx (c:=true) U U (by rw [hA];rfl)) ?_)))
      refine c_run U (w_g U U U U) U (fun W H=>mv_b U U) (c_run U (w_g U U U U) U (fun W H=>d_pickT U U U) (cR U (fun W H=>d_pickF U U U) (c_nil (kn (n_then ?_)))))
      refine ⟨_,_,U,?_,?_,⟨U,(H.sub (L':=[Fact.row 76 66 (.slice A9 (p++r).length c9) (p++r).length (zs++ys),Fact.els RBlock 66 S3 zs p,Fact.blk gq (qC As s.length cs pt hq iq) 29]) (by repeat (first|exact .refl _|exact List.nil_sublist _|refine .cons_cons _ ?_|refine .cons _ ?_)))⟩⟩
      ·with_reducible repeat first|exact .refl|refine .f ?_ ?_ ?_;kernel_rfl;kernel_rfl|refine .u ?_ ?_;kernel_rfl
      ·refine ⟨?_,trivial⟩
       ·exact vb (by rw [hE];rfl)
     ·skip
      refine k_draw [(0,true),(1,true),(2,true),(3,true),(4,true),(5,true),(6,true),(7,true),(8,true),(9,true),(10,true),(11,true),(12,true),(13,true),(15,true),(16,true),(14,false),(17,true),(18,true),(19,true),(20,true),(21,true),(22,true),(23,true),(24,true),(25,true),(26,true),(27,true),(28,true),(29,true)] _ (by kernel_rfl) (by kernel_rfl) H (.refl _) ?_
      clear H;intro W H
      refine cR U (fun W H=>mv_b U U) (cR U (fun W H=>mv_bx (c:=false) U U (by rw [hA];rfl)) ?_)
      refine cK U (wO U U U U U) U (cK U (wO U U U U U) U (cK U (wO U U U U U) U (cK U (w_gu U U U U U) U (cK U (w_gu U U U U U) U (cK U (w_gu U U U U U) U (cK U (wO U U U U U) U (cR U (fun W H=>d_pickF U U U) (cR U (fun W H=>mv_bx (c:=false) U U (by rfl)) ?_))))))))
      refine c_run U (w_g U U U U) U (fun W H=>mv_b U U) (c_run U (w_g U U U U) U (fun W H=>mv_bx (c:=true) U U (by rw [hE];rfl)) ?_)
      refine c_run U (w_g U U U U) U (fun W H=>d_arrA U U tu25 ts5) (c_run U (w_g U U U U) U (fun W H=>dF U U tf29_2) (c_run U (w_g U U U U) U (fun W H=>dM (g:=gq) (off:=34) U H (qc_h hp hh) (by rw [List.length_map];exact hh) U U U ta25 ts25) ?_))
      refine cf U (e_call (w_g U U U U) U U Tryz.func24 U U U (sumB _ (H.gl hB) (Wt.blk_bs (S:=fun _=>True) (H.blk (g:=g18)) U trivial len_secV (by decide)) (by rw [len_secV];decide)) ?_)
      rintro _ W ⟨rfl,hb⟩
      replace H:=H.below hb
      clear hb
      refine ⟨H.sb,?_⟩
      refine c_run U (w_g U U U U) U (fun W H=>d_nearr U U U tu25 tu5 ts5 (Old.Bl.len_sum _) hh (by kernel_rfl)) ?_
      refine c_run U (w_g U U U U) U (fun W H=>d_pickT U U U) (cR U (fun W H=>d_pickF U U U) (cR U (fun W H=>mv_bx (c:=false) U U (by rw [hE];show (!(Old.Bl.sum d == hq))=false;rw [hD];simp)) ?_))
      refine c_run U (w_g U U U U) U (fun W H=>mv_b U U) (c_run U (w_g U U U U) U (fun W H=>mv_bx (c:=false) U U (by exact hO)) ?_)
      refine cK U (wO U U U U U) U (cK U (wO U U U U U) U (c_run U (w_g U U U U) U (fun W H=>d_pickF U U U) (c_run U (w_g U U U U) U (fun W H=>mv_bx (c:=false) U U (by rfl)) ?_)))
      refine cK U (wO U U U U U) U (c_run U (w_g U U U U) U (fun W H=>d_pickF U U U) (cR U (fun W H=>d_pickF U U U) (c_nil (kn (n_then ?_)))))
      refine ⟨_,_,U,?_,?_,⟨U,(H.sub (L':=[Fact.row 76 66 (.slice A9 (p++r).length c9) (p++r).length (zs++ys),Fact.els RBlock 66 S3 zs p,Fact.blk gq (qC As s.length cs pt hq iq) 29]) (by repeat (first|exact .refl _|exact List.nil_sublist _|refine .cons_cons _ ?_|refine .cons _ ?_)))⟩⟩
      ·with_reducible repeat first|exact .refl|refine .f ?_ ?_ ?_;kernel_rfl;kernel_rfl|refine .u ?_ ?_;kernel_rfl
      ·refine ⟨?_,trivial⟩
       ·exact U
     ·skip
      refine k_draw [(0,true),(1,true),(2,true),(3,true),(4,true),(5,true),(6,true),(7,true),(8,true),(9,true),(10,true),(11,true),(12,true),(13,true),(14,true),(15,true),(16,true),(17,true),(18,true),(19,true),(20,true),(21,true),(22,true),(23,true),(24,true),(25,true),(26,true),(27,true),(28,true),(29,true)] _ (by kernel_rfl) (by kernel_rfl) H (.refl _) ?_
      clear H;intro W H
      refine cR U (fun W H=>mv_b U U) (cR U (fun W H=>mv_bx (c:=false) U U (by rw [hA];rfl)) ?_)
      refine cK U (wO U U U U U) U (cK U (wO U U U U U) U (cK U (wO U U U U U) U (cK U (w_gu U U U U U) U (cK U (w_gu U U U U U) U (cK U (w_gu U U U U U) U (cK U (wO U U U U U) U (cR U (fun W H=>d_pickF U U U) (cR U (fun W H=>mv_bx (c:=false) U U (by rfl)) ?_))))))))
      refine c_run U (w_g U U U U) U (fun W H=>mv_b U U) (c_run U (w_g U U U U) U (fun W H=>mv_bx (c:=false) U U (by rw [hE];rfl)) ?_)
      refine cK U (wO U U U U U) U (cK U (wO U U U U U) U (cK U (wO U U U U U) U (cK U (wO U U U U U) U (cK U (wO U U U U U) U (c_run U (w_g U U U U) U (fun W H=>d_pickF U U U) (cR U (fun W H=>d_pickF U U U) (cR U (fun W H=>mv_bx (c:=false) U U (by rfl)) ?_)))))))
      refine c_run U (w_g U U U U) U (fun W H=>mv_b U U) (c_run U (w_g U U U U) U (fun W H=>mv_bx (c:=false) U U (by exact hO)) ?_)
      refine cK U (wO U U U U U) U (cK U (wO U U U U U) U (c_run U (w_g U U U U) U (fun W H=>d_pickF U U U) (c_run U (w_g U U U U) U (fun W H=>mv_bx (c:=false) U U (by rfl)) ?_)))
      refine cK U (wO U U U U U) U (c_run U (w_g U U U U) U (fun W H=>d_pickF U U U) (cR U (fun W H=>d_pickF U U U) (c_nil (kn (n_then ?_)))))
      refine ⟨_,_,U,?_,?_,⟨U,(H.sub (L':=[Fact.row 76 66 (.slice A9 (p++r).length c9) (p++r).length (zs++ys),Fact.els RBlock 66 S3 zs p,Fact.blk gq (qC As s.length cs pt hq iq) 29]) (by repeat (first|exact .refl _|exact List.nil_sublist _|refine .cons_cons _ ?_|refine .cons _ ?_)))⟩⟩
      ·with_reducible repeat first|exact .refl|refine .f ?_ ?_ ?_;kernel_rfl;kernel_rfl|refine .u ?_ ?_;kernel_rfl
      ·refine ⟨?_,trivial⟩
       ·exact U
    clear H;obtain ⟨rfl,H⟩:=hJ
    refine kF U U (kS (kR (sMs U (sFa U tf29_3 (sR (dM (g:=gq) (off:=66) U H (qc_i hp hh hi_) (by rw [List.length_map];exact hi_) U U U ta25 ts25) ?_)))))
    refine sf (eI Tryz.func19 U U (depthP _ (keeps_L keeps_Block _ _ _ _ _ hl (fun g hg _=>H.fr.block g hg (fun h=>h))) (H.gat hG) (H.gl hB) hi_) H ?_)
    clear H;intro W H
    refine sAi U (ln (kQ ?_))
    have hdb:=Wt.depth_le (ID:=(Tx.dig Tx.tTx)) (p:=p) (id:=iq)
    rcases Int.decEq (Wt.depth (Tx.dig Tx.tTx) p iq) 0 with hd0|hd0
    ·obtain ⟨hd1,hd2⟩:=Wt.depth_some (ID:=(Tx.dig Tx.tTx)) (p:=p) (r:=r) (id:=iq) hd0
     refine kr (sMi U (sEq U U (sBf U (by simp;omega) (sr (w_g U U U U) U (mv_s U U) (sr (w_g U U U U) U (dF U U tf29_3) (sr (w_g U U U U) U (dM (g:=gq) (off:=66) U H (qc_i hp hh hi_) (by rw [List.length_map];exact hi_) U U U ta25 ts25) ?_))))))
     refine sf (e_call (w_g U U U U) U U Tryz.func19 U U U (depthP (p:=p++r) _ (rl_long (S3:=S3) (S2:=S2) (H.get (f:=Fact.row 76 66 (.slice A9 (p++r).length c9) (p++r).length (zs++ys))) (H.get (f:=Fact.els RBlock 66 S3 zs p)) (fun i x hx=>keeps_Block _ _ _ _ _ (hel2 i x hx) (fun g hg _=>H.fr.block g hg (fun h=>h))) ⟨hc9,hd9⟩) (H.gat hG) (H.gl hB) hi_) ?_)
     rintro _ W ⟨rfl,hb⟩
     replace H:=H.below hb
     clear hb
     refine sr (w_g U U U U) U (mv_i U U) (sr (w_g U U U U) U (mv_i U U) (sr (w_g U U U U) U (d_add U U U (by omega)) (sr (w_g U U U U) U (d_eq U U U) (sPF U U (sBt U (by simp;omega) (sr (w_g U U U U) U (mv_i U U) (sr (w_g U U U U) U (d_gt U U U) (sr (w_g U U U U) U (mv_bx (c:=true) U U (by simp;omega)) (sK (wO U U U U U) U (sK (wO U U U U U) U (sK (wO U U U U U) U (sK (wO U U U U U) U ?_))))))))))))
     refine sK (wO U U U U U) U (sK (wO U U U U U) U (sr (w_g U U U U) U (d_pickT U U U) (sPT U U (sBt U (by rfl) ?_))))
     refine sf (e_call (w_g U U U U) U U Tryz.func6 U U U (works13 _ (H.gat hG) (H.gl hB)) ?_)
     rintro _ W ⟨rfl,hb⟩
     replace H:=H.below hb
     clear hb
     refine sPT U U (sAb U (ln (kx ?_)))
     exact qr (v:=.bool _) U U ⟨_,U,vb (U),H.under⟩
    ·have hd1:=Wt.depth_none (ID:=(Tx.dig Tx.tTx)) (p:=p) (r:=r) (id:=iq) hd0
     refine kr (sMi U (sEq U U (sBt U (by simp;omega) (sK (wO U U U U U) U (sK (wO U U U U U) U (sK (wO U U U U U) U (sK (wO U U U U U) U (sK (wO U U U U U) U (sK (wO U U U U U) U (sK (wO U U U U U) U (sK (wO U U U U U) U (sPT U U ?_))))))))))))
     refine sBt U (by rfl) ?_
     refine sr (w_g U U U U) U (mv_i U U) (sr (w_g U U U U) U (d_gt U U U) (sr (w_g U U U U) U (mv_bx (c:=false) U U (by simp;omega)) (sr (w_g U U U U) U (mv_s U U) (sr (w_g U U U U) U (dF U U tf29_3) (sr (w_g U U U U) U (dM (g:=gq) (off:=66) U H (qc_i hp hh hi_) (by rw [List.length_map];exact hi_) U U U ta25 ts25) ?_)))))
     refine sf (e_call (w_g U U U U) U U Tryz.func19 U U U (depthP (p:=p++r) _ (rl_long (S3:=S3) (S2:=S2) (H.get (f:=Fact.row 76 66 (.slice A9 (p++r).length c9) (p++r).length (zs++ys))) (H.get (f:=Fact.els RBlock 66 S3 zs p)) (fun i x hx=>keeps_Block _ _ _ _ _ (hel2 i x hx) (fun g hg _=>H.fr.block g hg (fun h=>h))) ⟨hc9,hd9⟩) (H.gat hG) (H.gl hB) hi_) ?_)
     rintro _ W ⟨rfl,hb⟩
     replace H:=H.below hb
     clear hb
     refine sr (w_g U U U U) U (mv_i U U) (sr (w_g U U U U) U (d_le U U U) (sr (w_g U U U U) U (d_pickF U U U) (sPT U U (sBt U (by simp;omega) (sf (e_call (w_g U U U U) U U Tryz.func6 U U U (works13 _ (H.gat hG) (H.gl hB)) ?_))))))
     rintro _ W ⟨rfl,hb⟩
     replace H:=H.below hb
     clear hb
     refine sPT U U (sAb U (ln (kx ?_)))
     exact qr (v:=.bool _) U U ⟨_,U,vb (U),H.under⟩
end Go.Proofs.YtjjodibkmeefpaaGreatDoor
