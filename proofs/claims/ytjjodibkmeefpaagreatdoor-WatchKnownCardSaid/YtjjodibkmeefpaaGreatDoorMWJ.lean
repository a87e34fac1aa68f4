import Derived.Test.YtjjodibkmeefpaaGreatDoorMWG
import Derived.Test.YtjjodibkmeefpaaGreatDoorMWD
import Derived.Test.YtjjodibkmeefpaaGreatDoorMV
import Derived.Test.YtjjodibkmeefpaaGreatDoorMWI
set_option linter.unusedVariables false
set_option linter.unusedSimpArgs false
set_option maxHeartbeats 4000000

namespace Go.Proofs.YtjjodibkmeefpaaGreatDoor
open Go Go.RowKit
attribute [local irreducible] wpList

theorem St.add5 {T:Nat->Prop} {w0 W W':World} {L:List Fact} {f f' f2 f3 f4:Fact} (H:St T w0 W L) (K:St nT W W' [f,f',f2,f3,f4]):St T w0 W' (f::f'::f2::f3::f4::L):=H.add K

theorem copyTxs1 {S:Nat->Prop} {A:Option Addr} {c:Nat} {t:DTx} (w:World) (hl:RL 3 RTx w S [.slice A 1 c] [t]) (hf:Tx.Fits t):Calls Tryz.prog 51 [.slice A 1 c].toArray w (Ret (fun v' w'=>∃A3 c3 Ai ci Bi di xs ys S0 S1,v'=.slice A3 1 c3∧St nT w w' [Fact.row 47 3 (.slice A3 1 c3) 1 (txC Ai t.ins.length ci Bi t.outs.length di t.lock),Fact.row 71 34 (.slice Ai t.ins.length ci) t.ins.length xs,Fact.els RIn 34 S0 xs t.ins,Fact.row 41 2 (.slice Bi t.outs.length di) t.outs.length ys,Fact.els ROut 2 S1 ys t.outs])):=by
 obtain ⟨A_,c_,zs,hv_,-,-,hr,hel⟩:=hl
 cases hv_
 have hlt:0<1:=by decide
 obtain ⟨g0,o0,rfl,-⟩:=hr.2 Nat.one_pos
 have hRt:=hel 0 t rfl
 obtain ⟨Aa,ca,Ba,da,hL,-,-,hkt⟩:=tx_of hRt
 rw [hL] at hRt
 refine kE (l:=[_]) Tryz.func51 U U ?_
 have H:=St.start nT w
 refine kR (sAs U (lkR (sAs U (ln (kQ (kR (sAi U (ln (kb (k_unr (ko ?_)))))))))))
 refine kQ (kR (sMi U (sMs U (sLn U tu74 (sLt U U (ln (kT U (by rfl) ?_)))))))
 refine kS (kQ (kb ?_))
 replace H:=H.nilrow 47 3
 refine kr (sMs U (sMs U (sMi U (sR (dG U (H.rd hr) U U (q:=0) U hlt tu74 ts47) (sR (dN (off:=0) U (H.rd hr) hlt hL (sa (a:=txC Aa t.ins.length ca Ba t.outs.length da t.lock) (m:=3) U) U U (by omega) ta47 ts47) (sf (ecl Tryz.func40 U U (copyTx _ (keeps_Tx _ _ _ _ _ hRt (fun g hg _=>H.fr.block g hg (fun h=>h))) hf) ?_)))))))
 rintro _ W hs_
 obtain ⟨Ai,ci,Bi,di,xs,ys,S0,S1,rfl,-,-,hn_⟩:=hs_
 replace H:=H.add4 hn_
 clear hn_
 refine sf (ebs (xs:=[.tmp 16]) (vals:=[.agg (txC Ai t.ins.length ci Bi t.outs.length di t.lock).toArray]) (vs:=(txC Ai t.ins.length ci Bi t.outs.length di t.lock)) U U U U tu74 ts47 ty47 U (by simp [agg_cells,txC]) (by simp [agg_cells]) H ?_)
 clear H;intro g5_6 W H
 refine sf (eap tu74 tx47 U U U H (rd_blk (m:=1) H.blk U) (U) (by omega) U ?_)
 clear H;intro A7 c7 W hc7 hd7 H
 replace H:=H.drop
 refine sAs U (ln (kn (zE (kI U U U (by omega) U (kn (kY (hd_of (ko ?_))))))))
 refine kQ (kR (sMi U (sMs U (sLn U tu74 (sLt U U (ln (kF U (by rfl) ?_)))))))
 refine ke (xQ (xQ ?_))
 refine xH (kR (sMs U (sAs U (ln (kx ?_)))))
 exact qr (v:=.slice _ _ _) U U ⟨_,U,A7,c7,Ai,ci,Bi,di,xs,ys,S0,S1,U,H.perm (List.perm_middle (l₁:=[_,_,_,_]) (l₂:=[]))⟩

theorem copyBlock1 {S:Nat->Prop} {A:Option Addr} {c:Nat} {h:DHeader} {t:DTx} (w:World) (hl:RL 3 RTx w S [.slice A 1 c] [t]) (hh:Bk.OkH h) (hf:Tx.Fits t):Calls Tryz.prog 30 [.agg (bC h A 1 c).toArray].toArray w (Ret (fun v' w'=>∃A3 c3 Ai ci Bi di xs ys S0 S1,v'=.agg (bC h A3 1 c3).toArray∧St nT w w' [Fact.row 47 3 (.slice A3 1 c3) 1 (txC Ai t.ins.length ci Bi t.outs.length di t.lock),Fact.row 71 34 (.slice Ai t.ins.length ci) t.ins.length xs,Fact.els RIn 34 S0 xs t.ins,Fact.row 41 2 (.slice Bi t.outs.length di) t.outs.length ys,Fact.els ROut 2 S1 ys t.outs])):=by
 refine kE (l:=[_]) Tryz.func30 U U ?_
 have H:=St.start nT w
 refine kR (sf (ebx (vs:=(bC h A 1 c)) U U H ?_))
 clear H;intro gb W H
 refine sf (eal (bC zHd none 0 0) tz76 H ?_)
 clear H;intro go W H
 refine ln (kQ (k_draw [(0,true),(1,true),(2,true),(3,true),(4,false),(5,true),(6,false)] [Fact.blk gb (bC h A 1 c) 76] (by kernel_rfl) (by kernel_rfl) H (by repeat (first|exact .refl _|exact List.nil_sublist _|refine .cons_cons _ ?_|refine .cons _ ?_)) ?_))
 clear H;intro W H
 refine cFa U U tf76_0 (cR U (fun W H=>dM (g:=gb) (off:=0) U H (sub_b_hdr hh) (len_hdr hh) U U U ta73 ts73) (cFa U U tf76_1 (cR U (fun W H=>dX (g:=gb) (off:=65) U H (sub_b_txs hh) U U ta74) (cf U (ecl Tryz.func51 U U (copyTxs1 _ (keeps_L keeps_Tx _ _ _ _ _ hl (fun g hg _=>H.fr.block g hg (fun h=>h))) hf) ?_)))))
 rintro _ W ⟨A3,c3,Ai,ci,Bi,di,xs,ys,S0,S1,rfl,hn3⟩
 replace H:=H.add5 hn3
 clear hn3
 refine ⟨H.sb,?_⟩
 refine cR U (fun W H=>dB (vs:=bC h A3 1 c3) U (built_fields (places:=[(0,65),(65,1)]) tz76 (by kernel_rfl) (by kernel_rfl) (fN (vs:=hdrC h) (.agg (hdrC h).toArray) U U U (len_hdr hh) (Nat.le_of_ble_eq_true U) (fN (vs:=[.slice A3 1 c3]) (.slice A3 1 c3) U (by first|(simp [(len_hdr hh)];done)|(simp [(len_hdr hh)];omega)) U U (Nat.le_of_ble_eq_true U) (fill_end (by rw [List.drop_drop,List.drop_of_length_le (by rw [lB zHd_ok];exact Nat.le_refl _)];simp [bC])))))) ?_
 refine cf U (esk (bC h A3 1 c3) U U U ts76 (lB hh) blk_one H (by rw [lB zHd_ok];decide) (spl_all ((lB hh).trans (lB zHd_ok).symm)) ?_)
 clear H;intro W H
 refine ⟨H.sb,?_⟩
 refine c_nil (kx ?_)
 refine q_retc U (c:=bC h A3 1 c3) (g:=go) H U ta76 (by rw [lB hh];exact ts76) ⟨_,U,A3,c3,Ai,ci,Bi,di,xs,ys,S0,S1,U,?_⟩
 exact H.sub (L':=[Fact.row 47 3 (.slice A3 1 c3) 1 (txC Ai t.ins.length ci Bi t.outs.length di t.lock),Fact.row 71 34 (.slice Ai t.ins.length ci) t.ins.length xs,Fact.els RIn 34 S0 xs t.ins,Fact.row 41 2 (.slice Bi t.outs.length di) t.outs.length ys,Fact.els ROut 2 S1 ys t.outs]) (by repeat (first|exact .refl _|exact List.nil_sublist _|refine .cons_cons _ ?_|refine .cons _ ?_))

theorem copyEx {S:Nat->Prop} {A:Option Addr} {c:Nat} (w:World) (hl:RL 66 RBlock w S [.slice A 3 c] Ex.path):Calls Tryz.prog 7 [.slice A 3 c].toArray w (Ret (fun v' w'=>∃A8 c8 A5 c5 S5 A6 c6 S6 A3 c3 Ai ci Bi di xs ys S0 S1,v'=.slice A8 3 c8∧(3<=c8∧c8<=9223372036854775807)∧St nT w w' [Fact.row 76 66 (.slice A8 3 c8) 3 (bC zHd A5 0 c5++(bC zHd A6 1 c6++bC zHd A3 1 c3)),Fact.rep (RL 3 RTx) S5 [.slice A5 0 c5] [],Fact.rep (RL 3 RTx) S6 [.slice A6 1 c6] [Ex.t],Fact.row 47 3 (.slice A3 1 c3) 1 (txC Ai Ex.u.ins.length ci Bi Ex.u.outs.length di Ex.u.lock),Fact.row 71 34 (.slice Ai Ex.u.ins.length ci) Ex.u.ins.length xs,Fact.els RIn 34 S0 xs Ex.u.ins,Fact.row 41 2 (.slice Bi Ex.u.outs.length di) Ex.u.outs.length ys,Fact.els ROut 2 S1 ys Ex.u.outs])):=by
 obtain ⟨A_,c_,zs,hv_,-,-,hr,hel⟩:=hl
 cases hv_
 replace hr:Rd w S 66 A 3 zs:=hr
 have hl0:0<3:=by decide
 have hl1:1<3:=by decide
 have hl2:2<3:=by decide
 obtain ⟨g0,o0,rfl,-⟩:=hr.2 (by decide)
 obtain ⟨Ab,cb,hLb,hTb,hh⟩:=blk_of (hel 0 ⟨zHd,[]⟩ rfl)
 obtain ⟨Ad,cd,hLd,hTd,-⟩:=blk_of (hel 1 ⟨zHd,[Ex.t]⟩ rfl)
 obtain ⟨Ae,ce,hLe,hTe,-⟩:=blk_of (hel 2 ⟨zHd,[Ex.u]⟩ rfl)
 dsimp only at hLb hTb hh hLd hTd hLe hTe
 have hft:Tx.Fits Ex.t:=(Ex.fit ⟨zHd,[Ex.t]⟩ (.tail _ (.head _)) Ex.t (.head _)).1
 have hfu:Tx.Fits Ex.u:=(Ex.fit ⟨zHd,[Ex.u]⟩ (.tail _ (.tail _ (.head _))) Ex.u (.head _)).1
 refine kE (l:=[_]) Tryz.func7 U U ?_
 have H:=St.start nT w
 refine kR (sAs U (lkR (sAs U (ln (kQ (kR (sAi U (ln (kb (k_unr (ko ?_)))))))))))
 refine kQ (kR (sMi U (sMs U (sLn U tu22 (sLt U U (ln (kT U (by rfl) ?_)))))))
 refine kS (kQ (kb ?_))
 replace H:=H.nilrow 76 66
 refine kr (sMs U (sMs U (sMi U (sR (dG (q:=0) U (H.rd hr) U U U hl0 tu22 ts76) (sR (dN (off:=0) (q:=0) U (H.rd hr) hl0 hLb (sa (lB hh)) U U U ta76 ts76) (sf (ecl Tryz.func30 U U (copyBlock (b:=⟨zHd,[]⟩) _ (keeps_L keeps_Tx _ _ _ _ _ hTb (fun g hg _=>H.fr.block g hg (fun h=>h))) hh (by decide) (fun t ht=>by cases ht)) ?_)))))))
 rintro _ W ⟨S5,A5,c5,rfl,hn3⟩
 replace H:=H.add1 hn3
 clear hn3
 refine sf (ebs (xs:=[.tmp 16]) (vals:=[.agg (bC zHd A5 0 c5).toArray]) (vs:=(bC zHd A5 0 c5)) U U U U tu22 ts76 ty76 U (by simp [agg_cells,lB hh]) (by simp [agg_cells]) H ?_)
 clear H;intro g5_6 W H
 refine sf (eap tu22 tx76 U U U H (rd_blk (m:=1) H.blk (lB hh)) (blk_one) (by omega) U ?_)
 clear H;intro A7 c7 W hc7 hd7 H
 replace H:=H.drop
 refine sAs U (ln (kn (zE (kI U U U (by omega) U (kn (kY (hd_of (ko ?_))))))))
 refine kQ (kR (sMi U (sMs U (sLn U tu22 (sLt U U (ln (kT U (by rfl) ?_)))))))
 refine kS (kQ (kb ?_))
 skip
 refine kr (sMs U (sMs U (sMi U (sR (dG (q:=1) U (H.rd hr) U U U hl1 tu22 ts76) (sR (dN (off:=0) (q:=1) U (H.rd hr) hl1 hLd (sa (lB hh)) U U U ta76 ts76) (sf (ecl Tryz.func30 U U (copyBlock (b:=⟨zHd,[Ex.t]⟩) _ (keeps_L keeps_Tx _ _ _ _ _ hTd (fun g hg _=>H.fr.block g hg (fun h=>h))) hh (by decide) (fun t ht=>by rw [List.mem_singleton.1 ht];exact hft)) ?_)))))))
 rintro _ W ⟨S6,A6,c6,rfl,hn3⟩
 replace H:=H.add1 hn3
 clear hn3
 refine sf (ebs (xs:=[.tmp 16]) (vals:=[.agg (bC zHd A6 1 c6).toArray]) (vs:=(bC zHd A6 1 c6)) U U U U tu22 ts76 ty76 U (by simp [agg_cells,lB hh]) (by simp [agg_cells]) H ?_)
 clear H;intro g5_6 W H
 refine sf (eap tu22 tx76 U U U H (rd_blk (m:=1) H.blk (lB hh)) (blk_one) (by omega) U ?_)
 clear H;intro A9 c9 W hc9 hd9 H
 replace H:=H.drop
 refine sAs U (ln (kn (zE (kI U U U (by omega) U (kn (kY (hd_of (ko ?_))))))))
 refine kQ (kR (sMi U (sMs U (sLn U tu22 (sLt U U (ln (kT U (by rfl) ?_)))))))
 refine kS (kQ (kb ?_))
 skip
 refine kr (sMs U (sMs U (sMi U (sR (dG (q:=2) U (H.rd hr) U U U hl2 tu22 ts76) (sR (dN (off:=0) (q:=2) U (H.rd hr) hl2 hLe (sa (lB hh)) U U U ta76 ts76) (sf (ecl Tryz.func30 U U (copyBlock1 _ (keeps_L keeps_Tx _ _ _ _ _ hTe (fun g hg _=>H.fr.block g hg (fun h=>h))) hh hfu) ?_)))))))
 rintro _ W ⟨A3,c3,Ai,ci,Bi,di,xs,ys,S0,S1,rfl,hn3⟩
 replace H:=H.add5 hn3
 clear hn3
 refine sf (ebs (xs:=[.tmp 16]) (vals:=[.agg (bC zHd A3 1 c3).toArray]) (vs:=(bC zHd A3 1 c3)) U U U U tu22 ts76 ty76 U (by simp [agg_cells,lB hh]) (by simp [agg_cells]) H ?_)
 clear H;intro g5_6 W H
 refine sf (eap tu22 tx76 U U U H (rd_blk (m:=1) H.blk (lB hh)) (blk_one) (by omega) U ?_)
 clear H;intro A8 c8 W hc8 hd8 H
 replace H:=H.drop
 refine sAs U (ln (kn (zE (kI U U U (by omega) U (kn (kY (hd_of (ko ?_))))))))
 refine kQ (kR (sMi U (sMs U (sLn U tu22 (sLt U U (ln (kF U (by rfl) ?_)))))))
 refine ke (xQ (xQ ?_))
 refine xH (kR (sMs U (sAs U (ln (kx ?_)))))
 refine qr (v:=.slice _ _ _) U U ⟨_,U,A8,c8,A5,c5,S5,A6,c6,S6,A3,c3,Ai,ci,Bi,di,xs,ys,S0,S1,U,⟨hc8,hd8⟩,?_⟩
 rw [List.nil_append,List.append_assoc] at H
 exact H.pm
end Go.Proofs.YtjjodibkmeefpaaGreatDoor

namespace Go.Proofs.YtjjodibkmeefpaaGreatDoor
open Go Go.RowKit

theorem cnt {d:Array Bool} {i:Nat} (h:d.getD i true=false):0<d.toList.count false∧(d.setIfInBounds i true).toList.count false+1<=d.toList.count false:=by
 have hi:i<d.size:=by
  rcases Nat.lt_or_ge i d.size with h'|h'
  ·exact h'
  ·simp [Array.getElem?_eq_none h'] at h
 have hv:d[i]=false:=by simpa [hi] using h
 have hv2:d.toList[i]'(by simpa using hi)=false:=by simpa using hv
 have hm:false∈d.toList:=by rw [←hv2];exact List.getElem_mem _
 have h0:0<d.toList.count false:=List.count_pos_iff.2 hm
 refine ⟨h0,?_⟩
 rw [Array.toList_setIfInBounds,List.count_set (by simpa using hi),hv2,if_pos (show (false == false)=true from rfl),if_neg (show ¬(true == false)=true by decide)]
 omega
section
variable {P:Program} {ops:Array Oper} {Q:Exit->Act->World->Prop}
theorem wpOp_step {i:Nat} {o:Oper} {a:Act} {W:World} {K:Act->World->Prop} (hi:ops[i]?=some o) (h:Step P ops Q o a W K):wpOp P ops Q i K a W:=by
 unfold wpOp
 simp only [hi]
 rw [if_pos h.1]
 exact .inl h.2
theorem wpAny_inv {md:Region.Mode} (J:Array Bool->Act->World->Prop) (hs:∀d a W i,J d a W->i∈Region.ready md ops d->wpOp P ops Q i (fun a' w'=>J (d.setIfInBounds i true) a' w') a W) (he:∀d a W,J d a W->d.size=ops.size->Region.ready md ops d=[]->Q .normal a W):∀(fuel:Nat) (d:Array Bool) (a:Act) (W:World),d.size=ops.size->d.toList.count false<=fuel->J d a W->wpAny P md ops Q fuel d a W
 | 0,d,a,W,hd,hc,hJ=>by
  have hr:Region.ready md ops d=[]:=by
   rcases hq:Region.ready md ops d with _|⟨i,l⟩
   ·rfl
   ·have hi:i∈Region.ready md ops d:=by rw [hq];exact .head _
    have:=(cnt (mem_ready.1 hi).1).1
    omega
  exact ⟨hr,he _ _ _ hJ hd hr⟩
 | fuel+1,d,a,W,hd,hc,hJ=>⟨fun hr=>he _ _ _ hJ hd hr,fun i hi=>wpOp_mono (fun a' w' h'=>wpAny_inv J hs he fuel _ a' w' (by simpa using hd) (by have:=(cnt (mem_ready.1 hi).1).2;omega) h') (hs _ _ _ _ hJ hi)⟩
end
section
variable {P:Program} {Q:Exit->Act->World->Prop} {cs:List Code} {n:Nat} {ρ:Nat->Value} {ds:List Deferred} {w w0:World} {T:Nat->Prop} {L:List Fact}
theorem k_drawJ {id:Nat} {l:List Oper} (J:Array Bool->Act->World->Prop) (hm:P.follows .mixedOrders=true) (H:St T w0 w L) (h0:∀W,St T w0 W L->J (Array.replicate l.toArray.size false) (st n ρ ds) W) (hs:∀d a W i,J d a W->i∈Region.ready .any l.toArray d->wpOp P l.toArray (Exit.then (wpK P Q cs) Q) i (fun a' w'=>J (d.setIfInBounds i true) a' w') a W) (he:∀d a W,J d a W->d.size=l.toArray.size->Region.ready .any l.toArray d=[]->wpK P Q cs a W):wpK P Q (.region id l.toArray true::cs) (st n ρ ds) w :=
 wp_region_any hm (wpAny_inv J hs (fun d a W h1 h2 h3=>he d a W h1 h2 h3) _ _ _ _ (by simp) (by simp) (h0 _ H.drew))
end
theorem waits_of {md:Region.Mode} {ops:Array Oper} {d:Array Bool} {i:Nat} {o:Oper} (h:i∈Region.ready md ops d) (ho:ops[i]?=some o):d.getD i true=false∧(o.after.toList.all fun e=>!Region.binds md e || d.getD e.on false)=true:=by
 obtain ⟨h0,o',ho',hd⟩:=mem_ready.1 h
 rw [ho] at ho'
 cases ho'
 refine ⟨h0,List.all_eq_true.2 (fun e he=>?_)⟩
 cases hb:Region.binds md e with
 | false=>rfl
 | true=>simpa using hd e (by simpa using he) hb
end Go.Proofs.YtjjodibkmeefpaaGreatDoor

namespace Go.Proofs.YtjjodibkmeefpaaGreatDoor
open Go Go.RowKit
attribute [local irreducible] wpList

def scrL:Nat->List UInt8
 | 0=>[5,6]
 | 1=>[]
 | 2=>[5]
 | _=>[5,6,7]
def scrN (k:Nat):Nat:=(scrL k).length
def scrA (k g0 g1 g2:Nat):Option Addr:=match k with
 | 0=>some ⟨g0,0,none⟩
 | 1=>none
 | 2=>some ⟨g1,0,none⟩
 | _=>some ⟨g2,0,none⟩
def Oat (l:List Oper) (i:Nat) (d:Option Tmp) (op:Op) (deps:List Nat):Prop:=∃o,l.toArray[i]?=some o∧o.guard=none∧o.dst=d∧o.op=op∧(deps.all fun j=>o.after.toList.any fun e=>Nat.beq e.on j && Region.binds .any e)=true
theorem Oat.up {l:List Oper} {i:Nat} {d:Option Tmp} {op:Op} {deps:List Nat} {b:Array Bool} (h:Oat l i d op deps) (hr:i∈Region.ready .any l.toArray b):b.getD i true=false∧∀j∈deps,b.getD j false=true:=by
 obtain ⟨o,ho,_,_,_,hd⟩:=h
 obtain ⟨h0,hw⟩:=waits_of hr ho
 refine ⟨h0,fun j hj=>?_⟩
 obtain ⟨e,he,h1⟩:=List.any_eq_true.1 (List.all_eq_true.1 hd j hj)
 rw [Bool.and_eq_true] at h1
 have h2:=List.all_eq_true.1 hw e he
 rw [h1.2] at h2
 rw [←Nat.eq_of_beq_eq_true h1.1]
 simpa using h2
theorem gset {b:Array Bool} {i:Nat} (h:b.getD i true=false):(b.setIfInBounds i true).getD i false=true∧b.getD i false=false:=by
 have hi:i<b.size:=by
  rcases Nat.lt_or_ge i b.size with h'|h'
  ·exact h'
  ·simp [Array.getElem?_eq_none h'] at h
 refine ⟨by simp [hi],?_⟩
 have hv:b[i]=false:=by simpa [hi] using h
 simp [hi,hv]
theorem gne {b:Array Bool} {i j:Nat} (hij:Nat.beq i j=false):(b.setIfInBounds i true).getD j false=b.getD j false:=getD_set_ne false (fun e=>by subst e;simp at hij)
theorem all_up {l:List Oper} {b:Array Bool} (hlt:(l.zipIdx.all fun x=>x.1.after.toList.all fun e=>Nat.blt e.on x.2)=true) (hs:b.size=l.toArray.size) (hr:Region.ready .any l.toArray b=[]):∀(m i:Nat),i<m->i<l.length->b.getD i false=true
 | 0,_,h,_=>absurd h (by omega)
 | m+1,i,h,hl=>by
  cases hb:b.getD i false with
  | true=>rfl
  | false =>
   have hi:i∈Region.ready .any l.toArray b:=by
    refine mem_ready.2 ⟨?_,l[i],by simp [hl],fun e he _=>?_⟩
    ·have hi2:i<b.size:=by rw [hs];simpa using hl
     simp only [Array.getD_eq_getD_getElem?,Array.getElem?_eq_getElem hi2,Option.getD_some] at hb ⊢
     exact hb
    ·have h1:=List.all_eq_true.1 hlt (l[i],i) (by rw [List.mem_zipIdx_iff_getElem?];simp [hl])
     have h2:=List.all_eq_true.1 h1 e (by simpa using he)
     have h3:e.on<i:=by simpa using h2
     exact all_up hlt hs hr m e.on (by omega) (by omega)
   rw [hr] at hi
   cases hi
def Fx (b0 b1 b2 b3:Bool) (g0 g1 g2 g3:Nat) (W:World):Prop:=(b0=true->W.heap[g0]?=some (.cells ([Value.int .u8 5,.int .u8 6]).toArray 5 (0,0)))∧(b1=true->W.heap[g1]?=some (.cells ([Value.int .u8 5]).toArray 5 (0,0)))∧(b2=true->W.heap[g2]?=some (.cells ([Value.int .u8 5,.int .u8 6,.int .u8 7]).toArray 5 (0,0)))∧(b3=true->W.heap[g3]?=some (.cells ([Value.slice (some ⟨g0,0,none⟩) 2 2,.slice none 0 0,.slice (some ⟨g1,0,none⟩) 1 1,.slice (some ⟨g2,0,none⟩) 3 3]).toArray 23 (0,0)))
def FxS (b0 b1 b2 b3:Bool) (g0 g1 g2 g3 g:Nat):Prop:=(b0=true∧g=g0)∨(b1=true∧g=g1)∨(b2=true∧g=g2)∨(b3=true∧g=g3)
def Fact.fx (b0 b1 b2 b3:Bool) (g0 g1 g2 g3:Nat):Fact:=⟨FxS b0 b1 b2 b3 g0 g1 g2 g3,Fx b0 b1 b2 b3 g0 g1 g2 g3,fun _ _ h k=>⟨fun e=>(k _ (.inl ⟨e,rfl⟩)).trans (h.1 e),fun e=>(k _ (.inr (.inl ⟨e,rfl⟩))).trans (h.2.1 e),fun e=>(k _ (.inr (.inr (.inl ⟨e,rfl⟩)))).trans (h.2.2.1 e),fun e=>(k _ (.inr (.inr (.inr ⟨e,rfl⟩)))).trans (h.2.2.2 e)⟩⟩
structure Sl9 (k gi go g0 g1 g2 g3 g7:Nat) (b:Array Bool) (ρ:Nat->Value):Prop where
 a0:b.getD 0 false=true->ρ 26=.slice (some ⟨g0,0,none⟩) 2 2
 a1:b.getD 1 false=true->ρ 27=.slice (some ⟨g1,0,none⟩) 1 1
 a2:b.getD 2 false=true->ρ 28=.slice (some ⟨g2,0,none⟩) 3 3
 a3:b.getD 3 false=true->ρ 29=.slice (some ⟨g3,0,none⟩) 4 4
 a4:b.getD 4 false=true->ρ 30=.int .i64 (k:Int)
 a5:b.getD 5 false=true->ρ 31=.pointer (some ⟨g3,0+k*1,none⟩)
 a6:b.getD 6 false=true->ρ 32=.slice (scrA k g0 g1 g2) (scrN k) (scrN k)
 a7:b.getD 7 false=true->ρ 33=.agg (txC (some ⟨gi,0,none⟩) 1 1 (some ⟨go,0,none⟩) 2 2 0).toArray
 a8:b.getD 8 false=true->ρ 34=.agg ((Tx.dig Tx.tTx Ex.t).map u8v).toArray
 a9:b.getD 9 false=true->ρ 35=.int .i64 (k:Int)
 a10:b.getD 10 false=true->ρ 36=.agg (pointC (⟨(Tx.dig Tx.tTx Ex.t),(k:Int)⟩:DPoint)).toArray
 a11:b.getD 11 false=true->ρ 37=.agg ((Old.Bl.sum Ex.x).map u8v).toArray
 a12:b.getD 12 false=true->ρ 38=.agg (txC (some ⟨gi,0,none⟩) 1 1 (some ⟨go,0,none⟩) 2 2 0).toArray
 a13:b.getD 13 false=true->ρ 39=.agg ((Tx.dig Tx.tTx Ex.t).map u8v).toArray
 a14:b.getD 14 false=true->ρ 40=.agg (qC (scrA k g0 g1 g2) (scrN k) (scrN k) (⟨(Tx.dig Tx.tTx Ex.t),(k:Int)⟩:DPoint) (Old.Bl.sum Ex.x) (Tx.dig Tx.tTx Ex.t)).toArray
 a15:b.getD 15 false=true->ρ 7=.pointer (some ⟨g7,0,none⟩)
 p3:b.getD 3 false=true->b.getD 0 false=true∧b.getD 1 false=true∧b.getD 2 false=true
 p5:b.getD 5 false=true->b.getD 3 false=true
 p6:b.getD 6 false=true->b.getD 5 false=true
 p14:b.getD 14 false=true->b.getD 6 false=true
 p16:b.getD 16 false=true->b.getD 15 false=true
 r16:b.getD 16 false=true->b.getD 14 false=true
theorem sl9_0 {k gi go g0 g1 g2 g3 g7:Nat} {g:Nat} {b:Array Bool} {ρ:Nat->Value} (S:Sl9 k gi go g0 g1 g2 g3 g7 b ρ) (h0:b.getD 0 true=false) (hd:∀j∈([]:List Nat),b.getD j false=true):Sl9 k gi go g g1 g2 g3 g7 (b.setIfInBounds 0 true) (upd ρ 26 (.slice (some ⟨g,0,none⟩) 2 2)) :=
 ⟨fun _=>rfl,
 fun h=>S.a1 (by rw [gne (i:=0) (j:=1) rfl] at h;exact h),
 fun h=>S.a2 (by rw [gne (i:=0) (j:=2) rfl] at h;exact h),
 fun h=>S.a3 (by rw [gne (i:=0) (j:=3) rfl] at h;exact h),
 fun h=>S.a4 (by rw [gne (i:=0) (j:=4) rfl] at h;exact h),
 fun h=>S.a5 (by rw [gne (i:=0) (j:=5) rfl] at h;exact h),
 fun h=>absurd (S.p3 (S.p5 (S.p6 (by rw [gne (i:=0) (j:=6) rfl] at h;exact h)))).1 (by rw [(gset h0).2];simp),
 fun h=>S.a7 (by rw [gne (i:=0) (j:=7) rfl] at h;exact h),
 fun h=>S.a8 (by rw [gne (i:=0) (j:=8) rfl] at h;exact h),
 fun h=>S.a9 (by rw [gne (i:=0) (j:=9) rfl] at h;exact h),
 fun h=>S.a10 (by rw [gne (i:=0) (j:=10) rfl] at h;exact h),
 fun h=>S.a11 (by rw [gne (i:=0) (j:=11) rfl] at h;exact h),
 fun h=>S.a12 (by rw [gne (i:=0) (j:=12) rfl] at h;exact h),
 fun h=>S.a13 (by rw [gne (i:=0) (j:=13) rfl] at h;exact h),
 fun h=>absurd (S.p3 (S.p5 (S.p6 (S.p14 (by rw [gne (i:=0) (j:=14) rfl] at h;exact h))))).1 (by rw [(gset h0).2];simp),
 fun h=>S.a15 (by rw [gne (i:=0) (j:=15) rfl] at h;exact h),
 fun h=>⟨(gset h0).1,(by rw [gne (i:=0) (j:=1) rfl];exact (S.p3 (by rw [gne (i:=0) (j:=3) rfl] at h;exact h)).2.1),(by rw [gne (i:=0) (j:=2) rfl];exact (S.p3 (by rw [gne (i:=0) (j:=3) rfl] at h;exact h)).2.2)⟩,
 fun h=>(by rw [gne (i:=0) (j:=3) rfl];exact (S.p5 (by rw [gne (i:=0) (j:=5) rfl] at h;exact h))),
 fun h=>(by rw [gne (i:=0) (j:=5) rfl];exact (S.p6 (by rw [gne (i:=0) (j:=6) rfl] at h;exact h))),
 fun h=>(by rw [gne (i:=0) (j:=6) rfl];exact (S.p14 (by rw [gne (i:=0) (j:=14) rfl] at h;exact h))),
 fun h=>(by rw [gne (i:=0) (j:=15) rfl];exact (S.p16 (by rw [gne (i:=0) (j:=16) rfl] at h;exact h))),
 fun h=>(by rw [gne (i:=0) (j:=14) rfl];exact (S.r16 (by rw [gne (i:=0) (j:=16) rfl] at h;exact h)))⟩
theorem sl9_1 {k gi go g0 g1 g2 g3 g7:Nat} {g:Nat} {b:Array Bool} {ρ:Nat->Value} (S:Sl9 k gi go g0 g1 g2 g3 g7 b ρ) (h0:b.getD 1 true=false) (hd:∀j∈([]:List Nat),b.getD j false=true):Sl9 k gi go g0 g g2 g3 g7 (b.setIfInBounds 1 true) (upd ρ 27 (.slice (some ⟨g,0,none⟩) 1 1)) :=
 ⟨fun h=>S.a0 (by rw [gne (i:=1) (j:=0) rfl] at h;exact h),
 fun _=>rfl,
 fun h=>S.a2 (by rw [gne (i:=1) (j:=2) rfl] at h;exact h),
 fun h=>S.a3 (by rw [gne (i:=1) (j:=3) rfl] at h;exact h),
 fun h=>S.a4 (by rw [gne (i:=1) (j:=4) rfl] at h;exact h),
 fun h=>S.a5 (by rw [gne (i:=1) (j:=5) rfl] at h;exact h),
 fun h=>absurd (S.p3 (S.p5 (S.p6 (by rw [gne (i:=1) (j:=6) rfl] at h;exact h)))).2.1 (by rw [(gset h0).2];simp),
 fun h=>S.a7 (by rw [gne (i:=1) (j:=7) rfl] at h;exact h),
 fun h=>S.a8 (by rw [gne (i:=1) (j:=8) rfl] at h;exact h),
 fun h=>S.a9 (by rw [gne (i:=1) (j:=9) rfl] at h;exact h),
 fun h=>S.a10 (by rw [gne (i:=1) (j:=10) rfl] at h;exact h),
 fun h=>S.a11 (by rw [gne (i:=1) (j:=11) rfl] at h;exact h),
 fun h=>S.a12 (by rw [gne (i:=1) (j:=12) rfl] at h;exact h),
 fun h=>S.a13 (by rw [gne (i:=1) (j:=13) rfl] at h;exact h),
 fun h=>absurd (S.p3 (S.p5 (S.p6 (S.p14 (by rw [gne (i:=1) (j:=14) rfl] at h;exact h))))).2.1 (by rw [(gset h0).2];simp),
 fun h=>S.a15 (by rw [gne (i:=1) (j:=15) rfl] at h;exact h),
 fun h=>⟨(by rw [gne (i:=1) (j:=0) rfl];exact (S.p3 (by rw [gne (i:=1) (j:=3) rfl] at h;exact h)).1),(gset h0).1,(by rw [gne (i:=1) (j:=2) rfl];exact (S.p3 (by rw [gne (i:=1) (j:=3) rfl] at h;exact h)).2.2)⟩,
 fun h=>(by rw [gne (i:=1) (j:=3) rfl];exact (S.p5 (by rw [gne (i:=1) (j:=5) rfl] at h;exact h))),
 fun h=>(by rw [gne (i:=1) (j:=5) rfl];exact (S.p6 (by rw [gne (i:=1) (j:=6) rfl] at h;exact h))),
 fun h=>(by rw [gne (i:=1) (j:=6) rfl];exact (S.p14 (by rw [gne (i:=1) (j:=14) rfl] at h;exact h))),
 fun h=>(by rw [gne (i:=1) (j:=15) rfl];exact (S.p16 (by rw [gne (i:=1) (j:=16) rfl] at h;exact h))),
 fun h=>(by rw [gne (i:=1) (j:=14) rfl];exact (S.r16 (by rw [gne (i:=1) (j:=16) rfl] at h;exact h)))⟩
theorem sl9_2 {k gi go g0 g1 g2 g3 g7:Nat} {g:Nat} {b:Array Bool} {ρ:Nat->Value} (S:Sl9 k gi go g0 g1 g2 g3 g7 b ρ) (h0:b.getD 2 true=false) (hd:∀j∈([]:List Nat),b.getD j false=true):Sl9 k gi go g0 g1 g g3 g7 (b.setIfInBounds 2 true) (upd ρ 28 (.slice (some ⟨g,0,none⟩) 3 3)) :=
 ⟨fun h=>S.a0 (by rw [gne (i:=2) (j:=0) rfl] at h;exact h),
 fun h=>S.a1 (by rw [gne (i:=2) (j:=1) rfl] at h;exact h),
 fun _=>rfl,
 fun h=>S.a3 (by rw [gne (i:=2) (j:=3) rfl] at h;exact h),
 fun h=>S.a4 (by rw [gne (i:=2) (j:=4) rfl] at h;exact h),
 fun h=>S.a5 (by rw [gne (i:=2) (j:=5) rfl] at h;exact h),
 fun h=>absurd (S.p3 (S.p5 (S.p6 (by rw [gne (i:=2) (j:=6) rfl] at h;exact h)))).2.2 (by rw [(gset h0).2];simp),
 fun h=>S.a7 (by rw [gne (i:=2) (j:=7) rfl] at h;exact h),
 fun h=>S.a8 (by rw [gne (i:=2) (j:=8) rfl] at h;exact h),
 fun h=>S.a9 (by rw [gne (i:=2) (j:=9) rfl] at h;exact h),
 fun h=>S.a10 (by rw [gne (i:=2) (j:=10) rfl] at h;exact h),
 fun h=>S.a11 (by rw [gne (i:=2) (j:=11) rfl] at h;exact h),
 fun h=>S.a12 (by rw [gne (i:=2) (j:=12) rfl] at h;exact h),
 fun h=>S.a13 (by rw [gne (i:=2) (j:=13) rfl] at h;exact h),
 fun h=>absurd (S.p3 (S.p5 (S.p6 (S.p14 (by rw [gne (i:=2) (j:=14) rfl] at h;exact h))))).2.2 (by rw [(gset h0).2];simp),
 fun h=>S.a15 (by rw [gne (i:=2) (j:=15) rfl] at h;exact h),
 fun h=>⟨(by rw [gne (i:=2) (j:=0) rfl];exact (S.p3 (by rw [gne (i:=2) (j:=3) rfl] at h;exact h)).1),(by rw [gne (i:=2) (j:=1) rfl];exact (S.p3 (by rw [gne (i:=2) (j:=3) rfl] at h;exact h)).2.1),(gset h0).1⟩,
 fun h=>(by rw [gne (i:=2) (j:=3) rfl];exact (S.p5 (by rw [gne (i:=2) (j:=5) rfl] at h;exact h))),
 fun h=>(by rw [gne (i:=2) (j:=5) rfl];exact (S.p6 (by rw [gne (i:=2) (j:=6) rfl] at h;exact h))),
 fun h=>(by rw [gne (i:=2) (j:=6) rfl];exact (S.p14 (by rw [gne (i:=2) (j:=14) rfl] at h;exact h))),
 fun h=>(by rw [gne (i:=2) (j:=15) rfl];exact (S.p16 (by rw [gne (i:=2) (j:=16) rfl] at h;exact h))),
 fun h=>(by rw [gne (i:=2) (j:=14) rfl];exact (S.r16 (by rw [gne (i:=2) (j:=16) rfl] at h;exact h)))⟩
theorem sl9_3 {k gi go g0 g1 g2 g3 g7:Nat} {g:Nat} {b:Array Bool} {ρ:Nat->Value} (S:Sl9 k gi go g0 g1 g2 g3 g7 b ρ) (h0:b.getD 3 true=false) (hd:∀j∈[0,1,2],b.getD j false=true):Sl9 k gi go g0 g1 g2 g g7 (b.setIfInBounds 3 true) (upd ρ 29 (.slice (some ⟨g,0,none⟩) 4 4)) :=
 ⟨fun h=>S.a0 (by rw [gne (i:=3) (j:=0) rfl] at h;exact h),
 fun h=>S.a1 (by rw [gne (i:=3) (j:=1) rfl] at h;exact h),
 fun h=>S.a2 (by rw [gne (i:=3) (j:=2) rfl] at h;exact h),
 fun _=>rfl,
 fun h=>S.a4 (by rw [gne (i:=3) (j:=4) rfl] at h;exact h),
 fun h=>absurd (S.p5 (by rw [gne (i:=3) (j:=5) rfl] at h;exact h)) (by rw [(gset h0).2];simp),
 fun h=>S.a6 (by rw [gne (i:=3) (j:=6) rfl] at h;exact h),
 fun h=>S.a7 (by rw [gne (i:=3) (j:=7) rfl] at h;exact h),
 fun h=>S.a8 (by rw [gne (i:=3) (j:=8) rfl] at h;exact h),
 fun h=>S.a9 (by rw [gne (i:=3) (j:=9) rfl] at h;exact h),
 fun h=>S.a10 (by rw [gne (i:=3) (j:=10) rfl] at h;exact h),
 fun h=>S.a11 (by rw [gne (i:=3) (j:=11) rfl] at h;exact h),
 fun h=>S.a12 (by rw [gne (i:=3) (j:=12) rfl] at h;exact h),
 fun h=>S.a13 (by rw [gne (i:=3) (j:=13) rfl] at h;exact h),
 fun h=>S.a14 (by rw [gne (i:=3) (j:=14) rfl] at h;exact h),
 fun h=>S.a15 (by rw [gne (i:=3) (j:=15) rfl] at h;exact h),
 fun h=>⟨(by rw [gne (i:=3) (j:=0) rfl];exact hd 0 (by simp)),(by rw [gne (i:=3) (j:=1) rfl];exact hd 1 (by simp)),(by rw [gne (i:=3) (j:=2) rfl];exact hd 2 (by simp))⟩,
 fun h=>(gset h0).1,
 fun h=>(by rw [gne (i:=3) (j:=5) rfl];exact (S.p6 (by rw [gne (i:=3) (j:=6) rfl] at h;exact h))),
 fun h=>(by rw [gne (i:=3) (j:=6) rfl];exact (S.p14 (by rw [gne (i:=3) (j:=14) rfl] at h;exact h))),
 fun h=>(by rw [gne (i:=3) (j:=15) rfl];exact (S.p16 (by rw [gne (i:=3) (j:=16) rfl] at h;exact h))),
 fun h=>(by rw [gne (i:=3) (j:=14) rfl];exact (S.r16 (by rw [gne (i:=3) (j:=16) rfl] at h;exact h)))⟩
theorem sl9_4 {k gi go g0 g1 g2 g3 g7:Nat} {b:Array Bool} {ρ:Nat->Value} (S:Sl9 k gi go g0 g1 g2 g3 g7 b ρ) (h0:b.getD 4 true=false) (hd:∀j∈([]:List Nat),b.getD j false=true):Sl9 k gi go g0 g1 g2 g3 g7 (b.setIfInBounds 4 true) (upd ρ 30 (.int .i64 (k:Int))) :=
 ⟨fun h=>S.a0 (by rw [gne (i:=4) (j:=0) rfl] at h;exact h),
 fun h=>S.a1 (by rw [gne (i:=4) (j:=1) rfl] at h;exact h),
 fun h=>S.a2 (by rw [gne (i:=4) (j:=2) rfl] at h;exact h),
 fun h=>S.a3 (by rw [gne (i:=4) (j:=3) rfl] at h;exact h),
 fun _=>rfl,
 fun h=>S.a5 (by rw [gne (i:=4) (j:=5) rfl] at h;exact h),
 fun h=>S.a6 (by rw [gne (i:=4) (j:=6) rfl] at h;exact h),
 fun h=>S.a7 (by rw [gne (i:=4) (j:=7) rfl] at h;exact h),
 fun h=>S.a8 (by rw [gne (i:=4) (j:=8) rfl] at h;exact h),
 fun h=>S.a9 (by rw [gne (i:=4) (j:=9) rfl] at h;exact h),
 fun h=>S.a10 (by rw [gne (i:=4) (j:=10) rfl] at h;exact h),
 fun h=>S.a11 (by rw [gne (i:=4) (j:=11) rfl] at h;exact h),
 fun h=>S.a12 (by rw [gne (i:=4) (j:=12) rfl] at h;exact h),
 fun h=>S.a13 (by rw [gne (i:=4) (j:=13) rfl] at h;exact h),
 fun h=>S.a14 (by rw [gne (i:=4) (j:=14) rfl] at h;exact h),
 fun h=>S.a15 (by rw [gne (i:=4) (j:=15) rfl] at h;exact h),
 fun h=>⟨(by rw [gne (i:=4) (j:=0) rfl];exact (S.p3 (by rw [gne (i:=4) (j:=3) rfl] at h;exact h)).1),(by rw [gne (i:=4) (j:=1) rfl];exact (S.p3 (by rw [gne (i:=4) (j:=3) rfl] at h;exact h)).2.1),(by rw [gne (i:=4) (j:=2) rfl];exact (S.p3 (by rw [gne (i:=4) (j:=3) rfl] at h;exact h)).2.2)⟩,
 fun h=>(by rw [gne (i:=4) (j:=3) rfl];exact (S.p5 (by rw [gne (i:=4) (j:=5) rfl] at h;exact h))),
 fun h=>(by rw [gne (i:=4) (j:=5) rfl];exact (S.p6 (by rw [gne (i:=4) (j:=6) rfl] at h;exact h))),
 fun h=>(by rw [gne (i:=4) (j:=6) rfl];exact (S.p14 (by rw [gne (i:=4) (j:=14) rfl] at h;exact h))),
 fun h=>(by rw [gne (i:=4) (j:=15) rfl];exact (S.p16 (by rw [gne (i:=4) (j:=16) rfl] at h;exact h))),
 fun h=>(by rw [gne (i:=4) (j:=14) rfl];exact (S.r16 (by rw [gne (i:=4) (j:=16) rfl] at h;exact h)))⟩
theorem sl9_5 {k gi go g0 g1 g2 g3 g7:Nat} {b:Array Bool} {ρ:Nat->Value} (S:Sl9 k gi go g0 g1 g2 g3 g7 b ρ) (h0:b.getD 5 true=false) (hd:∀j∈[3,4],b.getD j false=true):Sl9 k gi go g0 g1 g2 g3 g7 (b.setIfInBounds 5 true) (upd ρ 31 (.pointer (some ⟨g3,0+k*1,none⟩))) :=
 ⟨fun h=>S.a0 (by rw [gne (i:=5) (j:=0) rfl] at h;exact h),
 fun h=>S.a1 (by rw [gne (i:=5) (j:=1) rfl] at h;exact h),
 fun h=>S.a2 (by rw [gne (i:=5) (j:=2) rfl] at h;exact h),
 fun h=>S.a3 (by rw [gne (i:=5) (j:=3) rfl] at h;exact h),
 fun h=>S.a4 (by rw [gne (i:=5) (j:=4) rfl] at h;exact h),
 fun _=>rfl,
 fun h=>S.a6 (by rw [gne (i:=5) (j:=6) rfl] at h;exact h),
 fun h=>S.a7 (by rw [gne (i:=5) (j:=7) rfl] at h;exact h),
 fun h=>S.a8 (by rw [gne (i:=5) (j:=8) rfl] at h;exact h),
 fun h=>S.a9 (by rw [gne (i:=5) (j:=9) rfl] at h;exact h),
 fun h=>S.a10 (by rw [gne (i:=5) (j:=10) rfl] at h;exact h),
 fun h=>S.a11 (by rw [gne (i:=5) (j:=11) rfl] at h;exact h),
 fun h=>S.a12 (by rw [gne (i:=5) (j:=12) rfl] at h;exact h),
 fun h=>S.a13 (by rw [gne (i:=5) (j:=13) rfl] at h;exact h),
 fun h=>S.a14 (by rw [gne (i:=5) (j:=14) rfl] at h;exact h),
 fun h=>S.a15 (by rw [gne (i:=5) (j:=15) rfl] at h;exact h),
 fun h=>⟨(by rw [gne (i:=5) (j:=0) rfl];exact (S.p3 (by rw [gne (i:=5) (j:=3) rfl] at h;exact h)).1),(by rw [gne (i:=5) (j:=1) rfl];exact (S.p3 (by rw [gne (i:=5) (j:=3) rfl] at h;exact h)).2.1),(by rw [gne (i:=5) (j:=2) rfl];exact (S.p3 (by rw [gne (i:=5) (j:=3) rfl] at h;exact h)).2.2)⟩,
 fun h=>(by rw [gne (i:=5) (j:=3) rfl];exact hd 3 (by simp)),
 fun h=>(gset h0).1,
 fun h=>(by rw [gne (i:=5) (j:=6) rfl];exact (S.p14 (by rw [gne (i:=5) (j:=14) rfl] at h;exact h))),
 fun h=>(by rw [gne (i:=5) (j:=15) rfl];exact (S.p16 (by rw [gne (i:=5) (j:=16) rfl] at h;exact h))),
 fun h=>(by rw [gne (i:=5) (j:=14) rfl];exact (S.r16 (by rw [gne (i:=5) (j:=16) rfl] at h;exact h)))⟩
theorem sl9_6 {k gi go g0 g1 g2 g3 g7:Nat} {b:Array Bool} {ρ:Nat->Value} (S:Sl9 k gi go g0 g1 g2 g3 g7 b ρ) (h0:b.getD 6 true=false) (hd:∀j∈[5],b.getD j false=true):Sl9 k gi go g0 g1 g2 g3 g7 (b.setIfInBounds 6 true) (upd ρ 32 (.slice (scrA k g0 g1 g2) (scrN k) (scrN k))) :=
 ⟨fun h=>S.a0 (by rw [gne (i:=6) (j:=0) rfl] at h;exact h),
 fun h=>S.a1 (by rw [gne (i:=6) (j:=1) rfl] at h;exact h),
 fun h=>S.a2 (by rw [gne (i:=6) (j:=2) rfl] at h;exact h),
 fun h=>S.a3 (by rw [gne (i:=6) (j:=3) rfl] at h;exact h),
 fun h=>S.a4 (by rw [gne (i:=6) (j:=4) rfl] at h;exact h),
 fun h=>S.a5 (by rw [gne (i:=6) (j:=5) rfl] at h;exact h),
 fun _=>rfl,
 fun h=>S.a7 (by rw [gne (i:=6) (j:=7) rfl] at h;exact h),
 fun h=>S.a8 (by rw [gne (i:=6) (j:=8) rfl] at h;exact h),
 fun h=>S.a9 (by rw [gne (i:=6) (j:=9) rfl] at h;exact h),
 fun h=>S.a10 (by rw [gne (i:=6) (j:=10) rfl] at h;exact h),
 fun h=>S.a11 (by rw [gne (i:=6) (j:=11) rfl] at h;exact h),
 fun h=>S.a12 (by rw [gne (i:=6) (j:=12) rfl] at h;exact h),
 fun h=>S.a13 (by rw [gne (i:=6) (j:=13) rfl] at h;exact h),
 fun h=>S.a14 (by rw [gne (i:=6) (j:=14) rfl] at h;exact h),
 fun h=>S.a15 (by rw [gne (i:=6) (j:=15) rfl] at h;exact h),
 fun h=>⟨(by rw [gne (i:=6) (j:=0) rfl];exact (S.p3 (by rw [gne (i:=6) (j:=3) rfl] at h;exact h)).1),(by rw [gne (i:=6) (j:=1) rfl];exact (S.p3 (by rw [gne (i:=6) (j:=3) rfl] at h;exact h)).2.1),(by rw [gne (i:=6) (j:=2) rfl];exact (S.p3 (by rw [gne (i:=6) (j:=3) rfl] at h;exact h)).2.2)⟩,
 fun h=>(by rw [gne (i:=6) (j:=3) rfl];exact (S.p5 (by rw [gne (i:=6) (j:=5) rfl] at h;exact h))),
 fun h=>(by rw [gne (i:=6) (j:=5) rfl];exact hd 5 (by simp)),
 fun h=>(gset h0).1,
 fun h=>(by rw [gne (i:=6) (j:=15) rfl];exact (S.p16 (by rw [gne (i:=6) (j:=16) rfl] at h;exact h))),
 fun h=>(by rw [gne (i:=6) (j:=14) rfl];exact (S.r16 (by rw [gne (i:=6) (j:=16) rfl] at h;exact h)))⟩
theorem sl9_7 {k gi go g0 g1 g2 g3 g7:Nat} {b:Array Bool} {ρ:Nat->Value} (S:Sl9 k gi go g0 g1 g2 g3 g7 b ρ) (h0:b.getD 7 true=false) (hd:∀j∈([]:List Nat),b.getD j false=true):Sl9 k gi go g0 g1 g2 g3 g7 (b.setIfInBounds 7 true) (upd ρ 33 (.agg (txC (some ⟨gi,0,none⟩) 1 1 (some ⟨go,0,none⟩) 2 2 0).toArray)) :=
 ⟨fun h=>S.a0 (by rw [gne (i:=7) (j:=0) rfl] at h;exact h),
 fun h=>S.a1 (by rw [gne (i:=7) (j:=1) rfl] at h;exact h),
 fun h=>S.a2 (by rw [gne (i:=7) (j:=2) rfl] at h;exact h),
 fun h=>S.a3 (by rw [gne (i:=7) (j:=3) rfl] at h;exact h),
 fun h=>S.a4 (by rw [gne (i:=7) (j:=4) rfl] at h;exact h),
 fun h=>S.a5 (by rw [gne (i:=7) (j:=5) rfl] at h;exact h),
 fun h=>S.a6 (by rw [gne (i:=7) (j:=6) rfl] at h;exact h),
 fun _=>rfl,
 fun h=>S.a8 (by rw [gne (i:=7) (j:=8) rfl] at h;exact h),
 fun h=>S.a9 (by rw [gne (i:=7) (j:=9) rfl] at h;exact h),
 fun h=>S.a10 (by rw [gne (i:=7) (j:=10) rfl] at h;exact h),
 fun h=>S.a11 (by rw [gne (i:=7) (j:=11) rfl] at h;exact h),
 fun h=>S.a12 (by rw [gne (i:=7) (j:=12) rfl] at h;exact h),
 fun h=>S.a13 (by rw [gne (i:=7) (j:=13) rfl] at h;exact h),
 fun h=>S.a14 (by rw [gne (i:=7) (j:=14) rfl] at h;exact h),
 fun h=>S.a15 (by rw [gne (i:=7) (j:=15) rfl] at h;exact h),
 fun h=>⟨(by rw [gne (i:=7) (j:=0) rfl];exact (S.p3 (by rw [gne (i:=7) (j:=3) rfl] at h;exact h)).1),(by rw [gne (i:=7) (j:=1) rfl];exact (S.p3 (by rw [gne (i:=7) (j:=3) rfl] at h;exact h)).2.1),(by rw [gne (i:=7) (j:=2) rfl];exact (S.p3 (by rw [gne (i:=7) (j:=3) rfl] at h;exact h)).2.2)⟩,
 fun h=>(by rw [gne (i:=7) (j:=3) rfl];exact (S.p5 (by rw [gne (i:=7) (j:=5) rfl] at h;exact h))),
 fun h=>(by rw [gne (i:=7) (j:=5) rfl];exact (S.p6 (by rw [gne (i:=7) (j:=6) rfl] at h;exact h))),
 fun h=>(by rw [gne (i:=7) (j:=6) rfl];exact (S.p14 (by rw [gne (i:=7) (j:=14) rfl] at h;exact h))),
 fun h=>(by rw [gne (i:=7) (j:=15) rfl];exact (S.p16 (by rw [gne (i:=7) (j:=16) rfl] at h;exact h))),
 fun h=>(by rw [gne (i:=7) (j:=14) rfl];exact (S.r16 (by rw [gne (i:=7) (j:=16) rfl] at h;exact h)))⟩
theorem sl9_8 {k gi go g0 g1 g2 g3 g7:Nat} {b:Array Bool} {ρ:Nat->Value} (S:Sl9 k gi go g0 g1 g2 g3 g7 b ρ) (h0:b.getD 8 true=false) (hd:∀j∈[7],b.getD j false=true):Sl9 k gi go g0 g1 g2 g3 g7 (b.setIfInBounds 8 true) (upd ρ 34 (.agg ((Tx.dig Tx.tTx Ex.t).map u8v).toArray)) :=
 ⟨fun h=>S.a0 (by rw [gne (i:=8) (j:=0) rfl] at h;exact h),
 fun h=>S.a1 (by rw [gne (i:=8) (j:=1) rfl] at h;exact h),
 fun h=>S.a2 (by rw [gne (i:=8) (j:=2) rfl] at h;exact h),
 fun h=>S.a3 (by rw [gne (i:=8) (j:=3) rfl] at h;exact h),
 fun h=>S.a4 (by rw [gne (i:=8) (j:=4) rfl] at h;exact h),
 fun h=>S.a5 (by rw [gne (i:=8) (j:=5) rfl] at h;exact h),
 fun h=>S.a6 (by rw [gne (i:=8) (j:=6) rfl] at h;exact h),
 fun h=>S.a7 (by rw [gne (i:=8) (j:=7) rfl] at h;exact h),
 fun _=>rfl,
 fun h=>S.a9 (by rw [gne (i:=8) (j:=9) rfl] at h;exact h),
 fun h=>S.a10 (by rw [gne (i:=8) (j:=10) rfl] at h;exact h),
 fun h=>S.a11 (by rw [gne (i:=8) (j:=11) rfl] at h;exact h),
 fun h=>S.a12 (by rw [gne (i:=8) (j:=12) rfl] at h;exact h),
 fun h=>S.a13 (by rw [gne (i:=8) (j:=13) rfl] at h;exact h),
 fun h=>S.a14 (by rw [gne (i:=8) (j:=14) rfl] at h;exact h),
 fun h=>S.a15 (by rw [gne (i:=8) (j:=15) rfl] at h;exact h),
 fun h=>⟨(by rw [gne (i:=8) (j:=0) rfl];exact (S.p3 (by rw [gne (i:=8) (j:=3) rfl] at h;exact h)).1),(by rw [gne (i:=8) (j:=1) rfl];exact (S.p3 (by rw [gne (i:=8) (j:=3) rfl] at h;exact h)).2.1),(by rw [gne (i:=8) (j:=2) rfl];exact (S.p3 (by rw [gne (i:=8) (j:=3) rfl] at h;exact h)).2.2)⟩,
 fun h=>(by rw [gne (i:=8) (j:=3) rfl];exact (S.p5 (by rw [gne (i:=8) (j:=5) rfl] at h;exact h))),
 fun h=>(by rw [gne (i:=8) (j:=5) rfl];exact (S.p6 (by rw [gne (i:=8) (j:=6) rfl] at h;exact h))),
 fun h=>(by rw [gne (i:=8) (j:=6) rfl];exact (S.p14 (by rw [gne (i:=8) (j:=14) rfl] at h;exact h))),
 fun h=>(by rw [gne (i:=8) (j:=15) rfl];exact (S.p16 (by rw [gne (i:=8) (j:=16) rfl] at h;exact h))),
 fun h=>(by rw [gne (i:=8) (j:=14) rfl];exact (S.r16 (by rw [gne (i:=8) (j:=16) rfl] at h;exact h)))⟩
theorem sl9_9 {k gi go g0 g1 g2 g3 g7:Nat} {b:Array Bool} {ρ:Nat->Value} (S:Sl9 k gi go g0 g1 g2 g3 g7 b ρ) (h0:b.getD 9 true=false) (hd:∀j∈([]:List Nat),b.getD j false=true):Sl9 k gi go g0 g1 g2 g3 g7 (b.setIfInBounds 9 true) (upd ρ 35 (.int .i64 (k:Int))) :=
 ⟨fun h=>S.a0 (by rw [gne (i:=9) (j:=0) rfl] at h;exact h),
 fun h=>S.a1 (by rw [gne (i:=9) (j:=1) rfl] at h;exact h),
 fun h=>S.a2 (by rw [gne (i:=9) (j:=2) rfl] at h;exact h),
 fun h=>S.a3 (by rw [gne (i:=9) (j:=3) rfl] at h;exact h),
 fun h=>S.a4 (by rw [gne (i:=9) (j:=4) rfl] at h;exact h),
 fun h=>S.a5 (by rw [gne (i:=9) (j:=5) rfl] at h;exact h),
 fun h=>S.a6 (by rw [gne (i:=9) (j:=6) rfl] at h;exact h),
 fun h=>S.a7 (by rw [gne (i:=9) (j:=7) rfl] at h;exact h),
 fun h=>S.a8 (by rw [gne (i:=9) (j:=8) rfl] at h;exact h),
 fun _=>rfl,
 fun h=>S.a10 (by rw [gne (i:=9) (j:=10) rfl] at h;exact h),
 fun h=>S.a11 (by rw [gne (i:=9) (j:=11) rfl] at h;exact h),
 fun h=>S.a12 (by rw [gne (i:=9) (j:=12) rfl] at h;exact h),
 fun h=>S.a13 (by rw [gne (i:=9) (j:=13) rfl] at h;exact h),
 fun h=>S.a14 (by rw [gne (i:=9) (j:=14) rfl] at h;exact h),
 fun h=>S.a15 (by rw [gne (i:=9) (j:=15) rfl] at h;exact h),
 fun h=>⟨(by rw [gne (i:=9) (j:=0) rfl];exact (S.p3 (by rw [gne (i:=9) (j:=3) rfl] at h;exact h)).1),(by rw [gne (i:=9) (j:=1) rfl];exact (S.p3 (by rw [gne (i:=9) (j:=3) rfl] at h;exact h)).2.1),(by rw [gne (i:=9) (j:=2) rfl];exact (S.p3 (by rw [gne (i:=9) (j:=3) rfl] at h;exact h)).2.2)⟩,
 fun h=>(by rw [gne (i:=9) (j:=3) rfl];exact (S.p5 (by rw [gne (i:=9) (j:=5) rfl] at h;exact h))),
 fun h=>(by rw [gne (i:=9) (j:=5) rfl];exact (S.p6 (by rw [gne (i:=9) (j:=6) rfl] at h;exact h))),
 fun h=>(by rw [gne (i:=9) (j:=6) rfl];exact (S.p14 (by rw [gne (i:=9) (j:=14) rfl] at h;exact h))),
 fun h=>(by rw [gne (i:=9) (j:=15) rfl];exact (S.p16 (by rw [gne (i:=9) (j:=16) rfl] at h;exact h))),
 fun h=>(by rw [gne (i:=9) (j:=14) rfl];exact (S.r16 (by rw [gne (i:=9) (j:=16) rfl] at h;exact h)))⟩
theorem sl9_10 {k gi go g0 g1 g2 g3 g7:Nat} {b:Array Bool} {ρ:Nat->Value} (S:Sl9 k gi go g0 g1 g2 g3 g7 b ρ) (h0:b.getD 10 true=false) (hd:∀j∈[8,9],b.getD j false=true):Sl9 k gi go g0 g1 g2 g3 g7 (b.setIfInBounds 10 true) (upd ρ 36 (.agg (pointC (⟨(Tx.dig Tx.tTx Ex.t),(k:Int)⟩:DPoint)).toArray)) :=
 ⟨fun h=>S.a0 (by rw [gne (i:=10) (j:=0) rfl] at h;exact h),
 fun h=>S.a1 (by rw [gne (i:=10) (j:=1) rfl] at h;exact h),
 fun h=>S.a2 (by rw [gne (i:=10) (j:=2) rfl] at h;exact h),
 fun h=>S.a3 (by rw [gne (i:=10) (j:=3) rfl] at h;exact h),
 fun h=>S.a4 (by rw [gne (i:=10) (j:=4) rfl] at h;exact h),
 fun h=>S.a5 (by rw [gne (i:=10) (j:=5) rfl] at h;exact h),
 fun h=>S.a6 (by rw [gne (i:=10) (j:=6) rfl] at h;exact h),
 fun h=>S.a7 (by rw [gne (i:=10) (j:=7) rfl] at h;exact h),
 fun h=>S.a8 (by rw [gne (i:=10) (j:=8) rfl] at h;exact h),
 fun h=>S.a9 (by rw [gne (i:=10) (j:=9) rfl] at h;exact h),
 fun _=>rfl,
 fun h=>S.a11 (by rw [gne (i:=10) (j:=11) rfl] at h;exact h),
 fun h=>S.a12 (by rw [gne (i:=10) (j:=12) rfl] at h;exact h),
 fun h=>S.a13 (by rw [gne (i:=10) (j:=13) rfl] at h;exact h),
 fun h=>S.a14 (by rw [gne (i:=10) (j:=14) rfl] at h;exact h),
 fun h=>S.a15 (by rw [gne (i:=10) (j:=15) rfl] at h;exact h),
 fun h=>⟨(by rw [gne (i:=10) (j:=0) rfl];exact (S.p3 (by rw [gne (i:=10) (j:=3) rfl] at h;exact h)).1),(by rw [gne (i:=10) (j:=1) rfl];exact (S.p3 (by rw [gne (i:=10) (j:=3) rfl] at h;exact h)).2.1),(by rw [gne (i:=10) (j:=2) rfl];exact (S.p3 (by rw [gne (i:=10) (j:=3) rfl] at h;exact h)).2.2)⟩,
 fun h=>(by rw [gne (i:=10) (j:=3) rfl];exact (S.p5 (by rw [gne (i:=10) (j:=5) rfl] at h;exact h))),
 fun h=>(by rw [gne (i:=10) (j:=5) rfl];exact (S.p6 (by rw [gne (i:=10) (j:=6) rfl] at h;exact h))),
 fun h=>(by rw [gne (i:=10) (j:=6) rfl];exact (S.p14 (by rw [gne (i:=10) (j:=14) rfl] at h;exact h))),
 fun h=>(by rw [gne (i:=10) (j:=15) rfl];exact (S.p16 (by rw [gne (i:=10) (j:=16) rfl] at h;exact h))),
 fun h=>(by rw [gne (i:=10) (j:=14) rfl];exact (S.r16 (by rw [gne (i:=10) (j:=16) rfl] at h;exact h)))⟩
theorem sl9_11 {k gi go g0 g1 g2 g3 g7:Nat} {b:Array Bool} {ρ:Nat->Value} (S:Sl9 k gi go g0 g1 g2 g3 g7 b ρ) (h0:b.getD 11 true=false) (hd:∀j∈([]:List Nat),b.getD j false=true):Sl9 k gi go g0 g1 g2 g3 g7 (b.setIfInBounds 11 true) (upd ρ 37 (.agg ((Old.Bl.sum Ex.x).map u8v).toArray)) :=
 ⟨fun h=>S.a0 (by rw [gne (i:=11) (j:=0) rfl] at h;exact h),
 fun h=>S.a1 (by rw [gne (i:=11) (j:=1) rfl] at h;exact h),
 fun h=>S.a2 (by rw [gne (i:=11) (j:=2) rfl] at h;exact h),
 fun h=>S.a3 (by rw [gne (i:=11) (j:=3) rfl] at h;exact h),
 fun h=>S.a4 (by rw [gne (i:=11) (j:=4) rfl] at h;exact h),
 fun h=>S.a5 (by rw [gne (i:=11) (j:=5) rfl] at h;exact h),
 fun h=>S.a6 (by rw [gne (i:=11) (j:=6) rfl] at h;exact h),
 fun h=>S.a7 (by rw [gne (i:=11) (j:=7) rfl] at h;exact h),
 fun h=>S.a8 (by rw [gne (i:=11) (j:=8) rfl] at h;exact h),
 fun h=>S.a9 (by rw [gne (i:=11) (j:=9) rfl] at h;exact h),
 fun h=>S.a10 (by rw [gne (i:=11) (j:=10) rfl] at h;exact h),
 fun _=>rfl,
 fun h=>S.a12 (by rw [gne (i:=11) (j:=12) rfl] at h;exact h),
 fun h=>S.a13 (by rw [gne (i:=11) (j:=13) rfl] at h;exact h),
 fun h=>S.a14 (by rw [gne (i:=11) (j:=14) rfl] at h;exact h),
 fun h=>S.a15 (by rw [gne (i:=11) (j:=15) rfl] at h;exact h),
 fun h=>⟨(by rw [gne (i:=11) (j:=0) rfl];exact (S.p3 (by rw [gne (i:=11) (j:=3) rfl] at h;exact h)).1),(by rw [gne (i:=11) (j:=1) rfl];exact (S.p3 (by rw [gne (i:=11) (j:=3) rfl] at h;exact h)).2.1),(by rw [gne (i:=11) (j:=2) rfl];exact (S.p3 (by rw [gne (i:=11) (j:=3) rfl] at h;exact h)).2.2)⟩,
 fun h=>(by rw [gne (i:=11) (j:=3) rfl];exact (S.p5 (by rw [gne (i:=11) (j:=5) rfl] at h;exact h))),
 fun h=>(by rw [gne (i:=11) (j:=5) rfl];exact (S.p6 (by rw [gne (i:=11) (j:=6) rfl] at h;exact h))),
 fun h=>(by rw [gne (i:=11) (j:=6) rfl];exact (S.p14 (by rw [gne (i:=11) (j:=14) rfl] at h;exact h))),
 fun h=>(by rw [gne (i:=11) (j:=15) rfl];exact (S.p16 (by rw [gne (i:=11) (j:=16) rfl] at h;exact h))),
 fun h=>(by rw [gne (i:=11) (j:=14) rfl];exact (S.r16 (by rw [gne (i:=11) (j:=16) rfl] at h;exact h)))⟩
theorem sl9_12 {k gi go g0 g1 g2 g3 g7:Nat} {b:Array Bool} {ρ:Nat->Value} (S:Sl9 k gi go g0 g1 g2 g3 g7 b ρ) (h0:b.getD 12 true=false) (hd:∀j∈([]:List Nat),b.getD j false=true):Sl9 k gi go g0 g1 g2 g3 g7 (b.setIfInBounds 12 true) (upd ρ 38 (.agg (txC (some ⟨gi,0,none⟩) 1 1 (some ⟨go,0,none⟩) 2 2 0).toArray)) :=
 ⟨fun h=>S.a0 (by rw [gne (i:=12) (j:=0) rfl] at h;exact h),
 fun h=>S.a1 (by rw [gne (i:=12) (j:=1) rfl] at h;exact h),
 fun h=>S.a2 (by rw [gne (i:=12) (j:=2) rfl] at h;exact h),
 fun h=>S.a3 (by rw [gne (i:=12) (j:=3) rfl] at h;exact h),
 fun h=>S.a4 (by rw [gne (i:=12) (j:=4) rfl] at h;exact h),
 fun h=>S.a5 (by rw [gne (i:=12) (j:=5) rfl] at h;exact h),
 fun h=>S.a6 (by rw [gne (i:=12) (j:=6) rfl] at h;exact h),
 fun h=>S.a7 (by rw [gne (i:=12) (j:=7) rfl] at h;exact h),
 fun h=>S.a8 (by rw [gne (i:=12) (j:=8) rfl] at h;exact h),
 fun h=>S.a9 (by rw [gne (i:=12) (j:=9) rfl] at h;exact h),
 fun h=>S.a10 (by rw [gne (i:=12) (j:=10) rfl] at h;exact h),
 fun h=>S.a11 (by rw [gne (i:=12) (j:=11) rfl] at h;exact h),
 fun _=>rfl,
 fun h=>S.a13 (by rw [gne (i:=12) (j:=13) rfl] at h;exact h),
 fun h=>S.a14 (by rw [gne (i:=12) (j:=14) rfl] at h;exact h),
 fun h=>S.a15 (by rw [gne (i:=12) (j:=15) rfl] at h;exact h),
 fun h=>⟨(by rw [gne (i:=12) (j:=0) rfl];exact (S.p3 (by rw [gne (i:=12) (j:=3) rfl] at h;exact h)).1),(by rw [gne (i:=12) (j:=1) rfl];exact (S.p3 (by rw [gne (i:=12) (j:=3) rfl] at h;exact h)).2.1),(by rw [gne (i:=12) (j:=2) rfl];exact (S.p3 (by rw [gne (i:=12) (j:=3) rfl] at h;exact h)).2.2)⟩,
 fun h=>(by rw [gne (i:=12) (j:=3) rfl];exact (S.p5 (by rw [gne (i:=12) (j:=5) rfl] at h;exact h))),
 fun h=>(by rw [gne (i:=12) (j:=5) rfl];exact (S.p6 (by rw [gne (i:=12) (j:=6) rfl] at h;exact h))),
 fun h=>(by rw [gne (i:=12) (j:=6) rfl];exact (S.p14 (by rw [gne (i:=12) (j:=14) rfl] at h;exact h))),
 fun h=>(by rw [gne (i:=12) (j:=15) rfl];exact (S.p16 (by rw [gne (i:=12) (j:=16) rfl] at h;exact h))),
 fun h=>(by rw [gne (i:=12) (j:=14) rfl];exact (S.r16 (by rw [gne (i:=12) (j:=16) rfl] at h;exact h)))⟩
theorem sl9_13 {k gi go g0 g1 g2 g3 g7:Nat} {b:Array Bool} {ρ:Nat->Value} (S:Sl9 k gi go g0 g1 g2 g3 g7 b ρ) (h0:b.getD 13 true=false) (hd:∀j∈[12],b.getD j false=true):Sl9 k gi go g0 g1 g2 g3 g7 (b.setIfInBounds 13 true) (upd ρ 39 (.agg ((Tx.dig Tx.tTx Ex.t).map u8v).toArray)) :=
 ⟨fun h=>S.a0 (by rw [gne (i:=13) (j:=0) rfl] at h;exact h),
 fun h=>S.a1 (by rw [gne (i:=13) (j:=1) rfl] at h;exact h),
 fun h=>S.a2 (by rw [gne (i:=13) (j:=2) rfl] at h;exact h),
 fun h=>S.a3 (by rw [gne (i:=13) (j:=3) rfl] at h;exact h),
 fun h=>S.a4 (by rw [gne (i:=13) (j:=4) rfl] at h;exact h),
 fun h=>S.a5 (by rw [gne (i:=13) (j:=5) rfl] at h;exact h),
 fun h=>S.a6 (by rw [gne (i:=13) (j:=6) rfl] at h;exact h),
 fun h=>S.a7 (by rw [gne (i:=13) (j:=7) rfl] at h;exact h),
 fun h=>S.a8 (by rw [gne (i:=13) (j:=8) rfl] at h;exact h),
 fun h=>S.a9 (by rw [gne (i:=13) (j:=9) rfl] at h;exact h),
 fun h=>S.a10 (by rw [gne (i:=13) (j:=10) rfl] at h;exact h),
 fun h=>S.a11 (by rw [gne (i:=13) (j:=11) rfl] at h;exact h),
 fun h=>S.a12 (by rw [gne (i:=13) (j:=12) rfl] at h;exact h),
 fun _=>rfl,
 fun h=>S.a14 (by rw [gne (i:=13) (j:=14) rfl] at h;exact h),
 fun h=>S.a15 (by rw [gne (i:=13) (j:=15) rfl] at h;exact h),
 fun h=>⟨(by rw [gne (i:=13) (j:=0) rfl];exact (S.p3 (by rw [gne (i:=13) (j:=3) rfl] at h;exact h)).1),(by rw [gne (i:=13) (j:=1) rfl];exact (S.p3 (by rw [gne (i:=13) (j:=3) rfl] at h;exact h)).2.1),(by rw [gne (i:=13) (j:=2) rfl];exact (S.p3 (by rw [gne (i:=13) (j:=3) rfl] at h;exact h)).2.2)⟩,
 fun h=>(by rw [gne (i:=13) (j:=3) rfl];exact (S.p5 (by rw [gne (i:=13) (j:=5) rfl] at h;exact h))),
 fun h=>(by rw [gne (i:=13) (j:=5) rfl];exact (S.p6 (by rw [gne (i:=13) (j:=6) rfl] at h;exact h))),
 fun h=>(by rw [gne (i:=13) (j:=6) rfl];exact (S.p14 (by rw [gne (i:=13) (j:=14) rfl] at h;exact h))),
 fun h=>(by rw [gne (i:=13) (j:=15) rfl];exact (S.p16 (by rw [gne (i:=13) (j:=16) rfl] at h;exact h))),
 fun h=>(by rw [gne (i:=13) (j:=14) rfl];exact (S.r16 (by rw [gne (i:=13) (j:=16) rfl] at h;exact h)))⟩
theorem sl9_14 {k gi go g0 g1 g2 g3 g7:Nat} {b:Array Bool} {ρ:Nat->Value} (S:Sl9 k gi go g0 g1 g2 g3 g7 b ρ) (h0:b.getD 14 true=false) (hd:∀j∈[6,10,11,13],b.getD j false=true):Sl9 k gi go g0 g1 g2 g3 g7 (b.setIfInBounds 14 true) (upd ρ 40 (.agg (qC (scrA k g0 g1 g2) (scrN k) (scrN k) (⟨(Tx.dig Tx.tTx Ex.t),(k:Int)⟩:DPoint) (Old.Bl.sum Ex.x) (Tx.dig Tx.tTx Ex.t)).toArray)) :=
 ⟨fun h=>S.a0 (by rw [gne (i:=14) (j:=0) rfl] at h;exact h),
 fun h=>S.a1 (by rw [gne (i:=14) (j:=1) rfl] at h;exact h),
 fun h=>S.a2 (by rw [gne (i:=14) (j:=2) rfl] at h;exact h),
 fun h=>S.a3 (by rw [gne (i:=14) (j:=3) rfl] at h;exact h),
 fun h=>S.a4 (by rw [gne (i:=14) (j:=4) rfl] at h;exact h),
 fun h=>S.a5 (by rw [gne (i:=14) (j:=5) rfl] at h;exact h),
 fun h=>S.a6 (by rw [gne (i:=14) (j:=6) rfl] at h;exact h),
 fun h=>S.a7 (by rw [gne (i:=14) (j:=7) rfl] at h;exact h),
 fun h=>S.a8 (by rw [gne (i:=14) (j:=8) rfl] at h;exact h),
 fun h=>S.a9 (by rw [gne (i:=14) (j:=9) rfl] at h;exact h),
 fun h=>S.a10 (by rw [gne (i:=14) (j:=10) rfl] at h;exact h),
 fun h=>S.a11 (by rw [gne (i:=14) (j:=11) rfl] at h;exact h),
 fun h=>S.a12 (by rw [gne (i:=14) (j:=12) rfl] at h;exact h),
 fun h=>S.a13 (by rw [gne (i:=14) (j:=13) rfl] at h;exact h),
 fun _=>rfl,
 fun h=>S.a15 (by rw [gne (i:=14) (j:=15) rfl] at h;exact h),
 fun h=>⟨(by rw [gne (i:=14) (j:=0) rfl];exact (S.p3 (by rw [gne (i:=14) (j:=3) rfl] at h;exact h)).1),(by rw [gne (i:=14) (j:=1) rfl];exact (S.p3 (by rw [gne (i:=14) (j:=3) rfl] at h;exact h)).2.1),(by rw [gne (i:=14) (j:=2) rfl];exact (S.p3 (by rw [gne (i:=14) (j:=3) rfl] at h;exact h)).2.2)⟩,
 fun h=>(by rw [gne (i:=14) (j:=3) rfl];exact (S.p5 (by rw [gne (i:=14) (j:=5) rfl] at h;exact h))),
 fun h=>(by rw [gne (i:=14) (j:=5) rfl];exact (S.p6 (by rw [gne (i:=14) (j:=6) rfl] at h;exact h))),
 fun h=>(by rw [gne (i:=14) (j:=6) rfl];exact hd 6 (by simp)),
 fun h=>(by rw [gne (i:=14) (j:=15) rfl];exact (S.p16 (by rw [gne (i:=14) (j:=16) rfl] at h;exact h))),
 fun h=>(gset h0).1⟩
theorem sl9_15 {k gi go g0 g1 g2 g3 g7:Nat} {g:Nat} {b:Array Bool} {ρ:Nat->Value} (S:Sl9 k gi go g0 g1 g2 g3 g7 b ρ) (h0:b.getD 15 true=false) (hd:∀j∈([]:List Nat),b.getD j false=true):Sl9 k gi go g0 g1 g2 g3 g (b.setIfInBounds 15 true) (upd ρ 7 (.pointer (some ⟨g,0,none⟩))) :=
 ⟨fun h=>S.a0 (by rw [gne (i:=15) (j:=0) rfl] at h;exact h),
 fun h=>S.a1 (by rw [gne (i:=15) (j:=1) rfl] at h;exact h),
 fun h=>S.a2 (by rw [gne (i:=15) (j:=2) rfl] at h;exact h),
 fun h=>S.a3 (by rw [gne (i:=15) (j:=3) rfl] at h;exact h),
 fun h=>S.a4 (by rw [gne (i:=15) (j:=4) rfl] at h;exact h),
 fun h=>S.a5 (by rw [gne (i:=15) (j:=5) rfl] at h;exact h),
 fun h=>S.a6 (by rw [gne (i:=15) (j:=6) rfl] at h;exact h),
 fun h=>S.a7 (by rw [gne (i:=15) (j:=7) rfl] at h;exact h),
 fun h=>S.a8 (by rw [gne (i:=15) (j:=8) rfl] at h;exact h),
 fun h=>S.a9 (by rw [gne (i:=15) (j:=9) rfl] at h;exact h),
 fun h=>S.a10 (by rw [gne (i:=15) (j:=10) rfl] at h;exact h),
 fun h=>S.a11 (by rw [gne (i:=15) (j:=11) rfl] at h;exact h),
 fun h=>S.a12 (by rw [gne (i:=15) (j:=12) rfl] at h;exact h),
 fun h=>S.a13 (by rw [gne (i:=15) (j:=13) rfl] at h;exact h),
 fun h=>S.a14 (by rw [gne (i:=15) (j:=14) rfl] at h;exact h),
 fun _=>rfl,
 fun h=>⟨(by rw [gne (i:=15) (j:=0) rfl];exact (S.p3 (by rw [gne (i:=15) (j:=3) rfl] at h;exact h)).1),(by rw [gne (i:=15) (j:=1) rfl];exact (S.p3 (by rw [gne (i:=15) (j:=3) rfl] at h;exact h)).2.1),(by rw [gne (i:=15) (j:=2) rfl];exact (S.p3 (by rw [gne (i:=15) (j:=3) rfl] at h;exact h)).2.2)⟩,
 fun h=>(by rw [gne (i:=15) (j:=3) rfl];exact (S.p5 (by rw [gne (i:=15) (j:=5) rfl] at h;exact h))),
 fun h=>(by rw [gne (i:=15) (j:=5) rfl];exact (S.p6 (by rw [gne (i:=15) (j:=6) rfl] at h;exact h))),
 fun h=>(by rw [gne (i:=15) (j:=6) rfl];exact (S.p14 (by rw [gne (i:=15) (j:=14) rfl] at h;exact h))),
 fun h=>(gset h0).1,
 fun h=>(by rw [gne (i:=15) (j:=14) rfl];exact (S.r16 (by rw [gne (i:=15) (j:=16) rfl] at h;exact h)))⟩
theorem sl9_16 {k gi go g0 g1 g2 g3 g7:Nat} {b:Array Bool} {ρ:Nat->Value} (S:Sl9 k gi go g0 g1 g2 g3 g7 b ρ) (h15:b.getD 15 false=true) (h14:b.getD 14 false=true):Sl9 k gi go g0 g1 g2 g3 g7 (b.setIfInBounds 16 true) ρ :=
 ⟨fun h=>S.a0 (by rw [gne (i:=16) (j:=0) rfl] at h;exact h),
 fun h=>S.a1 (by rw [gne (i:=16) (j:=1) rfl] at h;exact h),
 fun h=>S.a2 (by rw [gne (i:=16) (j:=2) rfl] at h;exact h),
 fun h=>S.a3 (by rw [gne (i:=16) (j:=3) rfl] at h;exact h),
 fun h=>S.a4 (by rw [gne (i:=16) (j:=4) rfl] at h;exact h),
 fun h=>S.a5 (by rw [gne (i:=16) (j:=5) rfl] at h;exact h),
 fun h=>S.a6 (by rw [gne (i:=16) (j:=6) rfl] at h;exact h),
 fun h=>S.a7 (by rw [gne (i:=16) (j:=7) rfl] at h;exact h),
 fun h=>S.a8 (by rw [gne (i:=16) (j:=8) rfl] at h;exact h),
 fun h=>S.a9 (by rw [gne (i:=16) (j:=9) rfl] at h;exact h),
 fun h=>S.a10 (by rw [gne (i:=16) (j:=10) rfl] at h;exact h),
 fun h=>S.a11 (by rw [gne (i:=16) (j:=11) rfl] at h;exact h),
 fun h=>S.a12 (by rw [gne (i:=16) (j:=12) rfl] at h;exact h),
 fun h=>S.a13 (by rw [gne (i:=16) (j:=13) rfl] at h;exact h),
 fun h=>S.a14 (by rw [gne (i:=16) (j:=14) rfl] at h;exact h),
 fun h=>S.a15 (by rw [gne (i:=16) (j:=15) rfl] at h;exact h),
 fun h=>⟨(by rw [gne (i:=16) (j:=0) rfl];exact (S.p3 (by rw [gne (i:=16) (j:=3) rfl] at h;exact h)).1),(by rw [gne (i:=16) (j:=1) rfl];exact (S.p3 (by rw [gne (i:=16) (j:=3) rfl] at h;exact h)).2.1),(by rw [gne (i:=16) (j:=2) rfl];exact (S.p3 (by rw [gne (i:=16) (j:=3) rfl] at h;exact h)).2.2)⟩,
 fun h=>(by rw [gne (i:=16) (j:=3) rfl];exact (S.p5 (by rw [gne (i:=16) (j:=5) rfl] at h;exact h))),
 fun h=>(by rw [gne (i:=16) (j:=5) rfl];exact (S.p6 (by rw [gne (i:=16) (j:=6) rfl] at h;exact h))),
 fun h=>(by rw [gne (i:=16) (j:=6) rfl];exact (S.p14 (by rw [gne (i:=16) (j:=14) rfl] at h;exact h))),
 fun _=>(by rw [gne (i:=16) (j:=15) rfl];exact h15),
 fun _=>(by rw [gne (i:=16) (j:=14) rfl];exact h14)⟩

def L9 (k gi go:Nat) (L0:List Fact) (g0 g1 g2 g3 g7:Nat) (b:Array Bool):List Fact:=Fact.fx (b.getD 0 false) (b.getD 1 false) (b.getD 2 false) (b.getD 3 false) g0 g1 g2 g3::((bif b.getD 15 false then [Fact.blk g7 (bif b.getD 16 false then qC (scrA k g0 g1 g2) (scrN k) (scrN k) (⟨(Tx.dig Tx.tTx Ex.t),(k:Int)⟩:DPoint) (Old.Bl.sum Ex.x) (Tx.dig Tx.tTx Ex.t) else qC none 0 0 zPt (List.replicate 32 0) (List.replicate 32 0)) 29] else [])++L0)
def J9 (w0:World) (k gi go:Nat) (L0:List Fact) (ρ0:Nat->Value) (ds:List Deferred) (b:Array Bool) (a:Act) (W:World):Prop:=∃(g0 g1 g2 g3 g7:Nat) (ρ:Nat->Value),a=st 127 ρ ds∧Eqo 26 [7] ρ0 ρ∧Sl9 k gi go g0 g1 g2 g3 g7 b ρ∧St nT w0 W (L9 k gi go L0 g0 g1 g2 g3 g7 b)
theorem St.addE {T:Nat->Prop} {w0 W:World} {L:List Fact} {f:Fact} (H:St T w0 W L) (hp:f.p W) (hf:∀g,¬f.fp g):St T w0 W (f::L) :=
 ⟨H.fr,fun x hx=>by
  rcases List.mem_cons.1 hx with rfl|hx
  ·exact hp
  ·exact H.holds x hx,fun x hx g hg=>by
  rcases List.mem_cons.1 hx with rfl|hx
  ·exact absurd hg (hf g)
  ·exact H.own x hx g hg,List.pairwise_cons.2 ⟨fun x _ g hg=>absurd hg (hf g),H.apart⟩⟩
theorem len_qC {A:Option Addr} {m c:Nat} {pt:DPoint} {h id:List UInt8} (hp:pt.tx.length=32) (hh:h.length=32) (hi:id.length=32):(qC A m c pt h id).length=98:=by
 unfold qC
 simp only [List.length_append,len_point hp,List.length_map,hh,hi]
 rfl
theorem qC_one {A:Option Addr} {m c:Nat} {pt:DPoint} {h id:List UInt8}:(qC A m c pt h id).all (·.oneCell')=true:=by unfold qC pointC;simp [List.all_append,all_u8L,Value.oneCell']
theorem tz_q:((Tryz.prog.info? 29).bind (·.zero)).map (·.cells)=some (qC none 0 0 zPt (List.replicate 32 0) (List.replicate 32 0)).toArray:=by kernel_rfl
section
variable {n:Nat} {ρ:Nat->Value} {W:World} {o:Oper} {x y z u:Operand}
theorem b_xptk {d:List UInt8} {i:Int} (hd:d.length=32) (ho:o.op=.build 27 #[(0,x),(1,y)]) (hx:ev n ρ x=.agg (d.map u8v).toArray) (hy:ev n ρ y=.int .i64 i):Runs Tryz.prog n ρ o W (.agg (pointC ⟨d,i⟩).toArray) W :=
 dB (vs:=pointC ⟨d,i⟩) ho (by
  show Program.built _ _ [(0,ev n ρ x),(1,ev n ρ y)]=_
  rw [hx,hy]
  exact (built_fields (places:=[(0,32),(32,1)]) tz27 (by kernel_rfl) (by kernel_rfl) (fN (vs:=d.map u8v) (.agg (d.map u8v).toArray) U U U (by rw [List.length_map];exact hd) (Nat.le_of_ble_eq_true U) (fN (vs:=[.int .i64 i]) (.int .i64 i) U (by simp [hd]) U U (Nat.le_of_ble_eq_true U) (fill_end (by simp [pointC]))))))
theorem b_xq {A:Option Addr} {m c:Nat} {pt:DPoint} {h id:List UInt8} (hp:pt.tx.length=32) (hh:h.length=32) (hi:id.length=32) (ho:o.op=.build 29 #[(0,x),(1,y),(2,z),(3,u)]) (hx:ev n ρ x=.slice A m c) (hy:ev n ρ y=.agg (pointC pt).toArray) (hz:ev n ρ z=.agg (h.map u8v).toArray) (hu:ev n ρ u=.agg (id.map u8v).toArray):Runs Tryz.prog n ρ o W (.agg (qC A m c pt h id).toArray) W :=
 have h1:=len_point hp
 have h2:(h.map u8v).length=32:=by rw [List.length_map];exact hh
 have h3:(id.map u8v).length=32:=by rw [List.length_map];exact hi
 dB (vs:=qC A m c pt h id) ho (by
  show Program.built _ _ [(0,ev n ρ x),(1,ev n ρ y),(2,ev n ρ z),(3,ev n ρ u)]=_
  rw [hx,hy,hz,hu]
  exact (built_fields (places:=[(0,1),(1,33),(34,32),(66,32)]) tz_q (by kernel_rfl) (by kernel_rfl) (fN (vs:=[.slice A m c]) (.slice A m c) U U U U (Nat.le_of_ble_eq_true U) (fN (vs:=pointC pt) (.agg (pointC pt).toArray) U (by rfl) U h1 (Nat.le_of_ble_eq_true U) (fN (vs:=h.map u8v) (.agg (h.map u8v).toArray) U (by first|(simp [h1];done)|(simp [h1];omega)) U h2 (Nat.le_of_ble_eq_true U) (fN (vs:=id.map u8v) (.agg (id.map u8v).toArray) U (by first|(simp [h1,h2];done)|(simp [h1,h2];omega)) U h3 (Nat.le_of_ble_eq_true U) (fill_end (by simp [qC,len_point (p:=zPt) List.length_replicate]))))))))
end
theorem scr_cell {k g0 g1 g2:Nat} (hk:k<4):([Value.slice (some ⟨g0,0,none⟩) 2 2,.slice none 0 0,.slice (some ⟨g1,0,none⟩) 1 1,.slice (some ⟨g2,0,none⟩) 3 3])[0+k*1]?=some (.slice (scrA k g0 g1 g2) (scrN k) (scrN k)):=by
 match k,hk with
 | 0,_=>rfl
 | 1,_=>rfl
 | 2,_=>rfl
 | 3,_=>rfl

attribute [local irreducible] Tx.dig Old.Bl.sum
theorem reg9 {l:List Oper} {id:Nat} {cs:List Code} {Q:Exit->Act->World->Prop} {ρ0:Nat->Value} {ds:List Deferred} {w0 w:World} {L0:List Fact} {k gc gi go gt gh:Nat} {S_:Nat->Prop}
  (hk:k<4) (hρ:ρ0 6=.int .i64 (k:Int)) (hρ2:ρ0 2=.pointer (some ⟨gt,0,none⟩)) (hρ4:ρ0 4=.pointer (some ⟨gh,0,none⟩)) (mt:Fact.blk gt (txC (some ⟨gi,0,none⟩) 1 1 (some ⟨go,0,none⟩) 2 2 0) 47∈L0) (mh:Fact.blk gh ((Old.Bl.sum Ex.x).map u8v) 25∈L0) (me:Fact.ex S_ gc gi go∈L0) (hG:Gat w0 2 formsC) (hB:Old.Gl w0)
  (hlen:l.length=17) (hlt:(l.zipIdx.all fun x=>x.1.after.toList.all fun e=>Nat.blt e.on x.2)=true) (ho0:Oat l 0 (some 26) (.buildSlice 23 2 #[(0,.const (.int .u8 5)),(1,.const (.int .u8 6))]) []) (ho1:Oat l 1 (some 27) (.buildSlice 23 1 #[(0,.const (.int .u8 5))]) []) (ho2:Oat l 2 (some 28) (.buildSlice 23 3 #[(0,.const (.int .u8 5)),(1,.const (.int .u8 6)),(2,.const (.int .u8 7))]) []) (ho3:Oat l 3 (some 29) (.buildSlice 66 4 #[(0,.tmp 26),(1,.const (.slice none 0 0)),(2,.tmp 27),(3,.tmp 28)]) [0,1,2]) (ho4:Oat l 4 (some 30) (.move (.tmp 6)) []) (ho5:Oat l 5 (some 31) (.indexAddr 66 (.tmp 29) (.tmp 30)) [3,4]) (ho6:Oat l 6 (some 32) (.load 23 (.tmp 31)) [5]) (ho7:Oat l 7 (some 33) (.load 47 (.tmp 2)) []) (ho8:Oat l 8 (some 34) (.call { callee:=.value (.func 25),args:=#[.tmp 33],argTypes:=#[47] }) [7]) (ho9:Oat l 9 (some 35) (.move (.tmp 6)) []) (ho10:Oat l 10 (some 36) (.build 27 #[(0,.tmp 34),(1,.tmp 35)]) [8,9]) (ho11:Oat l 11 (some 37) (.load 25 (.tmp 4)) []) (ho12:Oat l 12 (some 38) (.load 47 (.tmp 2)) []) (ho13:Oat l 13 (some 39) (.call { callee:=.value (.func 25),args:=#[.tmp 38],argTypes:=#[47] }) [12]) (ho14:Oat l 14 (some 40) (.build 29 #[(0,.tmp 32),(1,.tmp 36),(2,.tmp 37),(3,.tmp 39)]) [6,10,11,13]) (ho15:Oat l 15 (some 7) (.alloc 29) []) (ho16:Oat l 16 none (.store 29 (.tmp 7) (.tmp 40)) [0,1,2,3,4,5,6,7,8,9,10,11,12,13,14,15])
  (hm:Tryz.prog.follows .mixedOrders=true) (H:St nT w0 w L0)
  (kk:∀g0 g1 g2 g3 g7 ρ W,Eqo 26 [7] ρ0 ρ->ρ 7=.pointer (some ⟨g7,0,none⟩)->St nT w0 W (Fact.fx true true true true g0 g1 g2 g3::Fact.blk g7 (qC (scrA k g0 g1 g2) (scrN k) (scrN k) (⟨(Tx.dig Tx.tTx Ex.t),(k:Int)⟩:DPoint) (Old.Bl.sum Ex.x) (Tx.dig Tx.tTx Ex.t)) 29::L0)->wpK Tryz.prog Q cs (st 127 ρ ds) W):wpK Tryz.prog Q (.region id l.toArray true::cs) (st 127 ρ0 ds) w:=by
 refine k_drawJ (J9 w0 k gi go L0 ρ0 ds) hm H (fun W H=>?_) (fun b a W i hJ hi=>?_) (fun b a W hJ hs hr=>?_)
 ·have hz:∀j,¬(Array.replicate l.toArray.size false).getD j false=true:=fun j=>by
   rw [Array.getD_eq_getD_getElem?,Array.getElem?_replicate]
   split <;> simp
  have hf:∀j,(Array.replicate l.toArray.size false).getD j false=false:=fun j=>Bool.eq_false_iff.2 (hz j)
  refine ⟨0,0,0,0,0,ρ0,U,Eqo.refl,⟨fun h=>absurd h (hz _),fun h=>absurd h (hz _),fun h=>absurd h (hz _),fun h=>absurd h (hz _),fun h=>absurd h (hz _),fun h=>absurd h (hz _),fun h=>absurd h (hz _),fun h=>absurd h (hz _),fun h=>absurd h (hz _),fun h=>absurd h (hz _),fun h=>absurd h (hz _),fun h=>absurd h (hz _),fun h=>absurd h (hz _),fun h=>absurd h (hz _),fun h=>absurd h (hz _),fun h=>absurd h (hz _),fun h=>absurd h (hz _),fun h=>absurd h (hz _),fun h=>absurd h (hz _),fun h=>absurd h (hz _),fun h=>absurd h (hz _),fun h=>absurd h (hz _)⟩,?_⟩
  unfold L9
  rw [hf 0,hf 1,hf 2,hf 3,hf 15]
  exact H.addE ⟨(fun h=>by cases h),(fun h=>by cases h),(fun h=>by cases h),(fun h=>by cases h)⟩ (fun g hg=>by rcases hg with ⟨h,_⟩|⟨h,_⟩|⟨h,_⟩|⟨h,_⟩ <;> cases h)
 ·obtain ⟨g0,g1,g2,g3,g7,ρ,rfl,hE,S,H⟩:=hJ
  have hi17:i<17:=by
   obtain ⟨_,o,ho,_⟩:=mem_ready.1 hi
   have:=(Array.getElem?_eq_some_iff.1 ho).1
   simpa [hlen] using this
  have hc:i=0∨i=1∨i=2∨i=3∨i=4∨i=5∨i=6∨i=7∨i=8∨i=9∨i=10∨i=11∨i=12∨i=13∨i=14∨i=15∨i=16:=by omega
  rcases hc with rfl|rfl|rfl|rfl|rfl|rfl|rfl|rfl|rfl|rfl|rfl|rfl|rfl|rfl|rfl|rfl|rfl
  ·obtain ⟨h0,hd⟩:=ho0.up hi
   obtain ⟨o,ho,hgd,hds,hop,-⟩:=ho0
   refine wpOp_step ho (e_bsl (xs:=[.const (.int .u8 5),.const (.int .u8 6)]) (vals:=[Value.int .u8 5,.int .u8 6]) (vs:=[Value.int .u8 5,.int .u8 6]) (wn hgd) hds hop U U U U tu23 ts5 ty5 U U U H (fun g W1 H1=>⟨g,g1,g2,g3,g7,_,U,hE.upd U,sl9_0 S h0 hd,?_⟩))
   unfold L9
   rw [(gset h0).1,gne (i:=0) (j:=1) rfl,gne (i:=0) (j:=2) rfl,gne (i:=0) (j:=3) rfl,gne (i:=0) (j:=15) rfl,gne (i:=0) (j:=16) rfl]
   have hn:¬b.getD 0 false=true:=by rw [(gset h0).2];simp
   have h16:b.getD 16 false=false:=Bool.eq_false_iff.2 (fun h=>hn (S.p3 (S.p5 (S.p6 (S.p14 (S.r16 h))))).1)
   unfold L9 at H1
   rw [h16] at H1 ⊢
   have hx_:=H1.holds _ (.head _)
   have hF:Fx _ _ _ _ _ _ _ _ _:=H1.holds _ (.tail _ (.head _))
   exact H1.merge (F:=Fact.fx true (b.getD 1 false) (b.getD 2 false) (b.getD 3 false) g g1 g2 g3) ⟨fun _=>hx_,hF.2.1,hF.2.2.1,fun h3=>absurd (S.p3 h3).1 hn⟩ (fun g2_ hg_=>by
     rcases hg_ with ⟨a_,rfl⟩|⟨a_,rfl⟩|⟨a_,rfl⟩|⟨a_,rfl⟩
     ·exact .inl U
     ·exact .inr (.inr (.inl ⟨a_,U⟩))
     ·exact .inr (.inr (.inr (.inl ⟨a_,U⟩)))
     ·exact .inr (.inr (.inr (.inr ⟨a_,U⟩))))
  ·obtain ⟨h0,hd⟩:=ho1.up hi
   obtain ⟨o,ho,hgd,hds,hop,-⟩:=ho1
   refine wpOp_step ho (e_bsl (xs:=[.const (.int .u8 5)]) (vals:=[Value.int .u8 5]) (vs:=[Value.int .u8 5]) (wn hgd) hds hop U U U U tu23 ts5 ty5 U U U H (fun g W1 H1=>⟨g0,g,g2,g3,g7,_,U,hE.upd U,sl9_1 S h0 hd,?_⟩))
   unfold L9
   rw [(gset h0).1,gne (i:=1) (j:=0) rfl,gne (i:=1) (j:=2) rfl,gne (i:=1) (j:=3) rfl,gne (i:=1) (j:=15) rfl,gne (i:=1) (j:=16) rfl]
   have hn:¬b.getD 1 false=true:=by rw [(gset h0).2];simp
   have h16:b.getD 16 false=false:=Bool.eq_false_iff.2 (fun h=>hn (S.p3 (S.p5 (S.p6 (S.p14 (S.r16 h))))).2.1)
   unfold L9 at H1
   rw [h16] at H1 ⊢
   have hx_:=H1.holds _ (.head _)
   have hF:Fx _ _ _ _ _ _ _ _ _:=H1.holds _ (.tail _ (.head _))
   exact H1.merge (F:=Fact.fx (b.getD 0 false) true (b.getD 2 false) (b.getD 3 false) g0 g g2 g3) ⟨hF.1,fun _=>hx_,hF.2.2.1,fun h3=>absurd (S.p3 h3).2.1 hn⟩ (fun g2_ hg_=>by
     rcases hg_ with ⟨a_,rfl⟩|⟨a_,rfl⟩|⟨a_,rfl⟩|⟨a_,rfl⟩
     ·exact .inr (.inl ⟨a_,U⟩)
     ·exact .inl U
     ·exact .inr (.inr (.inr (.inl ⟨a_,U⟩)))
     ·exact .inr (.inr (.inr (.inr ⟨a_,U⟩))))
  ·obtain ⟨h0,hd⟩:=ho2.up hi
   obtain ⟨o,ho,hgd,hds,hop,-⟩:=ho2
   refine wpOp_step ho (e_bsl (xs:=[.const (.int .u8 5),.const (.int .u8 6),.const (.int .u8 7)]) (vals:=[Value.int .u8 5,.int .u8 6,.int .u8 7]) (vs:=[Value.int .u8 5,.int .u8 6,.int .u8 7]) (wn hgd) hds hop U U U U tu23 ts5 ty5 U U U H (fun g W1 H1=>⟨g0,g1,g,g3,g7,_,U,hE.upd U,sl9_2 S h0 hd,?_⟩))
   unfold L9
   rw [(gset h0).1,gne (i:=2) (j:=0) rfl,gne (i:=2) (j:=1) rfl,gne (i:=2) (j:=3) rfl,gne (i:=2) (j:=15) rfl,gne (i:=2) (j:=16) rfl]
   have hn:¬b.getD 2 false=true:=by rw [(gset h0).2];simp
   have h16:b.getD 16 false=false:=Bool.eq_false_iff.2 (fun h=>hn (S.p3 (S.p5 (S.p6 (S.p14 (S.r16 h))))).2.2)
   unfold L9 at H1
   rw [h16] at H1 ⊢
   have hx_:=H1.holds _ (.head _)
   have hF:Fx _ _ _ _ _ _ _ _ _:=H1.holds _ (.tail _ (.head _))
   exact H1.merge (F:=Fact.fx (b.getD 0 false) (b.getD 1 false) true (b.getD 3 false) g0 g1 g g3) ⟨hF.1,hF.2.1,fun _=>hx_,fun h3=>absurd (S.p3 h3).2.2 hn⟩ (fun g2_ hg_=>by
     rcases hg_ with ⟨a_,rfl⟩|⟨a_,rfl⟩|⟨a_,rfl⟩|⟨a_,rfl⟩
     ·exact .inr (.inl ⟨a_,U⟩)
     ·exact .inr (.inr (.inl ⟨a_,U⟩))
     ·exact .inl U
     ·exact .inr (.inr (.inr (.inr ⟨a_,U⟩))))
  ·obtain ⟨h0,hd⟩:=ho3.up hi
   obtain ⟨o,ho,hgd,hds,hop,-⟩:=ho3
   refine wpOp_step ho (e_bsl (xs:=[.tmp 26,.const (.slice none 0 0),.tmp 27,.tmp 28]) (vals:=[Value.slice (some ⟨g0,0,none⟩) 2 2,.slice none 0 0,.slice (some ⟨g1,0,none⟩) 1 1,.slice (some ⟨g2,0,none⟩) 3 3]) (vs:=[Value.slice (some ⟨g0,0,none⟩) 2 2,.slice none 0 0,.slice (some ⟨g1,0,none⟩) 1 1,.slice (some ⟨g2,0,none⟩) 3 3]) (wn hgd) hds hop U U U (by show [ρ 26,Value.slice none 0 0,ρ 27,ρ 28]=_;rw [S.a0 (hd 0 (by simp)),S.a1 (hd 1 (by simp)),S.a2 (hd 2 (by simp))]) tu66 ts23 ty23 U U U H (fun g W1 H1=>⟨g0,g1,g2,g,g7,_,U,hE.upd U,sl9_3 S h0 hd,?_⟩))
   unfold L9
   rw [(gset h0).1,gne (i:=3) (j:=0) rfl,gne (i:=3) (j:=1) rfl,gne (i:=3) (j:=2) rfl,gne (i:=3) (j:=15) rfl,gne (i:=3) (j:=16) rfl]
   have hn:¬b.getD 3 false=true:=by rw [(gset h0).2];simp
   have hx_:=H1.holds _ (.head _)
   have hF:Fx _ _ _ _ _ _ _ _ _:=H1.holds _ (.tail _ (.head _))
   exact H1.merge (F:=Fact.fx (b.getD 0 false) (b.getD 1 false) (b.getD 2 false) true g0 g1 g2 g) ⟨hF.1,hF.2.1,hF.2.2.1,fun _=>hx_⟩ (fun g2_ hg_=>by
     rcases hg_ with ⟨a_,rfl⟩|⟨a_,rfl⟩|⟨a_,rfl⟩|⟨a_,rfl⟩
     ·exact .inr (.inl ⟨a_,U⟩)
     ·exact .inr (.inr (.inl ⟨a_,U⟩))
     ·exact .inr (.inr (.inr (.inl ⟨a_,U⟩)))
     ·exact .inl U)
  ·obtain ⟨h0,hd⟩:=ho4.up hi
   obtain ⟨o,ho,hgd,hds,hop,-⟩:=ho4
   refine wpOp_step ho (e_run (wn hgd) hds (mv_i hop (by show ρ 6=_;rw [hE 6 U];exact hρ)) ⟨g0,g1,g2,g3,g7,_,U,hE.upd U,sl9_4 S h0 hd,?_⟩)
   unfold L9
   rw [gne (i:=4) (j:=0) rfl,gne (i:=4) (j:=1) rfl,gne (i:=4) (j:=2) rfl,gne (i:=4) (j:=3) rfl,gne (i:=4) (j:=15) rfl,gne (i:=4) (j:=16) rfl]
   exact H
  ·obtain ⟨h0,hd⟩:=ho5.up hi
   obtain ⟨o,ho,hgd,hds,hop,-⟩:=ho5
   refine wpOp_step ho (e_run (wn hgd) hds (d_iaP (q:=k) hop (S.a3 (hd 3 (by simp))) (S.a4 (hd 4 (by simp))) U hk tu66 ts23) ⟨g0,g1,g2,g3,g7,_,U,hE.upd U,sl9_5 S h0 hd,?_⟩)
   unfold L9
   rw [gne (i:=5) (j:=0) rfl,gne (i:=5) (j:=1) rfl,gne (i:=5) (j:=2) rfl,gne (i:=5) (j:=3) rfl,gne (i:=5) (j:=15) rfl,gne (i:=5) (j:=16) rfl]
   exact H
  ·obtain ⟨h0,hd⟩:=ho6.up hi
   obtain ⟨o,ho,hgd,hds,hop,-⟩:=ho6
   refine wpOp_step ho (e_run (wn hgd) hds (d_ldC hop (S.a5 (hd 5 (by simp))) ta23 (by rw [blk_cell ((H.holds _ (.head _)).2.2.2 (S.p5 (hd 5 (by simp))))];exact scr_cell hk)) ⟨g0,g1,g2,g3,g7,_,U,hE.upd U,sl9_6 S h0 hd,?_⟩)
   unfold L9
   rw [gne (i:=6) (j:=0) rfl,gne (i:=6) (j:=1) rfl,gne (i:=6) (j:=2) rfl,gne (i:=6) (j:=3) rfl,gne (i:=6) (j:=15) rfl,gne (i:=6) (j:=16) rfl]
   exact H
  ·obtain ⟨h0,hd⟩:=ho7.up hi
   obtain ⟨o,ho,hgd,hds,hop,-⟩:=ho7
   refine wpOp_step ho (e_run (wn hgd) hds (d_ldGM (off:=0) hop (gatb (H.holds (Fact.blk gt (txC (some ⟨gi,0,none⟩) 1 1 (some ⟨go,0,none⟩) 2 2 0) 47) (.tail _ (List.mem_append_right _ mt)))) (sa (m:=3) U) U U (by show ρ 2=_;rw [hE 2 U];exact hρ2) U ta47 ts47) ⟨g0,g1,g2,g3,g7,_,U,hE.upd U,sl9_7 S h0 hd,?_⟩)
   unfold L9
   rw [gne (i:=7) (j:=0) rfl,gne (i:=7) (j:=1) rfl,gne (i:=7) (j:=2) rfl,gne (i:=7) (j:=3) rfl,gne (i:=7) (j:=15) rfl,gne (i:=7) (j:=16) rfl]
   exact H
  ·obtain ⟨h0,hd⟩:=ho8.up hi
   obtain ⟨o,ho,hgd,hds,hop,-⟩:=ho8
   refine wpOp_step ho (e_call (wn hgd) hds hop Tryz.func25 U U (l:=[.agg (txC (some ⟨gi,0,none⟩) 1 1 (some ⟨go,0,none⟩) 2 2 0).toArray]) (by show [ρ 33]=_;rw [S.a7 (hd 7 (by simp))]) (idTP _ (H.holds (Fact.ex S_ gc gi go) (.tail _ (List.mem_append_right _ me))).2 (H.gat hG) (H.gl hB)) (fun v W1 hv=>?_))
   obtain ⟨rfl,hb⟩:=hv
   refine ⟨g0,g1,g2,g3,g7,_,U,hE.upd U,sl9_8 S h0 hd,?_⟩
   unfold L9
   rw [gne (i:=8) (j:=0) rfl,gne (i:=8) (j:=1) rfl,gne (i:=8) (j:=2) rfl,gne (i:=8) (j:=3) rfl,gne (i:=8) (j:=15) rfl,gne (i:=8) (j:=16) rfl]
   exact H.below hb
  ·obtain ⟨h0,hd⟩:=ho9.up hi
   obtain ⟨o,ho,hgd,hds,hop,-⟩:=ho9
   refine wpOp_step ho (e_run (wn hgd) hds (mv_i hop (by show ρ 6=_;rw [hE 6 U];exact hρ)) ⟨g0,g1,g2,g3,g7,_,U,hE.upd U,sl9_9 S h0 hd,?_⟩)
   unfold L9
   rw [gne (i:=9) (j:=0) rfl,gne (i:=9) (j:=1) rfl,gne (i:=9) (j:=2) rfl,gne (i:=9) (j:=3) rfl,gne (i:=9) (j:=15) rfl,gne (i:=9) (j:=16) rfl]
   exact H
  ·obtain ⟨h0,hd⟩:=ho10.up hi
   obtain ⟨o,ho,hgd,hds,hop,-⟩:=ho10
   refine wpOp_step ho (e_run (wn hgd) hds (b_xptk Tx.len_dig hop (S.a8 (hd 8 (by simp))) (S.a9 (hd 9 (by simp)))) ⟨g0,g1,g2,g3,g7,_,U,hE.upd U,sl9_10 S h0 hd,?_⟩)
   unfold L9
   rw [gne (i:=10) (j:=0) rfl,gne (i:=10) (j:=1) rfl,gne (i:=10) (j:=2) rfl,gne (i:=10) (j:=3) rfl,gne (i:=10) (j:=15) rfl,gne (i:=10) (j:=16) rfl]
   exact H
  ·obtain ⟨h0,hd⟩:=ho11.up hi
   obtain ⟨o,ho,hgd,hds,hop,-⟩:=ho11
   refine wpOp_step ho (e_run (wn hgd) hds (d_ldGM (off:=0) hop (gatb (H.holds (Fact.blk gh ((Old.Bl.sum Ex.x).map u8v) 25) (.tail _ (List.mem_append_right _ mh)))) (sa (by rw [List.length_map];exact Old.Bl.len_sum _)) (by rw [List.length_map];exact Old.Bl.len_sum _) U (by show ρ 4=_;rw [hE 4 U];exact hρ4) U ta25 ts25) ⟨g0,g1,g2,g3,g7,_,U,hE.upd U,sl9_11 S h0 hd,?_⟩)
   unfold L9
   rw [gne (i:=11) (j:=0) rfl,gne (i:=11) (j:=1) rfl,gne (i:=11) (j:=2) rfl,gne (i:=11) (j:=3) rfl,gne (i:=11) (j:=15) rfl,gne (i:=11) (j:=16) rfl]
   exact H
  ·obtain ⟨h0,hd⟩:=ho12.up hi
   obtain ⟨o,ho,hgd,hds,hop,-⟩:=ho12
   refine wpOp_step ho (e_run (wn hgd) hds (d_ldGM (off:=0) hop (gatb (H.holds (Fact.blk gt (txC (some ⟨gi,0,none⟩) 1 1 (some ⟨go,0,none⟩) 2 2 0) 47) (.tail _ (List.mem_append_right _ mt)))) (sa (m:=3) U) U U (by show ρ 2=_;rw [hE 2 U];exact hρ2) U ta47 ts47) ⟨g0,g1,g2,g3,g7,_,U,hE.upd U,sl9_12 S h0 hd,?_⟩)
   unfold L9
   rw [gne (i:=12) (j:=0) rfl,gne (i:=12) (j:=1) rfl,gne (i:=12) (j:=2) rfl,gne (i:=12) (j:=3) rfl,gne (i:=12) (j:=15) rfl,gne (i:=12) (j:=16) rfl]
   exact H
  ·obtain ⟨h0,hd⟩:=ho13.up hi
   obtain ⟨o,ho,hgd,hds,hop,-⟩:=ho13
   refine wpOp_step ho (e_call (wn hgd) hds hop Tryz.func25 U U (l:=[.agg (txC (some ⟨gi,0,none⟩) 1 1 (some ⟨go,0,none⟩) 2 2 0).toArray]) (by show [ρ 38]=_;rw [S.a12 (hd 12 (by simp))]) (idTP _ (H.holds (Fact.ex S_ gc gi go) (.tail _ (List.mem_append_right _ me))).2 (H.gat hG) (H.gl hB)) (fun v W1 hv=>?_))
   obtain ⟨rfl,hb⟩:=hv
   refine ⟨g0,g1,g2,g3,g7,_,U,hE.upd U,sl9_13 S h0 hd,?_⟩
   unfold L9
   rw [gne (i:=13) (j:=0) rfl,gne (i:=13) (j:=1) rfl,gne (i:=13) (j:=2) rfl,gne (i:=13) (j:=3) rfl,gne (i:=13) (j:=15) rfl,gne (i:=13) (j:=16) rfl]
   exact H.below hb
  ·obtain ⟨h0,hd⟩:=ho14.up hi
   obtain ⟨o,ho,hgd,hds,hop,-⟩:=ho14
   refine wpOp_step ho (e_run (wn hgd) hds (b_xq Tx.len_dig (Old.Bl.len_sum _) Tx.len_dig hop (S.a6 (hd 6 (by simp))) (S.a10 (hd 10 (by simp))) (S.a11 (hd 11 (by simp))) (S.a13 (hd 13 (by simp)))) ⟨g0,g1,g2,g3,g7,_,U,hE.upd U,sl9_14 S h0 hd,?_⟩)
   unfold L9
   rw [gne (i:=14) (j:=0) rfl,gne (i:=14) (j:=1) rfl,gne (i:=14) (j:=2) rfl,gne (i:=14) (j:=3) rfl,gne (i:=14) (j:=15) rfl,gne (i:=14) (j:=16) rfl]
   exact H
  ·obtain ⟨h0,hd⟩:=ho15.up hi
   obtain ⟨o,ho,hgd,hds,hop,-⟩:=ho15
   refine wpOp_step ho (e_alloc (wn hgd) hds hop (qC none 0 0 zPt (List.replicate 32 0) (List.replicate 32 0)) tz_q H (fun g W1 H1=>⟨g0,g1,g2,g3,g,_,U,hE.upd U,sl9_15 S h0 hd,?_⟩))
   have hn:b.getD 15 false=false:=(gset h0).2
   have h16:b.getD 16 false=false:=by
    cases h6:b.getD 16 false with
    | false=>rfl
    | true=>have:=S.p16 h6;rw [hn] at this;cases this
   unfold L9 at H1 ⊢
   rw [(gset h0).1,gne (i:=15) (j:=0) rfl,gne (i:=15) (j:=1) rfl,gne (i:=15) (j:=2) rfl,gne (i:=15) (j:=3) rfl,gne (i:=15) (j:=16) rfl,h16]
   rw [hn] at H1
   exact H1.perm (.swap _ _ _)
  ·obtain ⟨h0,hd⟩:=ho16.up hi
   obtain ⟨o,ho,hgd,hds,hop,-⟩:=ho16
   have h15:=hd 15 (by simp)
   have h16:=(gset h0).2
   have lq:(qC (scrA k g0 g1 g2) (scrN k) (scrN k) (⟨(Tx.dig Tx.tTx Ex.t),(k:Int)⟩:DPoint) (Old.Bl.sum Ex.x) (Tx.dig Tx.tTx Ex.t)).length=98:=len_qC Tx.len_dig (Old.Bl.len_sum _) Tx.len_dig
   have lz:(qC none 0 0 zPt (List.replicate 32 0) (List.replicate 32 0)).length=98:=len_qC List.length_replicate List.length_replicate List.length_replicate
   unfold L9 at H
   rw [h15,h16] at H
   replace H:St nT w0 W (Fact.fx (b.getD 0 false) (b.getD 1 false) (b.getD 2 false) (b.getD 3 false) g0 g1 g2 g3::Fact.blk g7 (qC none 0 0 zPt (List.replicate 32 0) (List.replicate 32 0)) 29::L0):=H
   refine wpOp_step ho (e_stoK (qC (scrA k g0 g1 g2) (scrN k) (scrN k) (⟨(Tx.dig Tx.tTx Ex.t),(k:Int)⟩:DPoint) (Old.Bl.sum Ex.x) (Tx.dig Tx.tTx Ex.t)) (wn hgd) hds hop (S.a15 h15) (S.a14 (hd 14 (by simp))) U ts29 lq qC_one H (by rw [lz];decide) (spl_all (lq.trans lz.symm)) (fun W1 H1=>⟨g0,g1,g2,g3,g7,_,U,hE,sl9_16 S h15 (hd 14 (by simp)),?_⟩))
   unfold L9
   rw [(gset h0).1,gne (i:=16) (j:=0) rfl,gne (i:=16) (j:=1) rfl,gne (i:=16) (j:=2) rfl,gne (i:=16) (j:=3) rfl,gne (i:=16) (j:=15) rfl,h15]
   exact H1
 ·obtain ⟨g0,g1,g2,g3,g7,ρ,rfl,hE,S,H⟩:=hJ
  have ha:∀i,i<17->b.getD i false=true:=fun i hi=>all_up hlt hs hr 17 i hi (by rw [hlen];exact hi)
  refine kk g0 g1 g2 g3 g7 ρ W hE (S.a15 (ha 15 (by decide))) ?_
  unfold L9 at H
  rw [ha 0 (by decide),ha 1 (by decide),ha 2 (by decide),ha 3 (by decide),ha 15 (by decide),ha 16 (by decide)] at H
  exact H
end Go.Proofs.YtjjodibkmeefpaaGreatDoor
