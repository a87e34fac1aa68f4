import Derived.Test.YtfhhfhdnhadooaaGreatDoorMSP
import Derived.Test.YtfhhfhdnhadooaaGreatDoorMR
set_option linter.unusedVariables false
set_option linter.unusedSimpArgs false
set_option maxHeartbeats 4000000

namespace Go.Proofs.YtfhhfhdnhadooaaGreatDoor
open Go Go.RowKit
attribute [local irreducible] wpList

theorem spl_in {p:DPoint} {h:List UInt8} {n m c:Nat} {A:Option Addr} (hp:p.tx.length=32) (hh:h.length=32):spl (inC p A m c) 0 (h.map u8v)=inC ⟨h,p.n⟩ A m c:=by
 unfold inC pointC
 rw [spl_len _ _ _ (by simp;omega),List.take_zero,List.nil_append,Nat.zero_add]
 have hq:(p.tx.map u8v).length=32:=by rw [List.length_map];exact hp
 have e:((p.tx.map u8v++[Value.int .i64 p.n])++[Value.slice A m c]).drop (h.map u8v).length=[Value.int .i64 p.n,Value.slice A m c]:=by
  rw [List.length_map,hh,List.append_assoc,←hq,List.drop_left];rfl
 rw [e]
 simp
theorem spl_n {p:DPoint} {v:Int} {m c:Nat} {A:Option Addr} (hp:p.tx.length=32):spl (inC p A m c) 32 [.int .i64 v]=inC ⟨p.tx,v⟩ A m c:=by
 have hl:(p.tx.map u8v).length=32:=by rw [List.length_map];exact hp
 unfold inC pointC
 rw [spl_cons,spl_nil,List.append_assoc,List.set_append_right _ _ (by omega),hl]
 simp
theorem zs_snoc {ys:List Value} {i:Nat} {p:DPoint} (hl:ys.length=i*34) (hp:p.tx.length=32) (hz:∀k,k<i->sub ys (k*34+33) 1=[.slice none 0 0]):∀k,k<i+1->sub (ys++inC p none 0 0) (k*34+33) 1=[.slice none 0 0]:=fun k hk=>by
 rcases Nat.lt_or_ge k i with h|h
 ·have:=Nat.mul_le_mul_right 34 (show k+1<=i by omega)
  rw [Nat.add_mul] at this
  have e:=hz k h
  unfold sub at e ⊢
  rw [List.drop_append_of_le_length (by omega),List.take_append_of_le_length (by rw [List.length_drop];omega)]
  exact e
 ·obtain rfl:k=i:=by omega
  exact (sub_skip (k:=33) (m:=1) hl).trans (sub_in_w hp)
theorem wz_step {xs:List Value} {i n:Nat} {v:Value} (hz:∀k,i<=k->k<n->sub xs (k*34+33) 1=[.slice none 0 0]):∀k,i+1<=k->k<n->sub (xs.set (i*34+33) v) (k*34+33) 1=[.slice none 0 0]:=fun k h1 h2=>by
 rw [←sub_sub (a:=k*34) (m:=34) (b:=33) (k:=1) (by omega),sub_set_other (by decide) (by omega),sub_sub (by omega)]
 exact hz k (by omega) h2
theorem St.tojoin {T:Nat->Prop} {w W:World} {L:List Fact} {eI eO:Nat} {A B:Option Addr} {c d:Nat} {xs ys:List Value} {S0 S1:Nat->Prop} {t:DTx} (H:St T w W (Fact.row eI 34 (.slice A t.ins.length c) t.ins.length xs::Fact.els RIn 34 S0 xs t.ins::Fact.row eO 2 (.slice B t.outs.length d) t.outs.length ys::Fact.els ROut 2 S1 ys t.outs::L)) (hk:I64 t.lock):∃S,St T w W (Fact.rep RTx S (txC A t.ins.length c B t.outs.length d t.lock) t::L):=by
 have H3:=(H.tolist.perm (.trans (.swap _ _ _) (.cons _ (.swap _ _ _)))).tolist.perm (.swap _ _ _)
 exact ⟨_,St.join H3 (fun S2 h1 h2=>tx_rep h1 h2 hk)⟩

theorem refRead07 {S:Nat->Prop} {r c:Nat} {A:Option Addr} {b:List UInt8} (w:World) (hR:(RefR 145 r A c b (b,0)).p w) (hB:Bs w S (.slice A b.length c) b) (hS:∀g,S g->¬g=r) (hl:b.length<=1000000000000):Calls Tryz.prog 130 [.pointer (some ⟨r,0,none⟩)].toArray w (Ret (fun v' w'=>∃SR A1 c1 B1 d1,v'=.agg (txC A1 (Tx.G1 b).1.length c1 B1 (Tx.G2 b).1.length d1 ((Tx.G3 b).1:Int)).toArray∧St (·=r) w w' [Fact.rep RTx SR (txC A1 (Tx.G1 b).1.length c1 B1 (Tx.G2 b).1.length d1 ((Tx.G3 b).1:Int)) (Tx.gotTx b),RefR 145 r A c b (Tx.GW b (Tx.G1 b).1.length).2])):=by
 have H0:=St.begin (f:=RefR 145 r A c b (b,0)) hR (fun g hg=>by cases hg;exact refR_lt hR)
 have hok0:Pk.Ok (b,0):=⟨fun h=>absurd rfl h,(show (0:Int)<=0 by decide),(show (0:Int)<=24 by decide)⟩
 have hok1:Pk.Ok (Tx.G1 b).2:=(sane_list Tx.sane_in).2 _ hok0
 have hok2:Pk.Ok (Tx.G2 b).2:=(sane_list Tx.sane_out).2 _ hok1
 have hok3:Pk.Ok (Tx.G3 b).2:=Pk.ok_rInt hok2
 have hcb:=count_bound (m:=8) (s:=(b,0)) (by decide)
 have hlr:(Tx.G1 b).1.length=(Pk.rC 8 (b,0)).1:=len_rMany _ _
 have hcb2:=count_bound (m:=8) (s:=(Tx.G1 b).2) (by decide)
 have hlr2:(Tx.G2 b).1.length=(Pk.rC 8 (Tx.G1 b).2).1:=len_rMany _ _
 refine kE (l:=[_]) Tryz.func130 U U ?_
 have H:=H0
 refine kR (sf (eal [.slice none 0 0,.slice none 0 0,.int .i64 0] tz34 H ?_))
 clear H;intro go W H
 refine lkR (sf (eal [.slice none 0 0,.slice none 0 0,.int .i64 0] tz34 H ?_))
 clear H;intro gt W H
 refine lkR (sMp U (sf (ecl Tryz.func69 U U (refRdCount (m:=8) _ (H.get (f:=RefR 145 r A c b (b,0))) hok0 (H.bsT hB hS) hS hl) ?_)))
 rintro _ W ⟨rfl,hp_,hf_⟩
 replace H:=H.mut (f:=RefR 145 r A c b (b,0)) (f':=RefR 145 r A c b (Pk.rC 8 (b,0)).2) hf_ hp_ (fun _ h=>h)
 clear hp_ hf_
 refine sAi U (ln (kQ (kR (sAi U (ln (kb (kL 15 [5,6] (fun mm sl W=>∃i:Nat,∃A2:Option Addr,∃c2:Nat,∃ys:List Value,∃S2:Nat->Prop,(Pk.rC 8 (b,0)).1 - i=mm∧sl=[(5,.int .i64 (i:Int))]∧(i<=(Pk.rC 8 (b,0)).1)∧(i<=c2∧c2<=9223372036854775807)∧(∀k,k<i->sub ys (k*34+33) 1=[.slice none 0 0])∧St (·=r) w W [Fact.row 64 34 (.slice A2 i c2) i (ys),Fact.els RIn 34 S2 ys (rMany Tx.rIn i (Pk.rC 8 (b,0)).2).1,Fact.blk gt (txC A2 i c2 none 0 0 0) 34,Fact.blk go (txC none 0 0 none 0 0 0) 34,RefR 145 r A c b (rMany Tx.rIn i (Pk.rC 8 (b,0)).2).2]) _ _ ⟨0,none,0,[],(fun _=>False),U,U,Nat.zero_le _,⟨Nat.le_refl _,by omega⟩,fun k hk=>absurd hk (by omega),((H.els0 RIn 34).nilrow 64 34)⟩ ⟨U,trivial⟩ (fun mm sl ρv W hJ=>?_))))))))
 clear H;obtain ⟨i,A2,c2,ys,S2,rfl,rfl,hi,hd,hz,H⟩:=hJ
 refine ko (kQ (kR (sMi U (sMi U (sLt U U (ln (kC U (fun hc17=>?_) (fun hc17=>?_))))))))
 ·replace hc17:=of_decide_eq_true hc17
  have hlt:i<(Pk.rC 8 (b,0)).1:=by omega
  have hoki:=(sane_many Tx.sane_in i).2 _ (Pk.ok_rCount (m:=8) hok0)
  have hp:(Tx.rIn (rMany Tx.rIn i (Pk.rC 8 (b,0)).2).2).1.point.tx.length=32:=Pk.len_rBytes
  have hyl:ys.length=i*34:=by have:=(H.get (f:=Fact.els RIn 34 S2 ys (rMany Tx.rIn i (Pk.rC 8 (b,0)).2).1)).1;rwa [len_rMany] at this
  refine kS (kQ (kb (kR (sf (eal (inC zPt none 0 0) tzIn H ?_)))))
  clear H;intro gx W H
  refine lkR (sMp U (sf (ecl Tryz.func67 U U (refRdHash _ (H.get (f:=RefR 145 r A c b (rMany Tx.rIn i (Pk.rC 8 (b,0)).2).2)) hoki (H.bsT hB hS) hS hl) ?_)))
  rintro _ W ⟨rfl,hp_,hf_⟩
  replace H:=H.mut (f:=RefR 145 r A c b (rMany Tx.rIn i (Pk.rC 8 (b,0)).2).2) (f':=RefR 145 r A c b (Pk.rBytes 32 (rMany Tx.rIn i (Pk.rC 8 (b,0)).2).2).2) hf_ hp_ (fun _ h=>h)
  clear hp_ hf_
  refine sFa U tf64_0 (sFa U tf61_0 (sf (esk (inC ⟨(Pk.rBytes 32 (rMany Tx.rIn i (Pk.rC 8 (b,0)).2).2).1,0⟩ none 0 0) U U U ts24 (by rw [List.length_map];exact hp) (all_u8L _) H (by rw [len_in (p:=zPt) U];decide) (spl_in (p:=zPt) (n:=0) U hp) ?_)))
  clear H;intro W H
  refine lkR (sMp U (sf (ecl Tryz.func68 U U (refRdInt _ (H.get (f:=RefR 145 r A c b (Pk.rBytes 32 (rMany Tx.rIn i (Pk.rC 8 (b,0)).2).2).2)) (Pk.ok_next hoki) (H.bsT hB hS) hS hl) ?_)))
  rintro _ W ⟨rfl,hp_,hf_⟩
  replace H:=H.mut (f:=RefR 145 r A c b (Pk.rBytes 32 (rMany Tx.rIn i (Pk.rC 8 (b,0)).2).2).2) (f':=RefR 145 r A c b (Tx.rIn (rMany Tx.rIn i (Pk.rC 8 (b,0)).2).2).2) hf_ hp_ (fun _ h=>h)
  clear hp_ hf_
  refine sFa U tf64_0 (sFa U tf61_1 (sf (esk (v:=.int .i64 ((Pk.rInt (Pk.rBytes 32 (rMany Tx.rIn i (Pk.rC 8 (b,0)).2).2).2).1:Int)) (vs:=[.int .i64 ((Pk.rInt (Pk.rBytes 32 (rMany Tx.rIn i (Pk.rC 8 (b,0)).2).2).2).1:Int)]) (inC (Tx.rIn (rMany Tx.rIn i (Pk.rC 8 (b,0)).2).2).1.point none 0 0) U U U ts3 U U H (by rw [len_in (p:=⟨(Pk.rBytes 32 (rMany Tx.rIn i (Pk.rC 8 (b,0)).2).2).1,0⟩) hp];decide) (spl_n (p:=⟨(Pk.rBytes 32 (rMany Tx.rIn i (Pk.rC 8 (b,0)).2).2).1,0⟩) hp) ?_)))
  clear H;intro W H
  refine ln (kr (sFa U tf34_0 (sR (dX (g:=gt) (off:=0) U H U U U ta31) (sR (dM (g:=gx) (off:=0) U H (sa (len_in hp)) (len_in hp) U U U ta64 ts64) (sf (ebs (xs:=[.tmp 30]) (vals:=[.agg (inC (Tx.rIn (rMany Tx.rIn i (Pk.rC 8 (b,0)).2).2).1.point none 0 0).toArray]) (vs:=(inC (Tx.rIn (rMany Tx.rIn i (Pk.rC 8 (b,0)).2).2).1.point none 0 0)) U U U U tu31 ts64 ty64 U (by simp [agg_cells,len_in hp]) (by simp [agg_cells]) H ?_))))))
  clear H;intro g8 W H
  refine sf (eap tu31 tx64 U U U H (rd_blk (m:=1) (H.blk (g:=g8)) (len_in hp)) (in_one) (by omega) U ?_)
  clear H;intro A1 c1 W hc1 hd1 H
  replace H:=H.drop
  refine sFa U tf34_0 (sf (esk (v:=.slice A1 (i+1) c1) (vs:=[.slice A1 (i+1) c1]) (txC A1 (i+1) c1 none 0 0 0) U U U ts31 U U H (Nat.le_of_ble_eq_true U) U ?_))
  clear H;intro W H
  refine ln ?_
  replace H:=H.drop
  replace H:=H.flat (R:=RIn) (cs:=inC (Tx.rIn (rMany Tx.rIn i (Pk.rC 8 (b,0)).2).2).1.point none 0 0) (a:=(Tx.rIn (rMany Tx.rIn i (Pk.rC 8 (b,0)).2).2).1) (in_rep (w:=[]) hp Tx.int_ok rl_nil)
  replace H:=(St.elsnoc (H.perm (.cons _ (.swap _ _ _))) (len_in hp)).perm (.swap _ _ _)
  refine kn (zE (kI U U U (by omega) U (kn (kY ?_))))
  refine ⟨_,_,_,?_,U,?_,?_,⟨i+1,A1,c1,_,_,U,U,by omega,⟨hc1,hd1⟩,zs_snoc hyl hp hz,H⟩⟩
  ·omega
  ·with_reducible repeat first|exact .refl|refine .f ?_ ?_ ?_;kernel_rfl;kernel_rfl|refine .u ?_ ?_;kernel_rfl
  ·refine ⟨?_,trivial⟩
   ·exact vi (by omega)
 ·replace hc17:=of_decide_eq_false hc17
  obtain rfl:i=(Pk.rC 8 (b,0)).1:=by omega
  replace H:St (·=r) w W [Fact.row 64 34 (.slice A2 (Tx.G1 b).1.length c2) (Tx.G1 b).1.length (ys),Fact.els RIn 34 S2 ys (Tx.G1 b).1,Fact.blk gt (txC A2 (Tx.G1 b).1.length c2 none 0 0 0) 34,Fact.blk go (txC none 0 0 none 0 0 0) 34,RefR 145 r A c b (Tx.G1 b).2]:=by rw [hlr];exact H
  rw [←hlr] at hz hd
  refine ke (xt (xt ?_))
  refine xH (kR (sMp U (sf (ecl Tryz.func69 U U (refRdCount (m:=8) _ (H.get (f:=RefR 145 r A c b (Tx.G1 b).2)) hok1 (H.bsT hB hS) hS hl) ?_))))
  rintro _ W ⟨rfl,hp_,hf_⟩
  replace H:=H.mut (f:=RefR 145 r A c b (Tx.G1 b).2) (f':=RefR 145 r A c b (Pk.rC 8 (Tx.G1 b).2).2) hf_ hp_ (fun _ h=>h)
  clear hp_ hf_
  refine sAi U (ln (kQ (kR (sAi U (ln (kb (kL 36 [8,9] (fun mm sl W=>∃j:Nat,∃B2:Option Addr,∃d2:Nat,∃zs:List Value,∃S3:Nat->Prop,(Pk.rC 8 (Tx.G1 b).2).1 - j=mm∧sl=[(8,.int .i64 (j:Int))]∧(j<=(Pk.rC 8 (Tx.G1 b).2).1)∧(j<=d2∧d2<=9223372036854775807)∧St (·=r) w W [Fact.row 66 2 (.slice B2 j d2) j (zs),Fact.els ROut 2 S3 zs (rMany Tx.rOut j (Pk.rC 8 (Tx.G1 b).2).2).1,Fact.row 64 34 (.slice A2 (Tx.G1 b).1.length c2) (Tx.G1 b).1.length (ys),Fact.els RIn 34 S2 ys (Tx.G1 b).1,Fact.blk gt (txC A2 (Tx.G1 b).1.length c2 B2 j d2 0) 34,Fact.blk go (txC none 0 0 none 0 0 0) 34,RefR 145 r A c b (rMany Tx.rOut j (Pk.rC 8 (Tx.G1 b).2).2).2]) _ _ ⟨0,none,0,[],(fun _=>False),U,U,Nat.zero_le _,⟨Nat.le_refl _,by omega⟩,((H.els0 ROut 2).nilrow 66 2)⟩ ⟨U,trivial⟩ (fun mm sl ρv W hJ=>?_))))))))
  clear H;obtain ⟨j,B2,d2,zs,S3,rfl,rfl,hj,he,H⟩:=hJ
  refine ko (kQ (kR (sMi U (sMi U (sLt U U (ln (kC U (fun hc38=>?_) (fun hc38=>?_))))))))
  ·replace hc38:=of_decide_eq_true hc38
   have hltj:j<(Pk.rC 8 (Tx.G1 b).2).1:=by omega
   have hokj:=(sane_many Tx.sane_out j).2 _ (Pk.ok_rCount (m:=8) hok1)
   refine kS (kQ (kb (kR (sf (eal [.int .i64 0,.slice none 0 0] tz66 H ?_)))))
   clear H;intro gy W H
   refine lkR (sMp U (sf (ecl Tryz.func68 U U (refRdInt _ (H.get (f:=RefR 145 r A c b (rMany Tx.rOut j (Pk.rC 8 (Tx.G1 b).2).2).2)) hokj (H.bsT hB hS) hS hl) ?_)))
   rintro _ W ⟨rfl,hp_,hf_⟩
   replace H:=H.mut (f:=RefR 145 r A c b (rMany Tx.rOut j (Pk.rC 8 (Tx.G1 b).2).2).2) (f':=RefR 145 r A c b (Pk.rInt (rMany Tx.rOut j (Pk.rC 8 (Tx.G1 b).2).2).2).2) hf_ hp_ (fun _ h=>h)
   clear hp_ hf_
   refine sFa U tf66_0 (sf (esk (v:=.int .i64 (Tx.rOut (rMany Tx.rOut j (Pk.rC 8 (Tx.G1 b).2).2).2).1.value) (vs:=[.int .i64 (Tx.rOut (rMany Tx.rOut j (Pk.rC 8 (Tx.G1 b).2).2).2).1.value]) (outC (Tx.rOut (rMany Tx.rOut j (Pk.rC 8 (Tx.G1 b).2).2).2).1.value none 0 0) U U U ts3 U U H (Nat.le_of_ble_eq_true U) U ?_))
   clear H;intro W H
   refine lkR (sMp U (sf (ecl Tryz.func70 U U (refRdBlob (m:=256) _ (H.get (f:=RefR 145 r A c b (Pk.rInt (rMany Tx.rOut j (Pk.rC 8 (Tx.G1 b).2).2).2).2)) (Pk.ok_rInt hokj) (H.bsT hB hS) hS hl) ?_)))
   rintro _ W ⟨⟨A5,c5,rfl,hc5,hd5,hrow_,hown_,hfr_⟩,hp_⟩
   replace H:=H.mutnew (f:=RefR 145 r A c b (Pk.rInt (rMany Tx.rOut j (Pk.rC 8 (Tx.G1 b).2).2).2).2) (f':=RefR 145 r A c b (Tx.rOut (rMany Tx.rOut j (Pk.rC 8 (Tx.G1 b).2).2).2).2) (fn:=Fact.row 5 1 (.slice A5 (Tx.rOut (rMany Tx.rOut j (Pk.rC 8 (Tx.G1 b).2).2).2).1.script.length c5) (Tx.rOut (rMany Tx.rOut j (Pk.rC 8 (Tx.G1 b).2).2).2).1.script.length ((Tx.rOut (rMany Tx.rOut j (Pk.rC 8 (Tx.G1 b).2).2).2).1.script.map u8v)) hfr_ hp_ (fun _ h=>h) hrow_ hown_
   clear hrow_ hown_ hfr_ hp_
   refine sFa U tf66_1 (sf (esk (v:=.slice A5 (Tx.rOut (rMany Tx.rOut j (Pk.rC 8 (Tx.G1 b).2).2).2).1.script.length c5) (vs:=[.slice A5 (Tx.rOut (rMany Tx.rOut j (Pk.rC 8 (Tx.G1 b).2).2).2).1.script.length c5]) (outC (Tx.rOut (rMany Tx.rOut j (Pk.rC 8 (Tx.G1 b).2).2).2).1.value A5 (Tx.rOut (rMany Tx.rOut j (Pk.rC 8 (Tx.G1 b).2).2).2).1.script.length c5) U U U ts41 U U H (Nat.le_of_ble_eq_true U) U ?_))
   clear H;intro W H
   refine ln (kr (sFa U tf34_1 (sR (dX (g:=gt) (off:=1) U H U U U ta32) (sR (d_ldm0 (g:=gy) U H U ta66 ts66 U) (sf (ebs (xs:=[.tmp 49]) (vals:=[.agg (outC (Tx.rOut (rMany Tx.rOut j (Pk.rC 8 (Tx.G1 b).2).2).2).1.value A5 (Tx.rOut (rMany Tx.rOut j (Pk.rC 8 (Tx.G1 b).2).2).2).1.script.length c5).toArray]) (vs:=(outC (Tx.rOut (rMany Tx.rOut j (Pk.rC 8 (Tx.G1 b).2).2).2).1.value A5 (Tx.rOut (rMany Tx.rOut j (Pk.rC 8 (Tx.G1 b).2).2).2).1.script.length c5)) U U U U tu32 ts66 ty66 U (by simp [agg_cells,outC]) (by simp [agg_cells]) H ?_))))))
   clear H;intro g9 W H
   refine sf (eap tu32 tx66 U U U H (rd_blk (m:=1) (H.blk (g:=g9)) U) (U) (by omega) U ?_)
   clear H;intro A7 c7 W hc7 hd7 H
   replace H:=H.drop
   refine sFa U tf34_1 (sf (esk (v:=.slice A7 (j+1) c7) (vs:=[.slice A7 (j+1) c7]) (txC A2 (Tx.G1 b).1.length c2 A7 (j+1) c7 0) U U U ts32 U U H (Nat.le_of_ble_eq_true U) U ?_))
   clear H;intro W H
   refine ln ?_
   replace H:=(H.torb (l:=(Tx.rOut (rMany Tx.rOut j (Pk.rC 8 (Tx.G1 b).2).2).2).1.script) rfl).rerep (R':=ROut) (cs':=outC (Tx.rOut (rMany Tx.rOut j (Pk.rC 8 (Tx.G1 b).2).2).2).1.value A5 (Tx.rOut (rMany Tx.rOut j (Pk.rC 8 (Tx.G1 b).2).2).2).1.script.length c5) (b:=(Tx.rOut (rMany Tx.rOut j (Pk.rC 8 (Tx.G1 b).2).2).2).1) (fun h=>by obtain ⟨v,e,hb⟩:=h;cases e;exact out_rep Tx.int_ok hb)
   replace H:=(H.perm (.swap _ _ _)).drop
   replace H:=(St.elsnoc (H.perm (.cons _ (.swap _ _ _))) rfl).perm (.swap _ _ _)
   refine kn (zE (kI U U U (by omega) U (kn (kY ?_))))
   refine ⟨_,_,_,?_,U,?_,?_,⟨j+1,A7,c7,_,_,U,U,by omega,⟨hc7,hd7⟩,H⟩⟩
   ·omega
   ·with_reducible repeat first|exact .refl|refine .f ?_ ?_ ?_;kernel_rfl;kernel_rfl|refine .u ?_ ?_;kernel_rfl
   ·refine ⟨?_,trivial⟩
    ·exact vi (by omega)
  ·replace hc38:=of_decide_eq_false hc38
   obtain rfl:j=(Pk.rC 8 (Tx.G1 b).2).1:=by omega
   replace H:St (·=r) w W [Fact.row 66 2 (.slice B2 (Tx.G2 b).1.length d2) (Tx.G2 b).1.length (zs),Fact.els ROut 2 S3 zs (Tx.G2 b).1,Fact.row 64 34 (.slice A2 (Tx.G1 b).1.length c2) (Tx.G1 b).1.length (ys),Fact.els RIn 34 S2 ys (Tx.G1 b).1,Fact.blk gt (txC A2 (Tx.G1 b).1.length c2 B2 (Tx.G2 b).1.length d2 0) 34,Fact.blk go (txC none 0 0 none 0 0 0) 34,RefR 145 r A c b (Tx.G2 b).2]:=by rw [hlr2];exact H
   refine ke (xt (xt ?_))
   refine xH (kR (sMp U (sf (ecl Tryz.func68 U U (refRdInt _ (H.get (f:=RefR 145 r A c b (Tx.G2 b).2)) hok2 (H.bsT hB hS) hS hl) ?_))))
   rintro _ W ⟨rfl,hp_,hf_⟩
   replace H:=H.mut (f:=RefR 145 r A c b (Tx.G2 b).2) (f':=RefR 145 r A c b (Tx.G3 b).2) hf_ hp_ (fun _ h=>h)
   clear hp_ hf_
   refine sFa U tf34_2 (sf (esk (v:=.int .i64 ((Tx.G3 b).1:Int)) (vs:=[.int .i64 ((Tx.G3 b).1:Int)]) (txC A2 (Tx.G1 b).1.length c2 B2 (Tx.G2 b).1.length d2 ((Tx.G3 b).1:Int)) U U U ts3 U U H (Nat.le_of_ble_eq_true U) U ?_))
   clear H;intro W H
   refine ln (kQ (kR (sAi U (ln (kb (kL 56 [10,11,12] (fun mm sl W=>∃i:Nat,∃xs:List Value,∃S5:Nat->Prop,(Tx.G1 b).1.length - i=mm∧sl=[(10,.int .i64 (i:Int))]∧(i<=(Tx.G1 b).1.length)∧(∀k,i<=k->k<(Tx.G1 b).1.length->sub xs (k*34+33) 1=[.slice none 0 0])∧St (·=r) w W [Fact.row 64 34 (.slice A2 (Tx.G1 b).1.length c2) (Tx.G1 b).1.length (xs),Fact.els RIn 34 S5 xs (Tx.insAt b i),Fact.row 66 2 (.slice B2 (Tx.G2 b).1.length d2) (Tx.G2 b).1.length (zs),Fact.els ROut 2 S3 zs (Tx.G2 b).1,Fact.blk gt (txC A2 (Tx.G1 b).1.length c2 B2 (Tx.G2 b).1.length d2 ((Tx.G3 b).1:Int)) 34,Fact.blk go (txC none 0 0 none 0 0 0) 34,RefR 145 r A c b (Tx.GW b i).2]) _ _ ⟨0,ys,S2,U,U,Nat.zero_le _,fun k _ hk=>hz k (by omega),(by rw [Tx.insAt_0];exact H.perm (List.perm_append_comm (l₁:=[_,_]) (l₂:=[_,_]) |>.append_right _))⟩ ⟨U,trivial⟩ (fun mm sl ρv W hJ=>?_)))))))
   clear H;obtain ⟨i,xs,S5,rfl,rfl,hi,hz,H⟩:=hJ
   refine ko (kQ (kR (sMi U (sMi U (sLt U U (ln (kC U (fun hc58=>?_) (fun hc58=>?_))))))))
   ·replace hc58:=of_decide_eq_true hc58
    have hlt:i<(Tx.G1 b).1.length:=by omega
    obtain ⟨x,hx⟩:=get_lt hlt
    obtain ⟨g1,rfl⟩:=row_own (H.get (f:=Fact.row 64 34 (.slice A2 (Tx.G1 b).1.length c2) (Tx.G1 b).1.length (xs))) (by omega)
    have hels:=H.get (f:=Fact.els RIn 34 S5 xs (Tx.insAt b i))
    obtain ⟨Ax,cx,hL,hW9,hp,hn9⟩:=in_of (hels.2 i x (by rw [Tx.insAt_get hi];exact hx))
    have hxl:xs.length=(Tx.G1 b).1.length*34:=by have:=hels.1;rwa [Tx.insAt_len hi] at this
    have hmul:=Nat.mul_le_mul_right 34 (show i+1<=(Tx.G1 b).1.length by omega)
    rw [Nat.add_mul] at hmul
    have hoki:=(sane_many Tx.sane_wit i).2 _ hok3
    have hcb3:=count_bound (m:=16) (s:=(Tx.GW b i).2) (by decide)
    have hsame:(xs.set (i*34+33) (.slice none 0 0))=xs:=by
     have e:=sub_get (hz i (Nat.le_refl _) hlt)
     apply List.ext_getElem?
     intro q
     rcases Decidable.em (q=i*34+33) with rfl|hq
     ·rw [List.getElem?_set_self (by omega),e]
     ·rw [List.getElem?_set_ne (fun h=>hq h.symm)]
    refine kS (kQ (kb (kR (sMp U (sf (ecl Tryz.func69 U U (refRdCount (m:=16) _ (H.get (f:=RefR 145 r A c b (Tx.GW b i).2)) hoki (H.bsT hB hS) hS hl) ?_))))))
    rintro _ W ⟨rfl,hp_,hf_⟩
    replace H:=H.mut (f:=RefR 145 r A c b (Tx.GW b i).2) (f':=RefR 145 r A c b (Pk.rC 16 (Tx.GW b i).2).2) hf_ hp_ (fun _ h=>h)
    clear hp_ hf_
    refine sAi U (lkR (sAi U (ln (kb (kL 63 [12] (fun mm sl W=>∃j:Nat,∃A3:Option Addr,∃c3:Nat,∃ws:List Value,∃S4:Nat->Prop,(Pk.rC 16 (Tx.GW b i).2).1 - j=mm∧sl=[(12,.int .i64 (j:Int))]∧(j<=(Pk.rC 16 (Tx.GW b i).2).1)∧(j<=c3∧c3<=9223372036854775807)∧St (·=r) w W [Fact.row 41 1 (.slice A3 j c3) (j) ws,Fact.els RB 1 S4 ws (rMany (Pk.rB 64) j (Pk.rC 16 (Tx.GW b i).2).2).1,Fact.row 64 34 (.slice (some ⟨g1,0,none⟩) (Tx.G1 b).1.length c2) (Tx.G1 b).1.length (xs.set (i*34+33) (.slice A3 (j) c3)),Fact.els RIn 34 S5 xs (Tx.insAt b i),Fact.row 66 2 (.slice B2 (Tx.G2 b).1.length d2) (Tx.G2 b).1.length (zs),Fact.els ROut 2 S3 zs (Tx.G2 b).1,Fact.blk gt (txC (some ⟨g1,0,none⟩) (Tx.G1 b).1.length c2 B2 (Tx.G2 b).1.length d2 ((Tx.G3 b).1:Int)) 34,Fact.blk go (txC none 0 0 none 0 0 0) 34,RefR 145 r A c b (rMany (Pk.rB 64) j (Pk.rC 16 (Tx.GW b i).2).2).2]) _ _ ⟨0,none,0,[],(fun _=>False),U,U,Nat.zero_le _,⟨Nat.le_refl _,by omega⟩,(by rw [hsame];exact ((H.els0 RB 1).nilrow 41 1))⟩ ⟨U,trivial⟩ (fun mm sl ρv W hJ=>?_))))))
    clear H;obtain ⟨j,A3,c3,ws,S4,rfl,rfl,hj,he,H⟩:=hJ
    refine ko (kQ (kR (sMi U (sMi U (sLt U U (ln (kC U (fun hc65=>?_) (fun hc65=>?_))))))))
    ·replace hc65:=of_decide_eq_true hc65
     have hltj:j<(Pk.rC 16 (Tx.GW b i).2).1:=by omega
     have hokj:=(sane_many (sane_blob (m:=64)) j).2 _ (Pk.ok_rCount (m:=16) hoki)
     have hL2:sub (xs.set (i*34+33) (.slice A3 j c3)) (i*34) 34=inC x.point A3 j c3:=by rw [sub_set_self (by decide),hL];exact set_in_w hp
     refine kS (kQ (kb (k_cut 68 [] (fun sl W=>∃A9:Option Addr,∃c9:Nat,∃ws9:List Value,∃S9:Nat->Prop,sl=[]∧(j+1<=c9)∧(c9<=9223372036854775807)∧St (·=r) w W [Fact.row 41 1 (.slice A9 (j+1) c9) ((j+1)) ws9,Fact.els RB 1 S9 ws9 (rMany (Pk.rB 64) (j+1) (Pk.rC 16 (Tx.GW b i).2).2).1,Fact.row 64 34 (.slice (some ⟨g1,0,none⟩) (Tx.G1 b).1.length c2) (Tx.G1 b).1.length (xs.set (i*34+33) (.slice A9 ((j+1)) c9)),Fact.els RIn 34 S5 xs (Tx.insAt b i),Fact.row 66 2 (.slice B2 (Tx.G2 b).1.length d2) (Tx.G2 b).1.length (zs),Fact.els ROut 2 S3 zs (Tx.G2 b).1,Fact.blk gt (txC (some ⟨g1,0,none⟩) (Tx.G1 b).1.length c2 B2 (Tx.G2 b).1.length d2 ((Tx.G3 b).1:Int)) 34,Fact.blk go (txC none 0 0 none 0 0 0) 34,RefR 145 r A c b (Pk.rB 64 (rMany (Pk.rB 64) j (Pk.rC 16 (Tx.GW b i).2).2).2).2]) ?_ (fun sl ρv W hJ=>?_))))
     ·skip
      refine k_drawT (.rd 0 (.rd 1 (.rd 2 (.rd 3 (.rd 4 (.rd 5 (.rd 6 (.rd 7 (.rd 9 (.many 6 [8,10] fun j=>(bif Nat.beq j 8 then (.ef 10 (.ef 11 (.ef 12 (.rd 13 (.rd 14 (.ef 15 .nil)))))) else (.many 5 [8,11] fun j=>(bif Nat.beq j 8 then (.ef 11 (.ef 12 (.rd 13 (.rd 14 (.ef 15 .nil))))) else (.ef 8 (.ef 12 (.rd 13 (.rd 14 (.ef 15 .nil)))))))))))))))))) [Fact.blk gt (txC (some ⟨g1,0,none⟩) (Tx.G1 b).1.length c2 B2 (Tx.G2 b).1.length d2 ((Tx.G3 b).1:Int)) 34] (by kernel_rfl) (by kernel_rfl) H (by repeat (first|exact .refl _|exact List.nil_sublist _|refine .cons_cons _ ?_|refine .cons _ ?_)) ?_
      clear H;intro W H
      refine tR U (fun W H=>dF U U tf34_0) (tR U (fun W H=>dX (g:=gt) (off:=0) U H U U U ta31) (tR U (fun W H=>mv_i U U) (tR U (fun W H=>dF U U tf34_0) (tR U (fun W H=>dX (g:=gt) (off:=0) U H U U U ta31) (tR U (fun W H=>mv_i U U) (tR U (fun W H=>d_iaP (q:=i) U U U U hlt tu31 ts64) (tR U (fun W H=>dF U U tf64_1) (tR U (fun W H=>mv_p U U) (t_each ?_ ?_)))))))))
      ·skip
       refine tf U (e_run (wn U) U (dE (q:=i) (off:=33) U (H.rowrd (A:=(some ⟨g1,0,none⟩))) hlt hL2 (sub_in_w hp) U U (by omega) ta62) ?_)
       refine ⟨_,fun _ h=>h,H.sb,?_⟩
       refine tf U (ecl Tryz.func70 U U (refRdBlob (m:=64) _ (H.get (f:=RefR 145 r A c b (rMany (Pk.rB 64) j (Pk.rC 16 (Tx.GW b i).2).2).2)) hokj (H.bsT hB hS) hS hl) ?_)
       rintro _ W ⟨⟨A5,c5,rfl,hc5,hd5,hrow_,hown_,hfr_⟩,hp_⟩
       replace H:=H.mutnew (f:=RefR 145 r A c b (rMany (Pk.rB 64) j (Pk.rC 16 (Tx.GW b i).2).2).2) (f':=RefR 145 r A c b (Pk.rB 64 (rMany (Pk.rB 64) j (Pk.rC 16 (Tx.GW b i).2).2).2).2) (fn:=Fact.row 5 1 (.slice A5 (Pk.rB 64 (rMany (Pk.rB 64) j (Pk.rC 16 (Tx.GW b i).2).2).2).1.length c5) (Pk.rB 64 (rMany (Pk.rB 64) j (Pk.rC 16 (Tx.GW b i).2).2).2).1.length ((Pk.rB 64 (rMany (Pk.rB 64) j (Pk.rC 16 (Tx.GW b i).2).2).2).1.map u8v)) hfr_ hp_ (fun _ h=>h) hrow_ hown_
       clear hrow_ hown_ hfr_ hp_
       refine ⟨_,fun _ h=>h,H.sb,?_⟩
       refine tf U (ebs (xs:=[.tmp 78]) (vals:=[.slice _ _ _]) (vs:=[.slice _ _ _]) U U U U tu62 ts41 ty41 U U U H ?_)
       clear H;intro g7 W H
       refine ⟨_,fun _ h=>h,H.sb,?_⟩
       refine tf U (eap tu62 tx41 U U U H (rd_blk (m:=1) (H.blk (g:=g7)) U) (U) (by omega) U ?_)
       clear H;intro A7 c7 W hc7 hd7 H
       replace H:=H.drop
       refine ⟨_,fun _ h=>h,H.sb,?_⟩
       refine tR U (fun W H=>d_iaP (q:=i) U U U U hlt tu31 ts64) (tR U (fun W H=>dF U U tf64_1) (tf U (e_stoG (v:=.slice A7 (j+1) c7) (k:=i*34+33) (s:=34) (e:=64) (m:=(Tx.G1 b).1.length) (c:=c2) (wn U) U U U (by omega) U U ts62 U H (by omega) ?_)))
       clear H;intro W H
       refine ⟨_,fun _ h=>h,H.sb,?_⟩
       refine t_nil (kn (n_then ?_))
       replace H:=H.torb (l:=(Pk.rB 64 (rMany (Pk.rB 64) j (Pk.rC 16 (Tx.GW b i).2).2).2).1) rfl
       replace H:=(St.elsnoc (H.perm (.cons _ (.swap _ _ _))) rfl).perm (.swap _ _ _)
       rw [List.set_set] at H
       refine ⟨_,_,U,?_,?_,⟨A7,c7,_,_,U,hc7,hd7,H⟩⟩
       ·with_reducible repeat first|exact .refl|refine .f ?_ ?_ ?_;kernel_rfl;kernel_rfl|refine .u ?_ ?_;kernel_rfl
       ·exact trivial
      refine t_each ?_ ?_
      ·skip
       refine tf U (ecl Tryz.func70 U U (refRdBlob (m:=64) _ (H.get (f:=RefR 145 r A c b (rMany (Pk.rB 64) j (Pk.rC 16 (Tx.GW b i).2).2).2)) hokj (H.bsT hB hS) hS hl) ?_)
       rintro _ W ⟨⟨A5,c5,rfl,hc5,hd5,hrow_,hown_,hfr_⟩,hp_⟩
       replace H:=H.mutnew (f:=RefR 145 r A c b (rMany (Pk.rB 64) j (Pk.rC 16 (Tx.GW b i).2).2).2) (f':=RefR 145 r A c b (Pk.rB 64 (rMany (Pk.rB 64) j (Pk.rC 16 (Tx.GW b i).2).2).2).2) (fn:=Fact.row 5 1 (.slice A5 (Pk.rB 64 (rMany (Pk.rB 64) j (Pk.rC 16 (Tx.GW b i).2).2).2).1.length c5) (Pk.rB 64 (rMany (Pk.rB 64) j (Pk.rC 16 (Tx.GW b i).2).2).2).1.length ((Pk.rB 64 (rMany (Pk.rB 64) j (Pk.rC 16 (Tx.GW b i).2).2).2).1.map u8v)) hfr_ hp_ (fun _ h=>h) hrow_ hown_
       clear hrow_ hown_ hfr_ hp_
       refine ⟨_,fun _ h=>h,H.sb,?_⟩
       refine t_each ?_ ?_
       ·skip
        refine tf U (e_run (wn U) U (dE (q:=i) (off:=33) U (H.rowrd (A:=(some ⟨g1,0,none⟩))) hlt hL2 (sub_in_w hp) U U (by omega) ta62) ?_)
        refine ⟨_,fun _ h=>h,H.sb,?_⟩
        refine tf U (ebs (xs:=[.tmp 78]) (vals:=[.slice _ _ _]) (vs:=[.slice _ _ _]) U U U U tu62 ts41 ty41 U U U H ?_)
        clear H;intro g7 W H
        refine ⟨_,fun _ h=>h,H.sb,?_⟩
        refine tf U (eap tu62 tx41 U U U H (rd_blk (m:=1) (H.blk (g:=g7)) U) (U) (by omega) U ?_)
        clear H;intro A7 c7 W hc7 hd7 H
        replace H:=H.drop
        refine ⟨_,fun _ h=>h,H.sb,?_⟩
        refine tR U (fun W H=>d_iaP (q:=i) U U U U hlt tu31 ts64) (tR U (fun W H=>dF U U tf64_1) (tf U (e_stoG (v:=.slice A7 (j+1) c7) (k:=i*34+33) (s:=34) (e:=64) (m:=(Tx.G1 b).1.length) (c:=c2) (wn U) U U U (by omega) U U ts62 U H (by omega) ?_)))
        clear H;intro W H
        refine ⟨_,fun _ h=>h,H.sb,?_⟩
        refine t_nil (kn (n_then ?_))
        replace H:=H.torb (l:=(Pk.rB 64 (rMany (Pk.rB 64) j (Pk.rC 16 (Tx.GW b i).2).2).2).1) rfl
        replace H:=(St.elsnoc (H.perm (.cons _ (.swap _ _ _))) rfl).perm (.swap _ _ _)
        rw [List.set_set] at H
        refine ⟨_,_,U,?_,?_,⟨A7,c7,_,_,U,hc7,hd7,H⟩⟩
        ·with_reducible repeat first|exact .refl|refine .f ?_ ?_ ?_;kernel_rfl;kernel_rfl|refine .u ?_ ?_;kernel_rfl
        ·exact trivial
       refine t_each ?_ ?_
       ·skip
        refine tf U (ebs (xs:=[.tmp 78]) (vals:=[.slice _ _ _]) (vs:=[.slice _ _ _]) U U U U tu62 ts41 ty41 U U U H ?_)
        clear H;intro g7 W H
        refine ⟨_,fun _ h=>h,H.sb,?_⟩
        refine tf U (e_run (wn U) U (dE (q:=i) (off:=33) U (H.rowrd (A:=(some ⟨g1,0,none⟩))) hlt hL2 (sub_in_w hp) U U (by omega) ta62) ?_)
        refine ⟨_,fun _ h=>h,H.sb,?_⟩
        refine tf U (eap tu62 tx41 U U U H (rd_blk (m:=1) (H.blk (g:=g7)) U) (U) (by omega) U ?_)
        clear H;intro A7 c7 W hc7 hd7 H
        replace H:=H.drop
        refine ⟨_,fun _ h=>h,H.sb,?_⟩
        refine tR U (fun W H=>d_iaP (q:=i) U U U U hlt tu31 ts64) (tR U (fun W H=>dF U U tf64_1) (tf U (e_stoG (v:=.slice A7 (j+1) c7) (k:=i*34+33) (s:=34) (e:=64) (m:=(Tx.G1 b).1.length) (c:=c2) (wn U) U U U (by omega) U U ts62 U H (by omega) ?_)))
        clear H;intro W H
        refine ⟨_,fun _ h=>h,H.sb,?_⟩
        refine t_nil (kn (n_then ?_))
        replace H:=H.torb (l:=(Pk.rB 64 (rMany (Pk.rB 64) j (Pk.rC 16 (Tx.GW b i).2).2).2).1) rfl
        replace H:=(St.elsnoc (H.perm (.cons _ (.swap _ _ _))) rfl).perm (.swap _ _ _)
        rw [List.set_set] at H
        refine ⟨_,_,U,?_,?_,⟨A7,c7,_,_,U,hc7,hd7,H⟩⟩
        ·with_reducible repeat first|exact .refl|refine .f ?_ ?_ ?_;kernel_rfl;kernel_rfl|refine .u ?_ ?_;kernel_rfl
        ·exact trivial
       exact t_none
      exact t_none
     clear H;obtain ⟨A9,c9,ws9,S9,rfl,hc9,hd9,H⟩:=hJ
     refine kn (zE (kI U U U (by omega) U (kn (kY ?_))))
     refine ⟨_,_,_,?_,U,?_,?_,⟨j+1,A9,c9,_,_,U,U,by omega,⟨hc9,hd9⟩,H⟩⟩
     ·omega
     ·with_reducible repeat first|exact .refl|refine .f ?_ ?_ ?_;kernel_rfl;kernel_rfl|refine .u ?_ ?_;kernel_rfl
     ·refine ⟨?_,trivial⟩
      ·exact vi (by omega)
    ·replace hc65:=of_decide_eq_false hc65
     obtain rfl:j=(Pk.rC 16 (Tx.GW b i).2).1:=by omega
     have hwl:(Tx.rWit (Tx.GW b i).2).1.length=(Pk.rC 16 (Tx.GW b i).2).1:=len_rMany _ _
     replace H:St (·=r) w W [Fact.row 41 1 (.slice A3 (Tx.rWit (Tx.GW b i).2).1.length c3) (Tx.rWit (Tx.GW b i).2).1.length ws,Fact.els RB 1 S4 ws (Tx.rWit (Tx.GW b i).2).1,Fact.row 64 34 (.slice (some ⟨g1,0,none⟩) (Tx.G1 b).1.length c2) (Tx.G1 b).1.length (xs.set (i*34+33) (.slice A3 (Tx.rWit (Tx.GW b i).2).1.length c3)),Fact.els RIn 34 S5 xs (Tx.insAt b i),Fact.row 66 2 (.slice B2 (Tx.G2 b).1.length d2) (Tx.G2 b).1.length (zs),Fact.els ROut 2 S3 zs (Tx.G2 b).1,Fact.blk gt (txC (some ⟨g1,0,none⟩) (Tx.G1 b).1.length c2 B2 (Tx.G2 b).1.length d2 ((Tx.G3 b).1:Int)) 34,Fact.blk go (txC none 0 0 none 0 0 0) 34,RefR 145 r A c b (Tx.rWit (Tx.GW b i).2).2]:=by rw [hwl];exact H
     replace H:=H.tolist
     replace H:=H.rerep (R':=RIn) (cs':=inC x.point A3 (Tx.rWit (Tx.GW b i).2).1.length c3) (b:=⟨x.point,(Tx.rWit (Tx.GW b i).2).1⟩) (fun h=>in_rep hp hn9 h)
     replace H:=els_set (i:=i) (xs':=(xs.set (i*34+33) (.slice A3 (Tx.rWit (Tx.GW b i).2).1.length c3))) (H.perm (.cons _ (List.perm_middle (l₁:=[_])))) (by rw [Tx.insAt_len hi];exact hlt) (by rw [sub_set_self (by decide),hL];exact set_in_w hp) (fun j hj hji=>sub_set_other (by decide) hji) (by rw [List.length_set])
     replace H:=H.perm (.swap _ _ _)
     refine ke (xt (xt ?_))
     refine xH (kn (zE (kI U U U (by omega) U (kn (kY ?_)))))
     refine ⟨_,_,_,?_,U,?_,?_,⟨i+1,(xs.set (i*34+33) (.slice A3 (Tx.rWit (Tx.GW b i).2).1.length c3)),_,U,U,by omega,wz_step hz,by rw [Tx.insAt_step hx];exact H⟩⟩
     ·omega
     ·with_reducible repeat first|exact .refl|refine .f ?_ ?_ ?_;kernel_rfl;kernel_rfl|refine .u ?_ ?_;kernel_rfl
     ·refine ⟨?_,trivial⟩
      ·exact vi (by omega)
   ·replace hc58:=of_decide_eq_false hc58
    obtain rfl:i=(Tx.G1 b).1.length:=by omega
    refine ke (xt (xt ?_))
    refine xH (kR (sR (d_ldm0 (g:=gt) U H U ta34 ts34 U) (sf (esk (txC A2 (Tx.G1 b).1.length c2 B2 (Tx.G2 b).1.length d2 ((Tx.G3 b).1:Int)) U U U ts34 U U H (Nat.le_of_ble_eq_true U) U ?_))))
    clear H;intro W H
    refine ln (kx ?_)
    have hgl:(Tx.gotTx b).ins.length=(Tx.G1 b).1.length:=Tx.insAt_len (Nat.le_refl _)
    obtain ⟨SR,HR⟩:=St.tojoin (t:=Tx.gotTx b) (by rw [hgl];exact H) Tx.ok_got.2.2
    rw [hgl] at HR
    exact q_retc U (c:=txC A2 (Tx.G1 b).1.length c2 B2 (Tx.G2 b).1.length d2 ((Tx.G3 b).1:Int)) (g:=go) H U ta34 ts34 ⟨_,U,SR,A2,c2,B2,d2,U,HR.sub (L':=[_,_]) (by repeat (first|exact .refl _|exact List.nil_sublist _|refine .cons_cons _ ?_|refine .cons _ ?_))⟩

def GotR (w:World) (b:List UInt8) (v:Value) (w':World):Prop:=∃S A c B d,v=.tuple #[.agg (txC A (Tx.get b).1.ins.length c B (Tx.get b).1.outs.length d (Tx.get b).1.lock).toArray,.int .i64 (Tx.get b).2]∧St nT w w' [Fact.rep RTx S (txC A (Tx.get b).1.ins.length c B (Tx.get b).1.outs.length d (Tx.get b).1.lock) (Tx.get b).1]
theorem getTR {S:Nat->Prop} {v:Value} {b:List UInt8} (w:World) (hb:Bs w S v b) (hl:b.length<=1000000000000):Calls Tryz.prog 72 [v].toArray w (Ret (GotR w b)):=by
 have hb0:=hb
 obtain ⟨Ab,cb,rfl,_,_,_⟩:=hb.op
 have hok0:Pk.Ok (b,0):=⟨fun h=>absurd rfl h,(show (0:Int)<=0 by decide),(show (0:Int)<=24 by decide)⟩
 have hok3:Pk.Ok (Tx.G3 b).2:=Pk.ok_rInt ((sane_list Tx.sane_out).2 _ ((sane_list Tx.sane_in).2 _ hok0))
 have hoke:Pk.Ok (Tx.GW b (Tx.G1 b).1.length).2:=(sane_many Tx.sane_wit _).2 _ hok3
 have hgl:(Tx.gotTx b).ins.length=(Tx.G1 b).1.length:=Tx.insAt_len (Nat.le_refl _)
 refine kE (l:=[_]) Tryz.func72 U U ?_
 have H:=St.start nT w
 refine kR (sf (eal [.slice none 0 0,.slice none 0 0,.int .i64 0] tz34 H ?_))
 clear H;intro go W H
 refine sAi U (lkR (sMs U (sf (ecl Tryz.func66 U U (refRead (l:=b) _ (H.bs hb0) hl) ?_))))
 rintro _ W ⟨rr,AR,cR,rfl,hcR1,hcR2,hS⟩
 replace H:=H.add2 hS
 clear hS
 have hSS:∀g,(Value.slice AR b.length cR).ownBlock=some g->¬g=rr:=fun g hg ht=>(List.pairwise_cons.1 H.apart).1 _ (.head _) g ht hg
 refine sAp U (lkR (sMp U (sf (ecl Tryz.func130 U U (refRead07 _ (H.get (f:=RefR 145 rr AR cR b (b,0))) (bs_own (H.get (f:=Fact.row 5 1 (.slice AR b.length cR) b.length (b.map u8v))) U) hSS hl) ?_))))
 rintro _ W ⟨SR,A1,c1,B1,d1,rfl,hK⟩
 replace H:=H.mutK1 (f:=RefR 145 rr AR cR b (b,0)) (f':=RefR 145 rr AR cR b (Tx.GW b (Tx.G1 b).1.length).2) hK rfl
 clear hK
 refine sf (eal [.slice none 0 0,.slice none 0 0,.int .i64 0] tz34 H ?_)
 clear H;intro gt W H
 refine sf (esk (txC A1 (Tx.G1 b).1.length c1 B1 (Tx.G2 b).1.length d1 ((Tx.G3 b).1:Int)) U U U ts34 U U H (by decide) U ?_)
 clear H;intro W H
 refine lkR (sMp U (sf (eI Tryz.func71 U U (refEnd _ (H.get (f:=RefR 145 rr AR cR b (Tx.GW b (Tx.G1 b).1.length).2)) hoke hl) H ?_)))
 clear H;intro W H
 refine sAi U (ln (kQ (kR (sMi U (sEq U U (ln (kC U (fun hc14=>?_) (fun hc14=>?_))))))))
 ·have he:Pk.rEnd (Tx.GW b (Tx.G1 b).1.length).2=0:=by simpa using hc14
  refine kr (sR (d_ldm0 (g:=gt) U H U ta34 ts34 U) (sf (eI Tryz.func87 U U (checkTR (t:=Tx.gotTx b) _ (H.rep1 (R:=RTx) (S:=SR) (cs:=txC A1 (Tx.G1 b).1.length c1 B1 (Tx.G2 b).1.length d1 ((Tx.G3 b).1:Int)) (a:=Tx.gotTx b))) H ?_)))
  clear H;intro W H
  refine sAi U (ln (kQ (kR (sMi U (sNe U U (ln (kC U (fun hc18=>?_) (fun hc18=>?_))))))))
  ·have hne:¬Tx.chk (Tx.gotTx b)=0:=by simpa using hc18
   refine kR (sR (dB (vs:=txC none 0 0 none 0 0 0) U (by kernel_rfl)) ?_)
   refine sMi U (sf (esk (txC none 0 0 none 0 0 0) U U U ts34 U U H (by decide) U ?_))
   clear H;intro W H
   refine sAi U (ln (kx ?_))
   have hge:Tx.get b=(Tx.zero,Tx.chk (Tx.gotTx b)):=by rw [Tx.get_eq];unfold Tx.fin;rw [if_pos he,if_neg hne]
   have HZ:=((H.flat (R:=RTx) (cs:=txC none 0 0 none 0 0 0) (a:=Tx.zero) ⟨_,_,_,rfl,rl_nil,rl_nil,rfl,by decide,by decide⟩).sub (L':=[_]) (.cons_cons _ (List.nil_sublist _)))
   exact q_cell2 U (c:=txC none 0 0 none 0 0 0) (g:=go) (v:=.int .i64 (Tx.chk (Tx.gotTx b))) H U ta34 ts34 U ⟨_,U,(fun _=>False),none,0,none,0,by rw [hge];rfl,by rw [hge];exact HZ⟩
  ·have hne:Tx.chk (Tx.gotTx b)=0:=by simpa using hc18
   refine kS (kR (sR (d_ldm0 (g:=gt) U H U ta34 ts34 U) (sf (esk (txC A1 (Tx.G1 b).1.length c1 B1 (Tx.G2 b).1.length d1 ((Tx.G3 b).1:Int)) U U U ts34 U U H (by decide) U ?_))))
   clear H;intro W H
   refine sAi U (ln (kx ?_))
   have hge:Tx.get b=(Tx.gotTx b,0):=by rw [Tx.get_eq];unfold Tx.fin;rw [if_pos he,if_pos hne]
   exact q_cell2 U (c:=txC A1 (Tx.G1 b).1.length c1 B1 (Tx.G2 b).1.length d1 ((Tx.G3 b).1:Int)) (g:=go) (v:=.int .i64 0) H U ta34 ts34 U ⟨_,U,SR,A1,c1,B1,d1,by rw [hge];dsimp only;rw [hgl];rfl,by rw [hge];dsimp only;rw [hgl];exact H.sub (L':=[Fact.rep RTx SR (txC A1 (Tx.G1 b).1.length c1 B1 (Tx.G2 b).1.length d1 ((Tx.G3 b).1:Int)) (Tx.gotTx b)]) (by repeat (first|exact .refl _|exact List.nil_sublist _|refine .cons_cons _ ?_|refine .cons _ ?_))⟩
 ·have he:¬Pk.rEnd (Tx.GW b (Tx.G1 b).1.length).2=0:=by simpa using hc14
  refine kS (kQ (kR (sMi U (sNe U U (ln (kT U (by simpa using he) ?_))))))
  refine kR (sR (dB (vs:=txC none 0 0 none 0 0 0) U (by kernel_rfl)) ?_)
  refine sMi U (sf (esk (txC none 0 0 none 0 0 0) U U U ts34 U U H (by decide) U ?_))
  clear H;intro W H
  refine sAi U (ln (kx ?_))
  have hge:Tx.get b=(Tx.zero,Pk.rEnd (Tx.GW b (Tx.G1 b).1.length).2):=by rw [Tx.get_eq];unfold Tx.fin;rw [if_neg he]
  have HZ:=((H.flat (R:=RTx) (cs:=txC none 0 0 none 0 0 0) (a:=Tx.zero) ⟨_,_,_,rfl,rl_nil,rl_nil,rfl,by decide,by decide⟩).sub (L':=[_]) (.cons_cons _ (List.nil_sublist _)))
  exact q_cell2 U (c:=txC none 0 0 none 0 0 0) (g:=go) (v:=.int .i64 (Pk.rEnd (Tx.GW b (Tx.G1 b).1.length).2)) H U ta34 ts34 U ⟨_,U,(fun _=>False),none,0,none,0,by rw [hge];rfl,by rw [hge];exact HZ⟩

end Go.Proofs.YtfhhfhdnhadooaaGreatDoor
