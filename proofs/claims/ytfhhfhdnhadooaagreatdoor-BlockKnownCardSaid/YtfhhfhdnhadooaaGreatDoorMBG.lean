import Derived.Test.YtfhhfhdnhadooaaGreatDoorMX
import Derived.Test.YtfhhfhdnhadooaaGreatDoorMV
import Derived.Test.YtfhhfhdnhadooaaGreatDoorMBK
import Derived.Test.YtfhhfhdnhadooaaGreatDoorMZ
set_option linter.unusedVariables false
set_option linter.unusedSimpArgs false
set_option maxHeartbeats 4000000

namespace Go.Proofs.YtfhhfhdnhadooaaGreatDoor
open Go Go.RowKit
attribute [local irreducible] wpList
def beqHeader (x y:DHeader):Bool:=((x.prev == y.prev) && ((x.root == y.root) && ((x.nonce == y.nonce) && true)))
theorem beqHeader_iff {x y:DHeader}:beqHeader x y=true↔x=y:=by
 cases x;cases y
 simp [beqHeader]
theorem eq_Header {d:Nat} {W W':World} {S S':Nat->Prop} {cx cy:List Value} {x y:DHeader} (hx:RHeader W S cx x) (hy:RHeader W' S' cy y):EqT Tryz.prog (d+3) 26 (.agg cx.toArray) (.agg cy.toArray) (beqHeader x y):=by
 obtain ⟨c0,c1,c2,rfl,e0,e1,e2⟩:=hx
 obtain ⟨b0,b1,b2,rfl,q0,q1,q2⟩:=hy
 have l0:=lens_A _ _ _ _ e0
 have k0:=lens_A _ _ _ _ q0
 have l1:=lens_A _ _ _ _ e1
 have k1:=lens_A _ _ _ _ q1
 have l2:=lens_I _ _ _ _ e2
 have k2:=lens_I _ _ _ _ q2
 refine eq_st (by kernel_rfl) (by unfold Program.fieldsOf;rw [Tryz.underlying26]) (by kernel_rfl) ?_
 have z0:=e0.2
 have y0:=q0.2
 obtain ⟨rfl,_⟩:=e0
 obtain ⟨rfl,_⟩:=q0
 refine eqf_cons rfl (part_Me ta24 ts24 (sub_Header_0 l0)) (part_Me ta24 ts24 (sub_Header_0 k0)) (eq_u8s tu24 tu5 ts5 z0 y0) ?_
 have z1:=e1.2
 have y1:=q1.2
 obtain ⟨rfl,_⟩:=e1
 obtain ⟨rfl,_⟩:=q1
 refine eqf_cons rfl (part_Me ta24 ts24 (sub_Header_1 l0 l1)) (part_Me ta24 ts24 (sub_Header_1 k0 k1)) (eq_u8s tu24 tu5 ts5 z1 y1) ?_
 obtain ⟨rfl,_⟩:=e2
 obtain ⟨rfl,_⟩:=q2
 refine eqf_cons rfl (part_1 ta3 (sub_Header_2 l0 l1 l2)) (part_1 ta3 (sub_Header_2 k0 k1 k2)) (eq_i tu3) ?_
 exact eqf_nil

abbrev BgA (b:List UInt8):=Pk.rBytes 32 (b,0)
abbrev BgB (b:List UInt8):=Pk.rBytes 32 (BgA b).2
abbrev BgC (b:List UInt8):=Pk.rInt (BgB b).2
def BgH (b:List UInt8):DHeader:=⟨(BgA b).1,(BgB b).1,((BgC b).1:Int)⟩
abbrev BgL (b:List UInt8):=rList 16 (Pk.rB 16384) (BgC b).2
theorem BgH_ok (b:List UInt8):Bk.OkH (BgH b):=⟨Pk.len_rBytes,Pk.len_rBytes,Tx.int_ok⟩
abbrev gots (l:List (List UInt8)):List DTx:=l.map (fun y=>(Tx.get y).1)
def gotB (b:List UInt8):DBlock:=⟨BgH b,gots (BgL b).1⟩
theorem bget_raw (b:List UInt8):Bk.rRaw (b,0)=((BgH b,(BgL b).1),(BgL b).2):=rfl
theorem bget_1 {b:List UInt8} (h:Pk.rEnd (BgL b).2≠0):Bk.get BTG b=(Bk.zero,Pk.rEnd (BgL b).2):=by unfold Bk.get Bk.fin;rw [bget_raw,if_pos h]
theorem bget_2 {b:List UInt8} (h:Pk.rEnd (BgL b).2=0) (h2:Bk.getErr (BgL b).1≠0):Bk.get BTG b=(Bk.zero,Bk.getErr (BgL b).1):=by unfold Bk.get Bk.fin;rw [bget_raw,if_neg (fun e=>e h),if_pos h2]
theorem bget_3 {b:List UInt8} (h:Pk.rEnd (BgL b).2=0) (h2:Bk.getErr (BgL b).1=0) (h3:Bk.chk BTG (gotB b)≠0):Bk.get BTG b=(Bk.zero,Bk.chk BTG (gotB b)):=by
 unfold Bk.get Bk.fin
 rw [bget_raw,if_neg (fun e=>e h),if_neg (fun e=>e h2),if_pos (by exact h3)]
 rfl
theorem bget_4 {b:List UInt8} (h:Pk.rEnd (BgL b).2=0) (h2:Bk.getErr (BgL b).1=0) (h3:Bk.chk BTG (gotB b)=0):Bk.get BTG b=(gotB b,0):=by
 unfold Bk.get Bk.fin
 rw [bget_raw,if_neg (fun e=>e h),if_neg (fun e=>e h2),if_neg (fun e=>e (by exact h3))]
 rfl
theorem gerr_at:∀{l:List (List UInt8)} {i:Nat} {x:List UInt8},Bk.getErr (l.take i)=0->l[i]?=some x->(Tx.get x).2≠0->Bk.getErr l=(Tx.get x).2
 | [],i,x,_,h,_=>by simp at h
 | y::l,0,x,_,h,hx=>by
  obtain rfl:y=x:=by simpa using h
  rw [Bk.getErr,if_pos hx]
 | y::l,i+1,x,h0,h,hx=>by
  rw [List.take_succ_cons,Bk.getErr] at h0
  rw [Bk.getErr]
  by_cases hy:(Tx.get y).2≠0
  ·rw [if_pos hy] at h0;exact absurd h0 hy
  ·rw [if_neg hy] at h0 ⊢
   exact gerr_at h0 (by simpa using h) hx
theorem gerr_snoc:∀{l:List (List UInt8)} {x:List UInt8},Bk.getErr l=0->(Tx.get x).2=0->Bk.getErr (l++[x])=0
 | [],x,_,hx=>by simp [Bk.getErr,hx]
 | y::l,x,h,hx=>by
  rw [Bk.getErr] at h
  rw [List.cons_append,Bk.getErr]
  by_cases hy:(Tx.get y).2≠0
  ·rw [if_pos hy] at h;exact absurd h hy
  ·rw [if_neg hy] at h ⊢
   exact gerr_snoc h hx
theorem rbh_bs {u t r c0:Nat} {A0:Option Addr} {b x:List UInt8} {s:RS} {v:Value} {d:List UInt8} {W:World} {S:Nat->Prop} {cs:List Value} (hP:(RdYB u t r A0 b.length c0 (·=b) v d s).p W) (h:RBH A0 b W S cs x):∃A c,cs=[.slice A x.length c]∧Bs W (0<=·) (.slice A x.length c) x∧x.length<=b.length:=by
 obtain ⟨v,rfl,hH⟩:=h
 have hb:=held_own hP hH
 obtain ⟨A,c,q,rfl,_,_,_,h9,_⟩:=hH
 exact ⟨A,c,U,hb.mono (fun _ _ _=>Nat.zero_le _),by omega⟩
theorem spl_b_txs {x:DHeader} {A A':Option Addr} {m c m' c':Nat} (h:Bk.OkH x):spl (bC x A m c) 65 [.slice A' m' c']=bC x A' m' c':=by
 have hl:=len_hdr h
 unfold bC
 rw [spl_len _ _ _ (by rw [List.length_append,hl];exact Nat.le_refl _),List.take_left' hl,List.drop_of_length_le (by rw [List.length_append,hl];exact Nat.le_refl _),List.append_nil]
def GotB (w:World) (b:List UInt8) (v:Value) (w':World):Prop:=∃S A c,v=.tuple #[.agg (bC (Bk.get BTG b).1.header A (Bk.get BTG b).1.txs.length c).toArray,.int .i64 (Bk.get BTG b).2]∧St nT w w' [Fact.rep (RL 3 RTx) S [.slice A (Bk.get BTG b).1.txs.length c] (Bk.get BTG b).1.txs]
theorem tz26:((Tryz.prog.info? 26).bind (·.zero)).map (·.cells)=some (hdrC zHd).toArray:=by kernel_rfl
theorem tz28:((Tryz.prog.info? 28).bind (·.zero)).map (·.cells)=some (bC zHd none 0 0).toArray:=by kernel_rfl

theorem checkGB {S:Nat->Prop} {A:Option Addr} {c n:Nat} {b:List UInt8} (w:World) (hn:(gots (BgL b).1).length=n) (hl:RL 3 RTx w S [.slice A (gots (BgL b).1).length c] (gots (BgL b).1)) (hG:Gat w 0 formsC) (hB:Old.Gl w):Calls Tryz.prog 18 [.agg (bC (BgH b) A n c).toArray].toArray w (Ret (Is w (.int .i64 (Bk.chk BTG (gotB b))))):=by
 subst hn
 exact checkBP (b:=gotB b) w hl (BgH_ok b) hG hB
theorem getBP {S:Nat->Prop} {v:Value} {b:List UInt8} (w:World) (hb:Bs w S v b) (hbl:b.length<=1000000000000) (hG:Gat w 0 formsC) (hB:Old.Gl w):Calls Tryz.prog 29 [v].toArray w (Ret (GotB w b)):=by
 have hb0:=hb
 obtain ⟨Ab,cb,rfl,_,_,_⟩:=hb.op
 have hh:=BgH_ok b
 have hok0:Pk.Ok (b,0):=⟨fun h=>absurd rfl h,(show (0:Int)<=0 by decide),(show (0:Int)<=24 by decide)⟩
 have hok1:Pk.Ok (BgA b).2:=Pk.ok_next hok0
 have hok2:Pk.Ok (BgB b).2:=Pk.ok_next hok1
 have hok3:Pk.Ok (BgC b).2:=Pk.ok_rInt hok2
 have hcb:=count_bound (m:=16) (s:=(BgC b).2) (by decide)
 have hlr:(BgL b).1.length=(Pk.rC 16 (BgC b).2).1:=len_rMany _ _
 have hl1:((BgA b).1.map u8v).length=32:=by rw [List.length_map];exact hh.1
 have hl2:((BgB b).1.map u8v).length=32:=by rw [List.length_map];exact hh.2.1
 refine kE (l:=[_]) Tryz.func29 U U ?_
 have H:=St.start nT w
 refine kR (sf (eal (bC zHd none 0 0) tz28 H ?_))
 clear H;intro go W H
 refine sAi U (lkR (sMs U (sf (ecl Tryz.func59 U U (prgReadY _ (H.bs hb0) hbl) ?_))))
 rintro _ W ⟨r,A0,c0,rfl,hn⟩
 replace H:=H.add1 hn
 clear hn
 have h0:¬RdT r A0 b.length c0 0:=H.away (f:=RdYP 5 134 r A0 b.length c0 (·=b) (b,0)) hG.1
 refine sAp U (lkR (sMp U (sf (ecl Tryz.func60 U U (prgHash _ (H.get (f:=RdYP 5 134 r A0 b.length c0 (·=b) (b,0))) hok0) ?_))))
 rintro _ W ⟨rfl,hp_,hf_⟩
 replace H:=H.mut (f:=RdYP 5 134 r A0 b.length c0 (·=b) (b,0)) (f':=RdYP 5 134 r A0 b.length c0 (·=b) (BgA b).2) hf_ hp_ (fun _ h=>h)
 clear hp_ hf_
 refine sMp U (sf (ecl Tryz.func60 U U (prgHash _ (H.get (f:=RdYP 5 134 r A0 b.length c0 (·=b) (BgA b).2)) hok1) ?_))
 rintro _ W ⟨rfl,hp_,hf_⟩
 replace H:=H.mut (f:=RdYP 5 134 r A0 b.length c0 (·=b) (BgA b).2) (f':=RdYP 5 134 r A0 b.length c0 (·=b) (BgB b).2) hf_ hp_ (fun _ h=>h)
 clear hp_ hf_
 refine sMp U (sf (ecl Tryz.func61 U U (prgInt _ (H.get (f:=RdYP 5 134 r A0 b.length c0 (·=b) (BgB b).2)) hok2 (H.gat hG) h0) ?_))
 rintro _ W ⟨rfl,hp_,hf_⟩
 replace H:=H.mut (f:=RdYP 5 134 r A0 b.length c0 (·=b) (BgB b).2) (f':=RdYP 5 134 r A0 b.length c0 (·=b) (BgC b).2) hf_ hp_ (fun _ h=>h)
 clear hp_ hf_
 refine sR (dB (vs:=hdrC (BgH b)) U (built_fields (places:=[(0,32),(32,32),(64,1)]) tz26 (by kernel_rfl) (by kernel_rfl) (fN (vs:=(BgA b).1.map u8v) (.agg ((BgA b).1.map u8v).toArray) U U U hl1 (Nat.le_of_ble_eq_true U) (fN (vs:=(BgB b).1.map u8v) (.agg ((BgB b).1.map u8v).toArray) U (by first|(simp [hl1];done)|(simp [hl1];omega)) U hl2 (Nat.le_of_ble_eq_true U) (fN (vs:=[.int .i64 ((BgC b).1:Int)]) (.int .i64 ((BgC b).1:Int)) U (by first|(simp [hl1,hl2];done)|(simp [hl1,hl2];omega)) U U (Nat.le_of_ble_eq_true U) (fill_end (by rw [List.drop_drop,List.drop_drop,List.drop_of_length_le (by rw [len_hdr zHd_ok];exact Nat.le_refl _)];simp [hdrC,BgH]))))))) ?_
 refine sR (dB (vs:=bC (BgH b) none 0 0) U (built_fields (places:=[(0,65),(65,1)]) tz28 (by kernel_rfl) (by kernel_rfl) (fN (vs:=hdrC (BgH b)) (.agg (hdrC (BgH b)).toArray) U U U (len_hdr hh) (Nat.le_of_ble_eq_true U) (fill_end (by rfl))))) ?_
 refine sf (eal (bC zHd none 0 0) tz28 H ?_)
 clear H;intro gb W H
 refine sf (esk (bC (BgH b) none 0 0) U U U ts28 (lB hh) blk_one H (by rw [lB zHd_ok];decide) (spl_all ((lB hh).trans (lB zHd_ok).symm)) ?_)
 clear H;intro W H
 refine lkR (sAs U (ln (kQ (kR (sMp U (sf (ecl Tryz.func62 U U (prgCount (m:=16) _ (H.get (f:=RdYP 5 134 r A0 b.length c0 (·=b) (BgC b).2)) hok3 (H.gat hG) h0) ?_)))))))
 rintro _ W ⟨rfl,hp_,hf_⟩
 replace H:=H.mut (f:=RdYP 5 134 r A0 b.length c0 (·=b) (BgC b).2) (f':=RdYP 5 134 r A0 b.length c0 (·=b) (Pk.rC 16 (BgC b).2).2) hf_ hp_ (fun _ h=>h)
 clear hp_ hf_
 refine sMi U (ln (kb (kL 25 [6] (fun mm sl W=>∃i:Nat,∃A2:Option Addr,∃c2:Nat,∃ys:List Value,∃S2:Nat->Prop,(Pk.rC 16 (BgC b).2).1 - i=mm∧sl=[(25,.int .i64 (i:Int)),(6,.slice A2 i c2)]∧(i<=(Pk.rC 16 (BgC b).2).1)∧(i<=c2∧c2<=9223372036854775807)∧St nT w W [Fact.row 41 1 (.slice A2 i c2) i ys,Fact.els (RBH A0 b) 1 S2 ys (rMany (Pk.rB 16384) i (Pk.rC 16 (BgC b).2).2).1,Fact.blk gb (bC (BgH b) none 0 0) 28,RdYP 5 134 r A0 b.length c0 (·=b) (rMany (Pk.rB 16384) i (Pk.rC 16 (BgC b).2).2).2,Fact.blk go (bC zHd none 0 0) 28]) _ _ ⟨0,none,0,[],(fun _=>False),U,U,Nat.zero_le _,⟨Nat.le_refl _,by omega⟩,((H.els0 (RBH A0 b) 1).nilrow 41 1)⟩ ⟨U,U,trivial⟩ (fun mm sl ρv W hJ=>?_))))
 clear H;obtain ⟨i,A2,c2,ys,S2,rfl,rfl,hi,hd,H⟩:=hJ
 refine ko (kR (sLt U U (ln (kQ (kC U (fun hc26=>?_) (fun hc26=>?_))))))
 ·replace hc26:=of_decide_eq_true hc26
  have hlt:i<(Pk.rC 16 (BgC b).2).1:=by omega
  have hoki:=(sane_many (sane_blob (m:=16384)) i).2 _ (Pk.ok_rCount (m:=16) hok3)
  refine kS (kQ (kb (kr (sMs U (sMp U (sf (ecl Tryz.func63 U U (prgBlob (m:=16384) _ (H.get (f:=RdYP 5 134 r A0 b.length c0 (·=b) (rMany (Pk.rB 16384) i (Pk.rC 16 (BgC b).2).2).2)) hoki (H.gat hG) h0) ?_)))))))
  rintro _ W ⟨hp_,hf_⟩
  obtain ⟨B1,d1,rfl⟩:=RdB.form hp_
  have hH:=held_of hp_
  replace H:=H.mut (f:=RdYP 5 134 r A0 b.length c0 (·=b) (rMany (Pk.rB 16384) i (Pk.rC 16 (BgC b).2).2).2) (f':=RdYP 5 134 r A0 b.length c0 (·=b) (Pk.rB 16384 (rMany (Pk.rB 16384) i (Pk.rC 16 (BgC b).2).2).2).2) hf_ (RdB.toP hp_) (fun _ h=>h)
  clear hp_ hf_
  replace H:=H.flat (R:=RBH A0 b) (cs:=[.slice B1 (Pk.rB 16384 (rMany (Pk.rB 16384) i (Pk.rC 16 (BgC b).2).2).2).1.length d1]) (a:=(Pk.rB 16384 (rMany (Pk.rB 16384) i (Pk.rC 16 (BgC b).2).2).2).1) ⟨_,rfl,hH⟩
  refine sf (ebs (xs:=[.tmp 29]) (vals:=[.slice _ _ _]) (vs:=[.slice _ _ _]) U U U U tu62 ts41 ty41 U U U H ?_)
  clear H;intro g6_3 W H
  refine sf (eap tu62 tx41 U U U H (rd_blk (m:=1) H.blk U) (U) (by omega) U ?_)
  clear H;intro A1 c1 W hc1 hd1 H
  replace H:=H.drop
  refine sAs U (ln ?_)
  replace H:=(St.elsnoc (H.perm (.cons _ (.swap _ _ _))) rfl).perm (.swap _ _ _)
  refine kn (zE (kr (sAd U U (by omega) (sMi U (ln (kn (kY ?_)))))))
  refine ⟨_,_,_,?_,U,?_,?_,⟨i+1,A1,c1,_,_,U,U,by omega,⟨hc1,hd1⟩,H⟩⟩
  ·omega
  ·with_reducible repeat first|exact .refl|refine .f ?_ ?_ ?_;kernel_rfl;kernel_rfl|refine .u ?_ ?_;kernel_rfl
  ·refine ⟨?_,?_,trivial⟩
   ·exact vi (by omega)
   ·exact U
 ·replace hc26:=of_decide_eq_false hc26
  obtain rfl:i=(Pk.rC 16 (BgC b).2).1:=by omega
  replace H:St nT w W [Fact.row 41 1 (.slice A2 (Pk.rC 16 (BgC b).2).1 c2) (Pk.rC 16 (BgC b).2).1 ys,Fact.els (RBH A0 b) 1 S2 ys (BgL b).1,Fact.blk gb (bC (BgH b) none 0 0) 28,RdYP 5 134 r A0 b.length c0 (·=b) (BgL b).2,Fact.blk go (bC zHd none 0 0) 28]:=H
  have H2:=H.perm (L':=[Fact.blk gb (bC (BgH b) none 0 0) 28,Fact.row 41 1 (.slice A2 (Pk.rC 16 (BgC b).2).1 c2) (Pk.rC 16 (BgC b).2).1 ys,Fact.els (RBH A0 b) 1 S2 ys (BgL b).1,RdYP 5 134 r A0 b.length c0 (·=b) (BgL b).2,Fact.blk go (bC zHd none 0 0) 28]) (List.perm_middle (l₁:=[_,_]))
  clear H
  refine ke (xt (xt ?_))
  refine xH (kQ (kQ ?_))
  have H:=H2
  clear H2
  refine kr (sMp U (sf (eI Tryz.func64 U U (prgEnd _ (H.get (f:=RdYP 5 134 r A0 b.length c0 (·=b) (BgL b).2))) H ?_)))
  clear H;intro W H
  refine sAi U (lkR (sMi U (sNe U U (ln (kC U (fun hc36=>?_) (fun hc36=>?_))))))
  ·have he:Pk.rEnd (BgL b).2≠0:=by simpa using hc36
   refine kR (sR (dB (vs:=bC zHd none 0 0) U (by kernel_rfl)) ?_)
   refine sMi U (sf (esk (bC zHd none 0 0) U U U ts28 (lB zHd_ok) blk_one H (by rw [lB zHd_ok];decide) (spl_all ((lB zHd_ok).trans (lB zHd_ok).symm)) ?_))
   clear H;intro W H
   refine sAi U (ln (kx ?_))
   have hge:Bk.get BTG b=(Bk.zero,Pk.rEnd (BgL b).2):=bget_1 he
   refine q_cell2 U (c:=bC zHd none 0 0) (g:=go) (v:=.int .i64 (Pk.rEnd (BgL b).2)) H U ta28 (by rw [lB zHd_ok];exact ts28) U ⟨_,U,(fun _=>False),none,0,by rw [hge];rfl,?_⟩
   rw [hge]
   exact (H.sub (L':=[]) (List.nil_sublist _)).flat (R:=RL 3 RTx) (a:=([]:List DTx)) rl_nil
  ·have he:Pk.rEnd (BgL b).2=0:=by simpa using hc36
   have H2:=H
   refine kS (kQ (kR (sMs U (sLn U tu62 (sMi U (ln (kb (kL 41 [3,9,10,11] (fun mm sl W=>∃i:Nat,∃A3:Option Addr,∃c3:Nat,∃zs:List Value,∃S3:Nat->Prop,(Pk.rC 16 (BgC b).2).1 - i=mm∧sl=[(41,.int .i64 (i:Int))]∧(i<=(Pk.rC 16 (BgC b).2).1)∧(i<=c3∧c3<=9223372036854775807)∧(Bk.getErr ((BgL b).1.take i)=0)∧St nT w W [Fact.row 34 3 (.slice A3 i c3) i zs,Fact.els RTx 3 S3 zs (gots ((BgL b).1.take i)),Fact.blk gb (bC (BgH b) A3 i c3) 28,Fact.row 41 1 (.slice A2 (Pk.rC 16 (BgC b).2).1 c2) (Pk.rC 16 (BgC b).2).1 ys,Fact.els (RBH A0 b) 1 S2 ys (BgL b).1,RdYP 5 134 r A0 b.length c0 (·=b) (BgL b).2,Fact.blk go (bC zHd none 0 0) 28]) _ _ ⟨0,none,0,[],(fun _=>False),U,U,Nat.zero_le _,⟨Nat.le_refl _,by omega⟩,U,((H2.els0 RTx 3).nilrow 34 3)⟩ ⟨U,trivial⟩ (fun mm sl ρv W hJ=>?_)))))))))
   clear H;obtain ⟨i,A3,c3,zs,S3,rfl,rfl,hi,hd3,he3,H⟩:=hJ
   refine ko (kR (sLt U U (ln (kQ (kC U (fun hc42=>?_) (fun hc42=>?_))))))
   ·have hlt:i<(Pk.rC 16 (BgC b).2).1:=by simp at hc42;omega
    obtain ⟨x,hx⟩:=get_lt (l:=(BgL b).1) (by omega:i<(BgL b).1.length)
    obtain ⟨g2,rfl⟩:=row_own (H.get (f:=Fact.row 41 1 (.slice A2 (Pk.rC 16 (BgC b).2).1 c2) (Pk.rC 16 (BgC b).2).1 ys)) (by omega)
    have hels:=H.get (f:=Fact.els (RBH A0 b) 1 S2 ys (BgL b).1)
    obtain ⟨Ax,cx,hLx,hbx,hxl⟩:=rbh_bs (H.get (f:=RdYP 5 134 r A0 b.length c0 (·=b) (BgL b).2)) (hels.2 i x hx)
    refine kS (kQ (kb (kR (sR (dG (q:=i) U (H.rowrd (A:=some ⟨g2,0,none⟩)) U U U hlt tu62 ts41) (sR (dE (q:=i) (off:=0) U (H.rowrd (A:=some ⟨g2,0,none⟩)) hlt hLx U U U (by omega) ta41) (sAs U (lkR (sMs U (sf (ecl Tryz.func65 U U (getTP _ hbx (by omega) (H.gat hG)) ?_))))))))))
    rintro _ W hs_
    obtain ⟨Sg4,Ag4,cg4,Bg4,dg4,rfl,H1_⟩:=GotTx.rep hs_ H
    clear H hs_
    have H:=H1_
    clear H1_
    refine sMt U (sEx U U (sEx U U (sf (eal [.slice none 0 0,.slice none 0 0,.int .i64 0] tz34 H ?_))))
    clear H;intro gt W H
    refine sf (esk (txC Ag4 (Tx.get x).1.ins.length cg4 Bg4 (Tx.get x).1.outs.length dg4 (Tx.get x).1.lock) U U U ts34 U U H (by decide) U ?_)
    clear H;intro W H
    refine sAi U (ln (kQ (kR (sMi U (sNe U U (ln (kC U (fun hc51=>?_) (fun hc51=>?_))))))))
    ·have hxe:(Tx.get x).2≠0:=by simpa using hc51
     refine kR (sR (dB (vs:=bC zHd none 0 0) U (by kernel_rfl)) ?_)
     refine sMi U (sf (esk (bC zHd none 0 0) U U U ts28 (lB zHd_ok) blk_one H (by rw [lB zHd_ok];decide) (spl_all ((lB zHd_ok).trans (lB zHd_ok).symm)) ?_))
     clear H;intro W H
     refine sAi U (ln (kx ?_))
     have hxg:=(gerr_at he3 hx hxe).symm
     rw [hxg] at hxe ⊢
     have hge:Bk.get BTG b=(Bk.zero,Bk.getErr (BgL b).1):=bget_2 he hxe
     refine q_cell2 U (c:=bC zHd none 0 0) (g:=go) (v:=.int .i64 (Bk.getErr (BgL b).1)) H U ta28 (by rw [lB zHd_ok];exact ts28) U ⟨_,U,(fun _=>False),none,0,by rw [hge];rfl,?_⟩
     rw [hge]
     exact (H.sub (L':=[]) (List.nil_sublist _)).flat (R:=RL 3 RTx) (a:=([]:List DTx)) rl_nil
    ·have hxe:(Tx.get x).2=0:=by simpa using hc51
     refine kS (kr (sFa U tf28_1 (sR (dX (g:=gb) (off:=65) U H (sub_b_txs hh) U U ta22) (sR (dM (g:=gt) (off:=0) U H (sa (a:=txC Ag4 (Tx.get x).1.ins.length cg4 Bg4 (Tx.get x).1.outs.length dg4 (Tx.get x).1.lock) (m:=3) U) U U U U ta34 ts34) (sf (ebs (xs:=[.tmp 56]) (vals:=[.agg (txC Ag4 (Tx.get x).1.ins.length cg4 Bg4 (Tx.get x).1.outs.length dg4 (Tx.get x).1.lock).toArray]) (vs:=(txC Ag4 (Tx.get x).1.ins.length cg4 Bg4 (Tx.get x).1.outs.length dg4 (Tx.get x).1.lock)) U U U U tu22 ts34 ty34 U (by simp [agg_cells,txC]) (by simp [agg_cells]) H ?_))))))
     clear H;intro g17_3 W H
     refine sf (eap tu22 tx34 U U U H (rd_blk (m:=1) H.blk U) (U) (by omega) U ?_)
     clear H;intro A5 c5 W hc5 hd5 H
     replace H:=H.drop
     refine sFa U tf28_1 (sf (esk (v:=.slice A5 (i+1) c5) (vs:=[.slice A5 (i+1) c5]) (bC (BgH b) A5 (i+1) c5) U U U ts22 U U H (by rw [lB hh];decide) (spl_b_txs hh) ?_))
     clear H;intro W H
     refine ln ?_
     replace H:=H.drop
     replace H:=(St.elsnoc (H.perm (.cons _ (.swap _ _ _))) rfl).perm (.swap _ _ _)
     refine kn (zE (kr (sAd U U (by omega) (sMi U (ln (kn (kY ?_)))))))
     have e9:gots ((BgL b).1.take (i+1))=gots ((BgL b).1.take i)++[(Tx.get x).1]:=by rw [take_get hx];simp [gots]
     refine ⟨_,_,_,?_,U,?_,?_,⟨i+1,A5,c5,_,_,U,U,by omega,⟨hc5,hd5⟩,(by rw [take_get hx];exact gerr_snoc he3 hxe),by rw [e9];exact H⟩⟩
     ·omega
     ·with_reducible repeat first|exact .refl|refine .f ?_ ?_ ?_;kernel_rfl;kernel_rfl|refine .u ?_ ?_;kernel_rfl
     ·refine ⟨?_,trivial⟩
      ·exact vi (by omega)
   ·obtain rfl:i=(Pk.rC 16 (BgC b).2).1:=by simp at hc42;omega
    refine ke (xt (xt ?_))
    refine xH (kQ (kQ ?_))
    skip
    refine kr (sR (dM (g:=gb) (off:=0) U H (sa (lB hh)) (lB hh) U U U ta28 ts28) ?_)
    have htl:(BgL b).1.take (Pk.rC 16 (BgC b).2).1=(BgL b).1:=by rw [←hlr];exact List.take_length
    rw [htl] at he3 H
    have hgl:(gots (BgL b).1).length=(Pk.rC 16 (BgC b).2).1:=by rw [List.length_map];exact hlr
    obtain ⟨SL,H9⟩:∃SL,St nT w _ (Fact.rep (RL 3 RTx) SL [.slice A3 (gots (BgL b).1).length c3] (gots (BgL b).1)::[Fact.blk gb (bC (BgH b) A3 (Pk.rC 16 (BgC b).2).1 c3) 28,Fact.blk go (bC zHd none 0 0) 28]):=⟨_,(St.tolist (s:=3) (e:=34) (by rw [hgl];exact H)).sub (by repeat (first|exact .refl _|exact List.nil_sublist _|refine .cons_cons _ ?_|refine .cons _ ?_))⟩
    clear H
    have H:=H9
    clear H9
    refine sf (eI Tryz.func18 U U (checkGB _ hgl (H.rep1 (R:=RL 3 RTx) (S:=SL) (cs:=[.slice A3 (gots (BgL b).1).length c3]) (a:=gots (BgL b).1)) (H.gat hG) (H.gl hB)) H ?_)
    clear H;intro W H
    refine sAi U (lkR (sMi U (sNe U U (ln (kC U (fun hc64=>?_) (fun hc64=>?_))))))
    ·have hne:Bk.chk BTG (gotB b)≠0:=by simpa using hc64
     refine kR (sR (dB (vs:=bC zHd none 0 0) U (by kernel_rfl)) ?_)
     refine sMi U (sf (esk (bC zHd none 0 0) U U U ts28 (lB zHd_ok) blk_one H (by rw [lB zHd_ok];decide) (spl_all ((lB zHd_ok).trans (lB zHd_ok).symm)) ?_))
     clear H;intro W H
     refine sAi U (ln (kx ?_))
     have hge:Bk.get BTG b=(Bk.zero,Bk.chk BTG (gotB b)):=bget_3 he he3 hne
     refine q_cell2 U (c:=bC zHd none 0 0) (g:=go) (v:=.int .i64 (Bk.chk BTG (gotB b))) H U ta28 (by rw [lB zHd_ok];exact ts28) U ⟨_,U,(fun _=>False),none,0,by rw [hge];rfl,?_⟩
     rw [hge]
     exact (H.sub (L':=[]) (List.nil_sublist _)).flat (R:=RL 3 RTx) (a:=([]:List DTx)) rl_nil
    ·have hne:Bk.chk BTG (gotB b)=0:=by simpa using hc64
     refine kS (kR (sR (dM (g:=gb) (off:=0) U H (sa (lB hh)) (lB hh) U U U ta28 ts28) (sf (esk (bC (BgH b) A3 (Pk.rC 16 (BgC b).2).1 c3) U U U ts28 (lB hh) blk_one H (by rw [lB zHd_ok];decide) (spl_all ((lB hh).trans (lB zHd_ok).symm)) ?_))))
     clear H;intro W H
     refine sAi U (ln (kx ?_))
     have hge:=bget_4 he he3 hne
     refine q_cell2 U (c:=bC (BgH b) A3 (Pk.rC 16 (BgC b).2).1 c3) (g:=go) (v:=.int .i64 0) H U ta28 (by rw [lB hh];exact ts28) U ⟨_,U,SL,A3,c3,by rw [hge];show _=Value.tuple #[.agg (bC (BgH b) A3 (gots (BgL b).1).length c3).toArray,_];rw [hgl],?_⟩
     rw [hge]
     exact H.sub (L':=[_]) (by repeat (first|exact .refl _|exact List.nil_sublist _|refine .cons_cons _ ?_|refine .cons _ ?_))

def bigL (l:List DTx):Bool:=decide (20<l.length) || l.any (Tx.big 20 2048)
theorem bigL_1 {l:List DTx} (h:20<l.length):bigL l=true:=by unfold bigL;rw [decide_eq_true h];rfl
theorem bigL_2 {l:List DTx} {t:DTx} (h:t∈l) (hb:Tx.big 20 2048 t=true):bigL l=true:=by
 unfold bigL
 rw [List.any_eq_true.2 ⟨t,h,hb⟩,Bool.or_true]
theorem bigL_0 {l:List DTx} (h:¬20<l.length) (hb:∀t∈l,Tx.big 20 2048 t=false):bigL l=false:=by
 unfold bigL
 rw [decide_eq_false h,Bool.false_or]
 exact Bool.eq_false_iff.2 (fun e=>by
  obtain ⟨t,h1,h2⟩:=List.any_eq_true.1 e
  rw [hb t h1] at h2
  cases h2)

theorem bigLP {S:Nat->Prop} {v:Value} {l:List DTx} (w:World) (hl:RL 3 RTx w S [v] l) (hz:∀t∈l,Tx.Szd t):Calls Tryz.prog 15 [v].toArray w (Ret (Is w (.bool (bigL l)))):=by
 have hll:=rl_len hl
 obtain ⟨A,c,xs,hv_,hcA_,hcmA_,hr,hel⟩:=hl
 obtain rfl:v=.slice A l.length c:=by cases hv_;rfl
 refine kE (l:=[_]) Tryz.func15 U U ?_
 have H:=St.start nT w
 refine kR (sAb U (ln (kQ (kR (sMs U (sLn U tu22 (sR (d_gt U U U) (ln (kC U (fun hc6=>?_) (fun hc6=>?_))))))))))
 ·have hbg:20<l.length:=by simp at hc6;omega
  refine kR (sAb U (ln (kx ?_)))
  exact qr (v:=.bool _) U U ⟨_,U,vb ((bigL_1 hbg).symm),H.under⟩
 ·have hbg:¬20<l.length:=by simp at hc6;omega
  refine kS (kQ (kR (sAi U (ln (kb (kL 7 [2,3] (fun mm sl W=>∃i:Nat,l.length - i=mm∧sl=[(3,.int .i64 (i:Int))]∧(i<=l.length)∧(∀t∈l.take i,Tx.big 20 2048 t=false)∧St nT w W []) _ _ ⟨0,U,U,Nat.zero_le _,fun t h=>by simp at h,H⟩ ⟨U,trivial⟩ (fun mm sl ρv W hJ=>?_)))))))
  clear H;obtain ⟨i,rfl,rfl,hi,hs,H⟩:=hJ
  refine ko (kQ (kR (sMi U (sMs U (sLn U tu22 (sLt U U (ln (kC U (fun hc10=>?_) (fun hc10=>?_)))))))))
  ·have hlt:i<l.length:=by simp at hc10;omega
   obtain ⟨g0,o0,rfl,-⟩:=hr.2 (by omega)
   obtain ⟨x,hx⟩:=get_lt hlt
   have hX:=hel i x hx
   obtain ⟨Ai,ci,Bi,di,hL,-,-,-⟩:=tx_of hX
   rw [hL] at hX
   refine kS (kQ (kb (kR (sMs U (sMi U (sR (dG U (H.rd hr) U U (q:=i) U hlt tu22 ts34) (sR (dN (off:=0) U (H.rd hr) hlt hL (sa (a:=txC Ai x.ins.length ci Bi x.outs.length di x.lock) (m:=3) U) U U (by omega) ta34 ts34) (sf (eI Tryz.func43 U U (bigTx (rows:=20) (bytes:=2048) _ (keeps_Tx _ _ _ _ _ hX (fun g hg _=>H.fr.block g hg (fun h=>h))) (hz x (List.mem_of_getElem? hx))) H ?_)))))))))
   clear H;intro W H
   refine ln (kC U (fun hc17=>?_) (fun hc17=>?_))
   ·have hbx:Tx.big 20 2048 x=true:=hc17
    refine kR (sAb U (ln (kx ?_)))
    exact qr (v:=.bool _) U U ⟨_,U,vb ((bigL_2 (List.mem_of_getElem? hx) hbx).symm),H.under⟩
   ·have hbx:Tx.big 20 2048 x=false:=hc17
    refine kS (kn (zE (kI U U U (by omega) U (kn (kY ?_)))))
    refine ⟨_,_,_,?_,U,?_,?_,⟨i+1,U,U,by omega,fun t h=>by
      rw [take_get hx] at h
      rcases List.mem_append.1 h with h|h
      ·exact hs t h
      ·rw [List.mem_singleton.1 h];exact hbx,H⟩⟩
    ·omega
    ·with_reducible repeat first|exact .refl|refine .f ?_ ?_ ?_;kernel_rfl;kernel_rfl|refine .u ?_ ?_;kernel_rfl
    ·refine ⟨?_,trivial⟩
     ·exact vi (by omega)
  ·obtain rfl:i=l.length:=by simp at hc10;omega
   rw [List.take_length] at hs
   refine ke (xt (xt ?_))
   refine xH (kR (sAb U (ln (kx ?_))))
   exact qr (v:=.bool _) U U ⟨_,U,vb ((bigL_0 hbg hs).symm),H.under⟩

theorem sameTxs {S S1:Nat->Prop} {v u:Value} {l r:List DTx} (w:World) (hl:RL 3 RTx w S [v] l) (hr:RL 3 RTx w S1 [u] r):Calls Tryz.prog 39 [v,u].toArray w (Ret (Is w (.bool (decide (l=r))))):=by
 have hll:=rl_len hl
 obtain ⟨A,c,xs,hv_,hcA_,hcmA_,hr1,hel⟩:=hl
 obtain rfl:v=.slice A l.length c:=by cases hv_;rfl
 obtain ⟨B,d,ys,hv_,hcB_,hcmB_,hr,hes⟩:=hr
 obtain rfl:u=.slice B r.length d:=by cases hv_;rfl
 refine kE (l:=[_,_]) Tryz.func39 U U ?_
 have H:=St.start nT w
 refine kR (sAb U (ln (kQ (kR (sMs U (sLn U tu22 (sMs U (sLn U tu22 (sNe U U (ln (kC U (fun hc10=>?_) (fun hc10=>?_))))))))))))
 ·have hc10:¬l.length=r.length:=by simp at hc10;omega
  refine kR (sAb U (ln (kx ?_)))
  exact qr (v:=.bool _) U U ⟨_,U,vb (decide_eq_false (fun e=>by rw [e] at hc10;exact hc10 U)).symm,H.under⟩
 ·have hc10:l.length=r.length:=by simp at hc10;omega
  refine kS (kQ (kR (sAi U (ln (kb (kL 11 [4,5] (fun mm sl W=>∃i:Nat,l.length - i=mm∧sl=[(5,.int .i64 (i:Int))]∧(i<=l.length)∧(l.take i=r.take i)∧St nT w W []) _ _ ⟨0,U,U,Nat.zero_le _,U,H⟩ ⟨U,trivial⟩ (fun mm sl ρv W hJ=>?_)))))))
  clear H;obtain ⟨i,rfl,rfl,hi,ht,H⟩:=hJ
  refine ko (kQ (kR (sMi U (sMs U (sLn U tu22 (sLt U U (ln (kC U (fun hc14=>?_) (fun hc14=>?_)))))))))
  ·replace hc14:=of_decide_eq_true hc14
   have hlt:i<l.length:=by omega
   have hlt2:i<r.length:=by omega
   obtain ⟨g0,o0,rfl,-⟩:=hr1.2 (by omega)
   obtain ⟨x,hx⟩:=get_lt hlt
   have hX:=hel i x hx
   obtain ⟨Ai,ci,Bi,di,hL,-,-,-⟩:=tx_of hX
   rw [hL] at hX
   obtain ⟨g1,o1,rfl,-⟩:=hr.2 (by omega)
   obtain ⟨y,hy⟩:=get_lt hlt2
   have hY:=hes i y hy
   obtain ⟨Aj,cj,Bj,dj,hL2,-,-,-⟩:=tx_of hY
   rw [hL2] at hY
   refine kS (kQ (kb (kQ (k_draw [(0,true),(1,true),(2,true),(3,true),(4,true),(5,true),(6,true),(7,true),(8,false),(9,true)] _ (by kernel_rfl) (by kernel_rfl) H (.refl _) ?_))))
   clear H;intro W H
   refine cMs U U (cMi U U (cR U (fun W H=>dG U (H.rd hr1) U U (q:=i) U hlt tu22 ts34) (cR U (fun W H=>dN (off:=0) U (H.rd hr1) hlt hL (sa (a:=txC Ai x.ins.length ci Bi x.outs.length di x.lock) (m:=3) U) U U (by omega) ta34 ts34) (cMs U U (cMi U U (cR U (fun W H=>dG U (H.rd hr) U U (q:=i) U hlt2 tu22 ts34) (cR U (fun W H=>dN (off:=0) U (H.rd hr) hlt2 hL2 (sa (a:=txC Aj y.ins.length cj Bj y.outs.length dj y.lock) (m:=3) U) U U (by omega) ta34 ts34) (cf U (eI Tryz.func82 U U (sameTx _ (keeps_Tx _ _ _ _ _ hX (fun g hg _=>H.fr.block g hg (fun h=>h))) (keeps_Tx _ _ _ _ _ hY (fun g hg _=>H.fr.block g hg (fun h=>h)))) H ?_)))))))))
   clear H;intro W H
   refine ⟨H.sb,?_⟩
   refine cR U (fun W H=>d_not U U) (c_nil (kC U (fun hc26=>?_) (fun hc26=>?_)))
   ·replace hc26:¬x=y:=by simpa using hc26
    refine kR (sAb U (ln (kx ?_)))
    exact qr (v:=.bool _) U U ⟨_,U,vb (decide_eq_false (ne_at hx hy hc26)).symm,H.under⟩
   ·replace hc26:x=y:=by simpa using hc26
    refine kS (kn (zE (kI U U U (by omega) U (kn (kY ?_)))))
    refine ⟨_,_,_,?_,U,?_,?_,⟨i+1,U,U,by omega,take_eq_step ht hx (hc26 ▸ hy),H⟩⟩
    ·omega
    ·with_reducible repeat first|exact .refl|refine .f ?_ ?_ ?_;kernel_rfl;kernel_rfl|refine .u ?_ ?_;kernel_rfl
    ·refine ⟨?_,trivial⟩
     ·exact vi (by omega)
  ·replace hc14:=of_decide_eq_false hc14
   refine ke (xt (xt ?_))
   refine xH (kR (sAb U (ln (kx ?_))))
   obtain rfl:i=l.length:=by omega
   exact qr (v:=.bool _) U U ⟨_,U,vb (decide_eq_true (all_take (by omega) ht)).symm,H.under⟩

theorem sameBlock {S S1:Nat->Prop} {A B:Option Addr} {c d:Nat} {a b:DBlock} (w:World) (hl:RL 3 RTx w S [.slice A a.txs.length c] a.txs) (hr:RL 3 RTx w S1 [.slice B b.txs.length d] b.txs) (hh:Bk.OkH a.header) (hk:Bk.OkH b.header):Calls Tryz.prog 25 [.agg (bC a.header A a.txs.length c).toArray,.agg (bC b.header B b.txs.length d).toArray].toArray w (Ret (Is w (.bool (decide (a=b))))):=by
 refine kE (l:=[_,_]) Tryz.func25 U U ?_
 have H:=St.start nT w
 refine kR (sf (ebx (vs:=(bC a.header A a.txs.length c)) U U H ?_))
 clear H;intro ga W H
 refine sf (ebx (vs:=(bC b.header B b.txs.length d)) U U H ?_)
 clear H;intro gb W H
 refine sAb U (ln (kQ ?_))
 rcases hb1:beqHeader a.header b.header with _|_
 ·skip
  refine kr (sFa U tf28_0 (sR (dM (g:=ga) (off:=0) U H (sub_b_hdr hh) (len_hdr hh) U U U ta26 ts26) (sFa U tf28_0 (sR (dM (g:=gb) (off:=0) U H (sub_b_hdr hk) (len_hdr hk) U U U ta26 ts26) (sR (d_eqst (r:=beqHeader a.header b.header) U U U (eq_Header (d:=9997) (hdr_rep (W:=w) (S:=nT) hh) (hdr_rep (W:=w) (S:=nT) hk)) (by kernel_rfl)) ?_)))))
  refine sBf U (by rw [hb1]) ?_
  refine sK (wO U U U U U) U (sK (wO U U U U U) U (sK (wO U U U U U) U (sK (wO U U U U U) U (sK (wO U U U U U) U (sPF U U (sAb U (ln (kx ?_))))))))
  exact qr (v:=.bool _) U U ⟨_,U,vb ((decide_eq_false (fun e=>by rw [e,beqHeader_iff.2 U] at hb1;cases hb1)).symm),H.under⟩
 ·skip
  refine kr (sFa U tf28_0 (sR (dM (g:=ga) (off:=0) U H (sub_b_hdr hh) (len_hdr hh) U U U ta26 ts26) (sFa U tf28_0 (sR (dM (g:=gb) (off:=0) U H (sub_b_hdr hk) (len_hdr hk) U U U ta26 ts26) (sR (d_eqst (r:=beqHeader a.header b.header) U U U (eq_Header (d:=9997) (hdr_rep (W:=w) (S:=nT) hh) (hdr_rep (W:=w) (S:=nT) hk)) (by kernel_rfl)) ?_)))))
  refine sBt U (by rw [hb1]) ?_
  refine sr (w_g U U U U) U (dF U U tf28_1) (sr (w_g U U U U) U (dX (g:=ga) (off:=65) U H (sub_b_txs hh) U U ta22) (sr (w_g U U U U) U (dF U U tf28_1) (sr (w_g U U U U) U (dX (g:=gb) (off:=65) U H (sub_b_txs hk) U U ta22) (sf (e_call (w_g U U U U) U U Tryz.func39 U U U (sameTxs _ (keeps_L keeps_Tx _ _ _ _ _ hl (fun g hg _=>H.fr.block g hg (fun h=>h))) (keeps_L keeps_Tx _ _ _ _ _ hr (fun g hg _=>H.fr.block g hg (fun h=>h)))) ?_)))))
  rintro _ W ⟨rfl,hb⟩
  replace H:=H.below hb
  clear hb
  refine sPT U U (sAb U (ln (kx ?_)))
  exact qr (v:=.bool _) U U ⟨_,U,vb (by
   have h1:=beqHeader_iff.1 hb1
   cases a;cases b
   simp_all),H.under⟩
end Go.Proofs.YtfhhfhdnhadooaaGreatDoor
