import Derived.Test.YtfhhfhdnhadooaaGreatDoorMV
import Derived.Test.YtfhhfhdnhadooaaGreatDoorMT
set_option linter.unusedVariables false
set_option linter.unusedSimpArgs false
set_option maxHeartbeats 4000000

namespace Go.Proofs.YtfhhfhdnhadooaaGreatDoor
open Go Go.RowKit
attribute [local irreducible] wpList

theorem refLeft {r c:Nat} {A:Option Addr} {cur:List UInt8} {s:RS} (w:World) (hR:(RefR 145 r A c cur s).p w) (hok:Pk.Ok s) (hl:cur.length<=1000000000000):Calls Tryz.prog 129 [.pointer (some ⟨r,0,none⟩)].toArray w (Ret (Is w (.int .i64 (s.1.length:Int)))):=by
 obtain ⟨a,h1,ha,hs1⟩:=hR
 have hG:=gat_of h1
 obtain ⟨ho1,ho2,ho3⟩:=hok
 refine kE (l:=[_]) Tryz.func129 U U ?_
 have H:=St.start nT w
 refine kR (sAi U (ln (kQ (kR (sMp U (sR (d_nil U U) (sFa U tf145_2 (sR (d_ldG U (H.gat hG) U ta42 U) (sNe U U (ln (kC U (fun hc7=>?_) (fun hc7=>?_))))))))))))
 ·have he:s.2≠0:=by simpa using hc7
  refine kR (sAi U (ln (kx ?_)))
  exact qr (v:=.int _ _) U U ⟨_,U,vi (by rw [ho1 he];rfl),H.under⟩
 ·have he:s.2=0:=by simpa using hc7
  rw [if_pos he] at hs1
  have hln:s.1.length=cur.length - a:=by rw [hs1,List.length_drop]
  refine kS (kQ (k_draw [(0,true),(1,true),(2,true),(3,true),(4,true),(5,true),(6,true),(7,true),(8,true),(9,true),(10,true)] _ (by kernel_rfl) (by kernel_rfl) H (.refl _) ?_))
  clear H;intro W H
  refine cMp U U (cR U (fun W H=>d_nil U U) (cFa U U tf145_0 (cR U (fun W H=>d_ldG U (H.gat hG) U ta41 U) (cR U (fun W H=>d_len U U tu41) (cMp U U (cR U (fun W H=>d_nil U U) (cFa U U tf145_1 (cR U (fun W H=>d_ldG U (H.gat hG) U ta3 U) (cR U (fun W H=>d_sub U U U (by omega)) (cAi U U (c_nil (kx ?_))))))))))))
  exact qr (v:=.int _ _) U U ⟨_,U,vi (by omega),H.under⟩

def Pk.rEnd (s:RS):Int:=if 0<s.1.length then 5 else s.2
theorem refEnd {r c:Nat} {A:Option Addr} {cur:List UInt8} {s:RS} (w:World) (hR:(RefR 145 r A c cur s).p w) (hok:Pk.Ok s) (hl:cur.length<=1000000000000):Calls Tryz.prog 71 [.pointer (some ⟨r,0,none⟩)].toArray w (Ret (Is w (.int .i64 (Pk.rEnd s)))):=by
 have hR0:=hR
 obtain ⟨a,h1,ha,hs1⟩:=hR
 have hG:=gat_of h1
 refine kE (l:=[_]) Tryz.func71 U U ?_
 have H:=St.start nT w
 refine kR (sAi U (ln (kQ (kR (sMp U (sf (eI Tryz.func129 U U (refLeft _ hR0 hok hl) H ?_)))))))
 clear H;intro W H
 refine sR (d_gt U U U) (ln (kC U (fun hc5=>?_) (fun hc5=>?_)))
 ·first|(replace hc5:=of_decide_eq_true hc5)|simp at hc5
  refine kR (sAi U (ln (kx ?_)))
  exact qr (v:=.int _ _) U U ⟨_,U,vi (by rw [Pk.rEnd,if_pos (by omega)]),H.under⟩
 ·first|(replace hc5:=of_decide_eq_false hc5)|simp at hc5
  refine kS (kR (sMp U (sR (d_nil U U) (sFa U tf145_2 (sR (d_ldG U (H.gat hG) U ta42 U) (sAi U (ln (kx ?_))))))))
  exact qr (v:=.int _ _) U U ⟨_,U,vi (by rw [Pk.rEnd,if_neg (by omega)]),H.under⟩

theorem refNextA {r c:Nat} {A:Option Addr} {cur:List UInt8} {s:RS} (w:World) {n:Nat} {z:Int} (hz:z=(n:Int)) (hn:n<=9223372036854775807)  (hR:(RefR 145 r A c cur s).p w) (hok:Pk.Ok s) (he:s.2≠0):Calls Tryz.prog 128 [.pointer (some ⟨r,0,none⟩),.int .i64 z].toArray w (Ret (NextP 5 145 r A c cur w (Pk.next n s).1 (Pk.next n s).2)):=by
 subst hz
 obtain ⟨a,h1,ha,hs1⟩:=hR
 have hG:=gat_of h1
 obtain ⟨ho1,ho2,ho3⟩:=hok
 refine kE (l:=[_,_]) Tryz.func128 U U ?_
 have H:=St.begin (f:=Fact.blk r [.slice A cur.length c,.int .i64 (a:Int),.int .i64 s.2] 145) h1 (fun g hg=>by cases hg;exact hG.1)
 refine kR (sAs U (ln (kQ (kR (sMp U (sR (d_nil U U) (sFa U tf145_2 (sR (d_ld U H U ta42 U) (sEq U U (sBf U (by simpa using he) ?_))))))))))
 refine sK (wO U U U U U) U (sK (wO U U U U U) U (sK (wO U U U U U) U (sK (wO U U U U U) U (sPF U U (ln (kF U (by first|(simp;done)|(simp;omega)) ?_))))))
 refine kS (kQ (kR (sMp U (sR (d_nil U U) (sFa U tf145_2 (sR (d_ld U H U ta42 U) (sNe U U (ln (kT U (by simpa using he) ?_)))))))))
 refine kR (sAs U (ln (kx ?_)))
 replace H:=H.nilrow 5 1
 rw [Pk.next_bad he]
 exact qr (v:=.slice _ _ _) U U ⟨_,U,H.nextP (s':=s) U U (Nat.le_refl _) (by omega) U ha U hs1⟩

theorem refNextB {r c:Nat} {A:Option Addr} {cur:List UInt8} {s:RS} (w:World) {n:Nat} {z:Int} (hz:z=(n:Int)) (hn:n<=9223372036854775807)  (hR:(RefR 145 r A c cur s).p w) (hok:Pk.Ok s) (hl:cur.length<=1000000000000) (he:s.2=0) (hsh:s.1.length<n):Calls Tryz.prog 128 [.pointer (some ⟨r,0,none⟩),.int .i64 z].toArray w (Ret (NextP 5 145 r A c cur w (Pk.next n s).1 (Pk.next n s).2)):=by
 subst hz
 have hok0:=hok
 obtain ⟨a,h1,ha,hs1⟩:=hR
 have hG:=gat_of h1
 obtain ⟨ho1,ho2,ho3⟩:=hok
 refine kE (l:=[_,_]) Tryz.func128 U U ?_
 have H:=St.begin (f:=Fact.blk r [.slice A cur.length c,.int .i64 (a:Int),.int .i64 s.2] 145) h1 (fun g hg=>by cases hg;exact hG.1)
 refine kR (sAs U (ln (kQ (kR (sMp U (sR (d_nil U U) (sFa U tf145_2 (sR (d_ld U H U ta42 U) (sEq U U (sBt U (by simpa using he) ?_))))))))))
 refine sr (w_g U U U U) U (mv_p U U) (sf (e_call (w_g U U U U) U U Tryz.func129 U U U (refLeft _ ⟨a,H.blk,ha,hs1⟩ hok0 hl) ?_))
 rintro _ W ⟨rfl,hb⟩
 replace H:=H.below hb
 clear hb
 refine sr (w_g U U U U) U (mv_i U U) (sr (w_g U U U U) U (d_lt U U U) (sPT U U (ln (kT U (by simp;omega) (kr (sMp U (sR (d_nil U U) (sFa U tf145_2 ?_))))))))
 refine sf (e_sto (wn U) U U U U U ts42 U H U ?_)
 clear H;intro W H
 refine ln (kQ (kR (sMp U (sR (d_nil U U) (sFa U tf145_2 (sR (d_ld U H U ta42 U) (sNe U U (ln (kT U (by first|(simp;done)|(simp;omega)) ?_)))))))))
 refine kR (sAs U (ln (kx ?_)))
 replace H:=H.nilrow 5 1
 rw [Pk.next_short he hsh]
 exact qr (v:=.slice _ _ _) U U ⟨_,U,H.nextP (s':=([],4)) U U (Nat.le_refl _) (by omega) U ha U U⟩

theorem refNextC {S:Nat->Prop} {r c:Nat} {A:Option Addr} {cur:List UInt8} {s:RS} (w:World) {n:Nat} {z:Int} (hz:z=(n:Int)) (hn:n<=9223372036854775807)  (hR:(RefR 145 r A c cur s).p w) (hok:Pk.Ok s) (hB:Bs w S (.slice A cur.length c) cur) (hS:∀g,S g->¬g=r) (hl:cur.length<=1000000000000) (he:s.2=0) (hsh:n<=s.1.length):Calls Tryz.prog 128 [.pointer (some ⟨r,0,none⟩),.int .i64 z].toArray w (Ret (NextP 5 145 r A c cur w (Pk.next n s).1 (Pk.next n s).2)):=by
 subst hz
 have hok0:=hok
 obtain ⟨a,h1,ha,hs1⟩:=hR
 have hG:=gat_of h1
 obtain ⟨ho1,ho2,ho3⟩:=hok
 obtain ⟨_,_,hv,hcc,_,_⟩:=hB.op
 cases hv
 have hs2:=hs1
 rw [if_pos he] at hs2
 have hln:s.1.length=cur.length - a:=by rw [hs2,List.length_drop]
 refine kE (l:=[_,_]) Tryz.func128 U U ?_
 have H:=St.begin (f:=Fact.blk r [.slice A cur.length c,.int .i64 (a:Int),.int .i64 s.2] 145) h1 (fun g hg=>by cases hg;exact hG.1)
 refine kR (sAs U (ln (kQ (kR (sMp U (sR (d_nil U U) (sFa U tf145_2 (sR (d_ld U H U ta42 U) (sEq U U (sBt U (by simpa using he) ?_))))))))))
 refine sr (w_g U U U U) U (mv_p U U) (sf (e_call (w_g U U U U) U U Tryz.func129 U U U (refLeft _ ⟨a,H.blk,ha,hs1⟩ hok0 hl) ?_))
 rintro _ W ⟨rfl,hb⟩
 replace H:=H.below hb
 clear hb
 refine sr (w_g U U U U) U (mv_i U U) (sr (w_g U U U U) U (d_lt U U U) (sPT U U (ln (kF U (by simp;omega) (kS (kQ (kR (sMp U (sR (d_nil U U) (sFa U tf145_2 (sR (d_ld U H U ta42 U) (sNe U U ?_))))))))))))
 refine ln (kF U (by simpa using he) ?_)
 refine kS (kR (sMp U (sMp U (sR (d_nil U U) (sFa U tf145_1 (sR (d_ld U H U ta3 U) (sMi U (sAd U U (by omega) (sR (d_nil U U) (sFa U tf145_1 ?_))))))))))
 refine sf (e_sto (wn U) U U U U U ts3 U H U ?_)
 clear H;intro W H
 refine ln (kQ (k_draw [(0,true),(1,true),(2,true),(3,true),(4,true),(5,true),(6,true),(7,true),(8,true),(9,true),(10,true),(11,true),(12,true),(13,true),(14,true),(15,false),(16,true)] _ (by kernel_rfl) (by kernel_rfl) H (.refl _) ?_))
 clear H;intro W H
 refine cMp U U (cR U (fun W H=>d_nil U U) (cFa U U tf145_0 (cR U (fun W H=>d_ld U H U ta41 U) (cMp U U (cR U (fun W H=>d_nil U U) (cFa U U tf145_1 (cR U (fun W H=>d_ld U H U ta3 U) (cMi U U (cR U (fun W H=>d_sub U U U (by omega)) (cMp U U (cR U (fun W H=>d_nil U U) (cFa U U tf145_1 ?_))))))))))))
 refine cR U (fun W H=>d_ld U H U ta3 U) (cR U (fun W H=>d_cut U U U (l:=a) (by omega) (h:=a+n) (by omega) (by omega) (by omega) U tu41 ts5) (cf U (eN Tryz.func13 U U (copyBytes _ ((cur.drop a).take (a+n - a)) _ (bs_cut (H.bsT hB hS) U (by omega) (by omega)) (by simp;omega)) H ?_)))
 clear H;intro A1 c1 W hc1 hd1 H
 refine ⟨H.sb,?_⟩
 refine cAs U U (c_nil (kx ?_))
 rw [Pk.next_ok he hsh]
 have el:((cur.drop a).take (a+n - a))=s.1.take n:=by rw [hs2,Nat.add_sub_cancel_left]
 rw [el] at H hc1 ⊢
 exact qr (v:=.slice _ _ _) U U ⟨_,U,H.nextP (q:=a+n) (s':=(s.1.drop n,0)) U U hc1 hd1 (by omega) (by omega) he.symm (by rw [he,if_pos U,hs2,List.drop_drop])⟩

theorem refNext {S:Nat->Prop} {r c:Nat} {A:Option Addr} {cur:List UInt8} {s:RS} (w:World) {n:Nat} {z:Int} (hz:z=(n:Int)) (hn:n<=9223372036854775807) (hR:(RefR 145 r A c cur s).p w) (hok:Pk.Ok s) (hB:Bs w S (.slice A cur.length c) cur) (hS:∀g,S g->¬g=r) (hl:cur.length<=1000000000000):Calls Tryz.prog 128 [.pointer (some ⟨r,0,none⟩),.int .i64 z].toArray w (Ret (NextP 5 145 r A c cur w (Pk.next n s).1 (Pk.next n s).2)):=by
 by_cases he:s.2=0
 ·rcases Nat.lt_or_ge s.1.length n with h|h
  ·exact refNextB w hz hn hR hok hl he h
  ·exact refNextC w hz hn hR hok hB hS hl he h
 ·exact refNextA w hz hn hR hok he

theorem refNextE {S:Nat->Prop} {r c:Nat} {A:Option Addr} {cur:List UInt8} {s:RS} (w:World) {n:Nat} {z:Int} {b:List UInt8} {s':RS} (hx:Pk.next n s=(b,s')) (hz:z=(n:Int)) (hn:n<=9223372036854775807) (hR:(RefR 145 r A c cur s).p w) (hok:Pk.Ok s) (hB:Bs w S (.slice A cur.length c) cur) (hS:∀g,S g->¬g=r) (hl:cur.length<=1000000000000):Calls Tryz.prog 128 [.pointer (some ⟨r,0,none⟩),.int .i64 z].toArray w (Ret (NextP 5 145 r A c cur w b s')):=by
 have h:=refNext w hz hn hR hok hB hS hl
 rw [hx] at h
 exact h

theorem refRdIntA {S:Nat->Prop} {r c:Nat} {A:Option Addr} {cur:List UInt8} {s:RS} (w:World) {s1:RS} (hR:(RefR 145 r A c cur s).p w) (hok:Pk.Ok s) (hB:Bs w S (.slice A cur.length c) cur) (hS:∀g,S g->¬g=r) (hl:cur.length<=1000000000000) (h1:Pk.next 1 s=([],s1)):Calls Tryz.prog 68 [.pointer (some ⟨r,0,none⟩)].toArray w (Ret (ValP 145 r A c cur w (.int .i64 ((Pk.rInt s).1:Int)) (Pk.rInt s).2)):=by
 refine kE (l:=[_]) Tryz.func68 U U ?_
 have H:=St.begin (f:=RefR 145 r A c cur s) hR (fun g hg=>by cases hg;exact refR_lt hR)
 refine kR (sAi U (lkR (sMp U (sf (ecl Tryz.func128 U U (refNextE _ h1 (by rfl) (by omega) (H.get (f:=RefR 145 r A c cur s)) hok (H.bsT hB hS) hS hl) ?_)))))
 rintro _ W ⟨⟨A1,c1,rfl,hc1,hd1,ho1,hf1,hfr1⟩,hr1⟩
 replace H:=H.mutnew (f:=RefR 145 r A c cur s) (f':=RefR 145 r A c cur s1) (fn:=Fact.row 5 1 (.slice A1 0 c1) 0 _) hfr1 hr1 (fun _ h=>h) ho1 hf1
 clear hfr1 hr1 ho1 hf1
 refine sAs U (ln (kQ (kR (sMs U (sLn U tu41 (sEq U U (ln (kT U (by first|(simp;done)|(simp;omega)) ?_))))))))
 refine kR (sAi U (ln (kx ?_)))
 have e:Pk.rInt s=(0,s1):=by unfold Pk.rInt;rw [h1]
 rw [e]
 exact qr (v:=.int _ _) U U ⟨_,U,H.valP'⟩

theorem refRdIntC {S:Nat->Prop} {r c:Nat} {A:Option Addr} {cur:List UInt8} {s:RS} (w:World) {s1:RS} {b0:UInt8} (hR:(RefR 145 r A c cur s).p w) (hok:Pk.Ok s) (hB:Bs w S (.slice A cur.length c) cur) (hS:∀g,S g->¬g=r) (hl:cur.length<=1000000000000) (h1:Pk.next 1 s=([b0],s1)) (hw:Pk.wide b0=0):Calls Tryz.prog 68 [.pointer (some ⟨r,0,none⟩)].toArray w (Ret (ValP 145 r A c cur w (.int .i64 ((Pk.rInt s).1:Int)) (Pk.rInt s).2)):=by
 refine kE (l:=[_]) Tryz.func68 U U ?_
 have H:=St.begin (f:=RefR 145 r A c cur s) hR (fun g hg=>by cases hg;exact refR_lt hR)
 refine kR (sAi U (lkR (sMp U (sf (ecl Tryz.func128 U U (refNextE _ h1 (by rfl) (by omega) (H.get (f:=RefR 145 r A c cur s)) hok (H.bsT hB hS) hS hl) ?_)))))
 rintro _ W ⟨⟨A1,c1,rfl,hc1,hd1,ho1,hf1,hfr1⟩,hr1⟩
 replace H:=H.mutnew (f:=RefR 145 r A c cur s) (f':=RefR 145 r A c cur s1) (fn:=Fact.row 5 1 (.slice A1 1 c1) 1 _) hfr1 hr1 (fun _ h=>h) ho1 hf1
 clear hfr1 hr1 ho1 hf1
 refine sAs U (ln (kQ (kR (sMs U (sLn U tu41 (sEq U U (ln (kF U (by first|(simp;done)|(simp;omega)) ?_))))))))
 refine kS (kR (sAi U (ln (kQ (kR (sMs U (sR (d_iaB U (H.rowrd (A:=A1)) U U (q:=0) U (by decide) tu41 ts5) (sR (d_ldB U (H.rowrd (A:=A1)) ((U:[b0][0]?=some b0)) U ta5) (ln (k_bcut 16 [4] (fun sl W=>sl=[(4,.int .i64 (Pk.wide b0:Int))]∧St (·=r) w W [Fact.row 5 1 (.slice A1 1 c1) 1 ([b0].map u8v),RefR 145 r A c cur s1]) ?_ (fun sl ρv W hJ=>?_)))))))))))
 ·skip
  refine kR (sEq U U (sAb U (ln (kC U (fun hc16=>?_) (fun hc16=>?_)))))
  ·skip
   refine kr (sAi U (ln (kn (b_endc ?_))))
   refine ⟨_,_,U,?_,?_,⟨U,H⟩⟩
   ·with_reducible repeat first|exact .refl|refine .f ?_ ?_ ?_;kernel_rfl;kernel_rfl|refine .u ?_ ?_;kernel_rfl
   ·refine ⟨?_,trivial⟩
    ·exact vi (by rw [Pk.wide_253 hc16];rfl)
  ·skip
   refine kR (sEq U U (sAb U (ln (kC U (fun hc18=>?_) (fun hc18=>?_)))))
   ·skip
    refine kr (sAi U (ln (kn (b_endc ?_))))
    refine ⟨_,_,U,?_,?_,⟨U,H⟩⟩
    ·with_reducible repeat first|exact .refl|refine .f ?_ ?_ ?_;kernel_rfl;kernel_rfl|refine .u ?_ ?_;kernel_rfl
    ·refine ⟨?_,trivial⟩
     ·exact vi (by rw [Pk.wide_254 hc18];rfl)
   ·skip
    refine kR (sEq U U (sAb U (ln (kC U (fun hc20=>?_) (fun hc20=>?_)))))
    ·skip
     refine kr (sAi U (ln (kn (b_endc ?_))))
     refine ⟨_,_,U,?_,?_,⟨U,H⟩⟩
     ·with_reducible repeat first|exact .refl|refine .f ?_ ?_ ?_;kernel_rfl;kernel_rfl|refine .u ?_ ?_;kernel_rfl
     ·refine ⟨?_,trivial⟩
      ·exact vi (by rw [Pk.wide_255 hc20];rfl)
    ·skip
     refine kS (kn (b_endc ?_))
     refine ⟨_,_,U,?_,?_,⟨U,H⟩⟩
     ·with_reducible repeat first|exact .refl|refine .f ?_ ?_ ?_;kernel_rfl;kernel_rfl|refine .u ?_ ?_;kernel_rfl
     ·refine ⟨?_,trivial⟩
      ·exact vi (by rw [Pk.wide_0 hc16 hc18 hc20];rfl)
 clear H;obtain ⟨rfl,H⟩:=hJ
 refine kQ (kR (sMi U (sEq U U (ln (kT U (by simp [hw]) ?_)))))
 refine kR (sMs U (sR (d_iaB U (H.rowrd (A:=A1)) U U (q:=0) U (by decide) tu41 ts5) (sR (d_ldB U (H.rowrd (A:=A1)) ((U:[b0][0]?=some b0)) U ta5) (sR (d_conv U U (by rw [tu5];rfl) tu3 (IntWalk.i64_in _ (by have:=b0.toNat_lt;omega))) ?_))))
 refine sAi U (ln (kx ?_))
 have e:Pk.rInt s=(b0.toNat,s1):=by unfold Pk.rInt;rw [h1];simp only [hw,if_true]
 rw [e]
 exact qr (v:=.int _ _) U U ⟨_,U,H.valP'⟩

theorem refRdIntD {S:Nat->Prop} {r c:Nat} {A:Option Addr} {cur:List UInt8} {s:RS} (w:World) {s1 s2:RS} {b0:UInt8} {b:List UInt8} (hR:(RefR 145 r A c cur s).p w) (hok:Pk.Ok s) (hB:Bs w S (.slice A cur.length c) cur) (hS:∀g,S g->¬g=r) (hl:cur.length<=1000000000000) (h1:Pk.next 1 s=([b0],s1)) (hw:Pk.wide b0≠0) (h2:Pk.next (Pk.wide b0) s1=(b,s2)) (he:s2.2≠0) (hbl:b.length=0):Calls Tryz.prog 68 [.pointer (some ⟨r,0,none⟩)].toArray w (Ret (ValP 145 r A c cur w (.int .i64 ((Pk.rInt s).1:Int)) (Pk.rInt s).2)):=by
 refine kE (l:=[_]) Tryz.func68 U U ?_
 have H:=St.begin (f:=RefR 145 r A c cur s) hR (fun g hg=>by cases hg;exact refR_lt hR)
 refine kR (sAi U (lkR (sMp U (sf (ecl Tryz.func128 U U (refNextE _ h1 (by rfl) (by omega) (H.get (f:=RefR 145 r A c cur s)) hok (H.bsT hB hS) hS hl) ?_)))))
 rintro _ W ⟨⟨A1,c1,rfl,hc1,hd1,ho1,hf1,hfr1⟩,hr1⟩
 replace H:=H.mutnew (f:=RefR 145 r A c cur s) (f':=RefR 145 r A c cur s1) (fn:=Fact.row 5 1 (.slice A1 1 c1) 1 _) hfr1 hr1 (fun _ h=>h) ho1 hf1
 clear hfr1 hr1 ho1 hf1
 refine sAs U (ln (kQ (kR (sMs U (sLn U tu41 (sEq U U (ln (kF U (by first|(simp;done)|(simp;omega)) ?_))))))))
 refine kS (kR (sAi U (ln (kQ (kR (sMs U (sR (d_iaB U (H.rowrd (A:=A1)) U U (q:=0) U (by decide) tu41 ts5) (sR (d_ldB U (H.rowrd (A:=A1)) ((U:[b0][0]?=some b0)) U ta5) (ln (k_bcut 16 [4] (fun sl W=>sl=[(4,.int .i64 (Pk.wide b0:Int))]∧St (·=r) w W [Fact.row 5 1 (.slice A1 1 c1) 1 ([b0].map u8v),RefR 145 r A c cur s1]) ?_ (fun sl ρv W hJ=>?_)))))))))))
 ·skip
  refine kR (sEq U U (sAb U (ln (kC U (fun hc16=>?_) (fun hc16=>?_)))))
  ·skip
   refine kr (sAi U (ln (kn (b_endc ?_))))
   refine ⟨_,_,U,?_,?_,⟨U,H⟩⟩
   ·with_reducible repeat first|exact .refl|refine .f ?_ ?_ ?_;kernel_rfl;kernel_rfl|refine .u ?_ ?_;kernel_rfl
   ·refine ⟨?_,trivial⟩
    ·exact vi (by rw [Pk.wide_253 hc16];rfl)
  ·skip
   refine kR (sEq U U (sAb U (ln (kC U (fun hc18=>?_) (fun hc18=>?_)))))
   ·skip
    refine kr (sAi U (ln (kn (b_endc ?_))))
    refine ⟨_,_,U,?_,?_,⟨U,H⟩⟩
    ·with_reducible repeat first|exact .refl|refine .f ?_ ?_ ?_;kernel_rfl;kernel_rfl|refine .u ?_ ?_;kernel_rfl
    ·refine ⟨?_,trivial⟩
     ·exact vi (by rw [Pk.wide_254 hc18];rfl)
   ·skip
    refine kR (sEq U U (sAb U (ln (kC U (fun hc20=>?_) (fun hc20=>?_)))))
    ·skip
     refine kr (sAi U (ln (kn (b_endc ?_))))
     refine ⟨_,_,U,?_,?_,⟨U,H⟩⟩
     ·with_reducible repeat first|exact .refl|refine .f ?_ ?_ ?_;kernel_rfl;kernel_rfl|refine .u ?_ ?_;kernel_rfl
     ·refine ⟨?_,trivial⟩
      ·exact vi (by rw [Pk.wide_255 hc20];rfl)
    ·skip
     refine kS (kn (b_endc ?_))
     refine ⟨_,_,U,?_,?_,⟨U,H⟩⟩
     ·with_reducible repeat first|exact .refl|refine .f ?_ ?_ ?_;kernel_rfl;kernel_rfl|refine .u ?_ ?_;kernel_rfl
     ·refine ⟨?_,trivial⟩
      ·exact vi (by rw [Pk.wide_0 hc16 hc18 hc20];rfl)
 clear H;obtain ⟨rfl,H⟩:=hJ
 refine kQ (kR (sMi U (sEq U U (ln (kF U (by simp [hw]) ?_)))))
 refine kS (kQ ?_)
 have hok1:=Pk.ok_next (n:=1) hok
 rw [h1] at hok1
 have hw8:Pk.wide b0<=8:=by rcases Pk.wide_of (c:=b0) with h|h|h|h <;> omega
 refine kr (sMp U (sMi U (sf (ecl Tryz.func128 U U (refNextE _ h2 (by rfl) (by omega) (H.get (f:=RefR 145 r A c cur s1)) hok1 (H.bsT hB hS) hS hl) ?_))))
 rintro _ W ⟨⟨A2,c2,rfl,hc2,hd2,ho2,hf2,hfr2⟩,hr2⟩
 replace H:=H.mutnew (f:=RefR 145 r A c cur s1) (f':=RefR 145 r A c cur s2) (fn:=Fact.row 5 1 (.slice A2 b.length c2) b.length _) hfr2 hr2 (fun _ h=>h) ho2 hf2
 clear hfr2 hr2 ho2 hf2
 refine sAs U (lkR (sAi U (ln (kQ (kR (sMs U (sLn U tu41 (sR (d_sub U U U (by omega)) (sAi U (ln (kb (kL 34 [6,7] (fun mm sl W=>∃k:Nat,k=mm∧sl=[(7,.int .i64 ((k:Int) - 1)),(6,.int .u64 (Pk.ofLe (b.drop k):Int))]∧(k<=b.length)∧St (·=r) w W [Fact.row 5 1 (.slice A2 b.length c2) b.length (b.map u8v),Fact.row 5 1 (.slice A1 1 c1) 1 ([b0].map u8v),RefR 145 r A c cur s2]) _ _ ⟨b.length,U,U,Nat.le_refl _,H⟩ ⟨U,vi (by rw [Pk.ofLe_nil (Nat.le_refl _)];rfl),trivial⟩ (fun mm sl ρv W hJ=>?_)))))))))))))
 clear H;obtain ⟨k,rfl,rfl,hk,H⟩:=hJ
 refine ko (kQ (kR (sMi U (sR (d_ge U U U) (ln (kC U (fun hc35=>?_) (fun hc35=>?_)))))))
 ·first|(replace hc35:=of_decide_eq_true hc35)|simp at hc35
  refine kS (kQ (kb ?_))
  have hst:=Pk.ofLe_step (b:=b) (k:=k) (by omega) hk (by omega)
  refine kr (sMi U (sR (d_mulW U U U hst.1) (sMs U (sMi U (sR (d_iaB U (H.rowrd (A:=A2)) U U (q:=k - 1) (by omega) (by omega) tu41 ts5) (sR (d_ldB U (H.rowrd (A:=A2)) ((l_get (by omega))) U ta5) (sR (d_conv U U (by rw [tu5];rfl) tu104 (IntWalk.u64_in _ (by have:=(b.getD (k - 1) 0).toNat_lt;omega))) ?_)))))))
  refine sR (d_addW U U U hst.2) (sAi U (ln (kn (zE (kr (sMi U (sR (d_sub U U U (by omega)) (sAi U (ln (kn (kY ?_)))))))))))
  refine ⟨_,_,_,?_,U,?_,?_,⟨k - 1,U,U,by omega,H⟩⟩
  ·omega
  ·with_reducible repeat first|exact .refl|refine .f ?_ ?_ ?_;kernel_rfl;kernel_rfl|refine .u ?_ ?_;kernel_rfl
  ·refine ⟨?_,?_,trivial⟩
   ·exact vi (by omega)
   ·exact U
 ·first|(replace hc35:=of_decide_eq_false hc35)|simp at hc35
  refine ke (xt (xt ?_))
  refine xH (kQ (kQ ?_))
  obtain rfl:k=0:=by omega
  rw [List.drop_zero]
  obtain ⟨a,hbk,ha,hsa⟩:=H.get (f:=RefR 145 r A c cur s2)
  replace H:=H.turn (f:=RefR 145 r A c cur s2) (f':=Fact.blk r [.slice A cur.length c,.int .i64 (a:Int),.int .i64 s2.2] 145) Fr.refl hbk (fun g h=>.inl h)
  clear hbk
  refine kr (sMp U (sR (d_nil U U) (sFa U tf145_2 (sR (d_ld U H U ta42 U) (sEq U U (sBf U (by simpa using he) ?_))))))
  refine sK (wO U U U U U) U (sK (wO U U U U U) U (sPF U U (ln (kF U (by first|(simp;done)|(simp;omega)) ?_))))
  refine kS (kQ (kR (sMp U (sR (d_nil U U) (sFa U tf145_2 (sR (d_ld U H U ta42 U) (sEq U U (sBf U (by simpa using he) ?_))))))))
  refine sK (wO U U U U U) U (sK (wO U U U U U) U (sK (wO U U U U U) U (sK (wO U U U U U) U (sK (wO U U U U U) U (sK (wO U U U U U) U (sK (wO U U U U U) U (sPF U U (ln (kF U (by first|(simp;done)|(simp;omega)) ?_)))))))))
  refine kS (kQ (kR (sMp U (sR (d_nil U U) (sFa U tf145_2 (sR (d_ld U H U ta42 U) (sNe U U (ln (kT U (by simpa using he) ?_)))))))))
  refine kR (sAi U (ln (kx ?_)))
  have e:Pk.rInt s=(0,s2):=by unfold Pk.rInt;rw [h1];simp only [hw,if_false,h2,he,ne_eq,not_false_eq_true,if_true]
  rw [e]
  exact qr (v:=.int _ _) U U ⟨_,U,H.valP U ha U hsa⟩

theorem refRdIntE {S:Nat->Prop} {r c:Nat} {A:Option Addr} {cur:List UInt8} {s:RS} (w:World) {s1 s2:RS} {b0:UInt8} {b:List UInt8} (hR:(RefR 145 r A c cur s).p w) (hok:Pk.Ok s) (hB:Bs w S (.slice A cur.length c) cur) (hS:∀g,S g->¬g=r) (hl:cur.length<=1000000000000) (h1:Pk.next 1 s=([b0],s1)) (hw:Pk.wide b0≠0) (h2:Pk.next (Pk.wide b0) s1=(b,s2)) (he:s2.2=0) (hbl:b.length=Pk.wide b0) (hu:9223372036854775808<=Pk.ofLe b):Calls Tryz.prog 68 [.pointer (some ⟨r,0,none⟩)].toArray w (Ret (ValP 145 r A c cur w (.int .i64 ((Pk.rInt s).1:Int)) (Pk.rInt s).2)):=by
 refine kE (l:=[_]) Tryz.func68 U U ?_
 have H:=St.begin (f:=RefR 145 r A c cur s) hR (fun g hg=>by cases hg;exact refR_lt hR)
 refine kR (sAi U (lkR (sMp U (sf (ecl Tryz.func128 U U (refNextE _ h1 (by rfl) (by omega) (H.get (f:=RefR 145 r A c cur s)) hok (H.bsT hB hS) hS hl) ?_)))))
 rintro _ W ⟨⟨A1,c1,rfl,hc1,hd1,ho1,hf1,hfr1⟩,hr1⟩
 replace H:=H.mutnew (f:=RefR 145 r A c cur s) (f':=RefR 145 r A c cur s1) (fn:=Fact.row 5 1 (.slice A1 1 c1) 1 _) hfr1 hr1 (fun _ h=>h) ho1 hf1
 clear hfr1 hr1 ho1 hf1
 refine sAs U (ln (kQ (kR (sMs U (sLn U tu41 (sEq U U (ln (kF U (by first|(simp;done)|(simp;omega)) ?_))))))))
 refine kS (kR (sAi U (ln (kQ (kR (sMs U (sR (d_iaB U (H.rowrd (A:=A1)) U U (q:=0) U (by decide) tu41 ts5) (sR (d_ldB U (H.rowrd (A:=A1)) ((U:[b0][0]?=some b0)) U ta5) (ln (k_bcut 16 [4] (fun sl W=>sl=[(4,.int .i64 (Pk.wide b0:Int))]∧St (·=r) w W [Fact.row 5 1 (.slice A1 1 c1) 1 ([b0].map u8v),RefR 145 r A c cur s1]) ?_ (fun sl ρv W hJ=>?_)))))))))))
 ·skip
  refine kR (sEq U U (sAb U (ln (kC U (fun hc16=>?_) (fun hc16=>?_)))))
  ·skip
   refine kr (sAi U (ln (kn (b_endc ?_))))
   refine ⟨_,_,U,?_,?_,⟨U,H⟩⟩
   ·with_reducible repeat first|exact .refl|refine .f ?_ ?_ ?_;kernel_rfl;kernel_rfl|refine .u ?_ ?_;kernel_rfl
   ·refine ⟨?_,trivial⟩
    ·exact vi (by rw [Pk.wide_253 hc16];rfl)
  ·skip
   refine kR (sEq U U (sAb U (ln (kC U (fun hc18=>?_) (fun hc18=>?_)))))
   ·skip
    refine kr (sAi U (ln (kn (b_endc ?_))))
    refine ⟨_,_,U,?_,?_,⟨U,H⟩⟩
    ·with_reducible repeat first|exact .refl|refine .f ?_ ?_ ?_;kernel_rfl;kernel_rfl|refine .u ?_ ?_;kernel_rfl
    ·refine ⟨?_,trivial⟩
     ·exact vi (by rw [Pk.wide_254 hc18];rfl)
   ·skip
    refine kR (sEq U U (sAb U (ln (kC U (fun hc20=>?_) (fun hc20=>?_)))))
    ·skip
     refine kr (sAi U (ln (kn (b_endc ?_))))
     refine ⟨_,_,U,?_,?_,⟨U,H⟩⟩
     ·with_reducible repeat first|exact .refl|refine .f ?_ ?_ ?_;kernel_rfl;kernel_rfl|refine .u ?_ ?_;kernel_rfl
     ·refine ⟨?_,trivial⟩
      ·exact vi (by rw [Pk.wide_255 hc20];rfl)
    ·skip
     refine kS (kn (b_endc ?_))
     refine ⟨_,_,U,?_,?_,⟨U,H⟩⟩
     ·with_reducible repeat first|exact .refl|refine .f ?_ ?_ ?_;kernel_rfl;kernel_rfl|refine .u ?_ ?_;kernel_rfl
     ·refine ⟨?_,trivial⟩
      ·exact vi (by rw [Pk.wide_0 hc16 hc18 hc20];rfl)
 clear H;obtain ⟨rfl,H⟩:=hJ
 refine kQ (kR (sMi U (sEq U U (ln (kF U (by simp [hw]) ?_)))))
 refine kS (kQ ?_)
 have hok1:=Pk.ok_next (n:=1) hok
 rw [h1] at hok1
 have hw8:Pk.wide b0<=8:=by rcases Pk.wide_of (c:=b0) with h|h|h|h <;> omega
 refine kr (sMp U (sMi U (sf (ecl Tryz.func128 U U (refNextE _ h2 (by rfl) (by omega) (H.get (f:=RefR 145 r A c cur s1)) hok1 (H.bsT hB hS) hS hl) ?_))))
 rintro _ W ⟨⟨A2,c2,rfl,hc2,hd2,ho2,hf2,hfr2⟩,hr2⟩
 replace H:=H.mutnew (f:=RefR 145 r A c cur s1) (f':=RefR 145 r A c cur s2) (fn:=Fact.row 5 1 (.slice A2 b.length c2) b.length _) hfr2 hr2 (fun _ h=>h) ho2 hf2
 clear hfr2 hr2 ho2 hf2
 refine sAs U (lkR (sAi U (ln (kQ (kR (sMs U (sLn U tu41 (sR (d_sub U U U (by omega)) (sAi U (ln (kb (kL 34 [6,7] (fun mm sl W=>∃k:Nat,k=mm∧sl=[(7,.int .i64 ((k:Int) - 1)),(6,.int .u64 (Pk.ofLe (b.drop k):Int))]∧(k<=b.length)∧St (·=r) w W [Fact.row 5 1 (.slice A2 b.length c2) b.length (b.map u8v),Fact.row 5 1 (.slice A1 1 c1) 1 ([b0].map u8v),RefR 145 r A c cur s2]) _ _ ⟨b.length,U,U,Nat.le_refl _,H⟩ ⟨U,vi (by rw [Pk.ofLe_nil (Nat.le_refl _)];rfl),trivial⟩ (fun mm sl ρv W hJ=>?_)))))))))))))
 clear H;obtain ⟨k,rfl,rfl,hk,H⟩:=hJ
 refine ko (kQ (kR (sMi U (sR (d_ge U U U) (ln (kC U (fun hc35=>?_) (fun hc35=>?_)))))))
 ·first|(replace hc35:=of_decide_eq_true hc35)|simp at hc35
  refine kS (kQ (kb ?_))
  have hst:=Pk.ofLe_step (b:=b) (k:=k) (by omega) hk (by omega)
  refine kr (sMi U (sR (d_mulW U U U hst.1) (sMs U (sMi U (sR (d_iaB U (H.rowrd (A:=A2)) U U (q:=k - 1) (by omega) (by omega) tu41 ts5) (sR (d_ldB U (H.rowrd (A:=A2)) ((l_get (by omega))) U ta5) (sR (d_conv U U (by rw [tu5];rfl) tu104 (IntWalk.u64_in _ (by have:=(b.getD (k - 1) 0).toNat_lt;omega))) ?_)))))))
  refine sR (d_addW U U U hst.2) (sAi U (ln (kn (zE (kr (sMi U (sR (d_sub U U U (by omega)) (sAi U (ln (kn (kY ?_)))))))))))
  refine ⟨_,_,_,?_,U,?_,?_,⟨k - 1,U,U,by omega,H⟩⟩
  ·omega
  ·with_reducible repeat first|exact .refl|refine .f ?_ ?_ ?_;kernel_rfl;kernel_rfl|refine .u ?_ ?_;kernel_rfl
  ·refine ⟨?_,?_,trivial⟩
   ·exact vi (by omega)
   ·exact U
 ·first|(replace hc35:=of_decide_eq_false hc35)|simp at hc35
  refine ke (xt (xt ?_))
  refine xH (kQ (kQ ?_))
  obtain rfl:k=0:=by omega
  rw [List.drop_zero]
  obtain ⟨a,hbk,ha,hsa⟩:=H.get (f:=RefR 145 r A c cur s2)
  replace H:=H.turn (f:=RefR 145 r A c cur s2) (f':=Fact.blk r [.slice A cur.length c,.int .i64 (a:Int),.int .i64 s2.2] 145) Fr.refl hbk (fun g h=>.inl h)
  clear hbk
  refine kr (sMp U (sR (d_nil U U) (sFa U tf145_2 (sR (d_ld U H U ta42 U) (sEq U U (sBt U (by simpa using he) ?_))))))
  refine sr (w_g U U U U) U (mv_i U U) (sr (w_g U U U U) U (d_ge U U U) (sPT U U (ln (kT U (by first|(simp;done)|(simp;omega)) ?_))))
  refine kr (sMp U (sR (d_nil U U) (sFa U tf145_2 ?_)))
  refine sf (e_sto (wn U) U U U U U ts42 U H U ?_)
  clear H;intro W H
  refine ln (kQ (kR (sMp U (sR (d_nil U U) (sFa U tf145_2 (sR (d_ld U H U ta42 U) (sEq U U (sBf U (by decide) (sK (wO U U U U U) U (sK (wO U U U U U) U (sK (wO U U U U U) U (sK (wO U U U U U) U ?_))))))))))))
  refine sK (wO U U U U U) U (sK (wO U U U U U) U (sK (wO U U U U U) U (sPF U U (ln (kF U (by first|(simp;done)|(simp;omega)) ?_)))))
  refine kS (kQ (kR (sMp U (sR (d_nil U U) (sFa U tf145_2 (sR (d_ld U H U ta42 U) (sNe U U (ln (kT U (by decide) (kR (sAi U (ln ?_))))))))))))
  refine kx ?_
  have e:Pk.rInt s=(0,([],15)):=by unfold Pk.rInt;rw [h1];simp only [hw,if_false,h2,he,ne_eq,not_true_eq_false];unfold Pk.num;rw [if_pos hu]
  rw [e]
  exact qr (v:=.int _ _) U U ⟨_,U,H.valP (s':=([],15)) U ha U U⟩

theorem refRdIntF {S:Nat->Prop} {r c:Nat} {A:Option Addr} {cur:List UInt8} {s:RS} (w:World) {s1 s2:RS} {b0:UInt8} {b:List UInt8} (hR:(RefR 145 r A c cur s).p w) (hok:Pk.Ok s) (hB:Bs w S (.slice A cur.length c) cur) (hS:∀g,S g->¬g=r) (hl:cur.length<=1000000000000) (h1:Pk.next 1 s=([b0],s1)) (hw:Pk.wide b0≠0) (h2:Pk.next (Pk.wide b0) s1=(b,s2)) (he:s2.2=0) (hbl:b.length=Pk.wide b0) (hu:Pk.ofLe b<9223372036854775808) (hf:Pk.ofLe b<Pk.least b0):Calls Tryz.prog 68 [.pointer (some ⟨r,0,none⟩)].toArray w (Ret (ValP 145 r A c cur w (.int .i64 ((Pk.rInt s).1:Int)) (Pk.rInt s).2)):=by
 refine kE (l:=[_]) Tryz.func68 U U ?_
 have H:=St.begin (f:=RefR 145 r A c cur s) hR (fun g hg=>by cases hg;exact refR_lt hR)
 refine kR (sAi U (lkR (sMp U (sf (ecl Tryz.func128 U U (refNextE _ h1 (by rfl) (by omega) (H.get (f:=RefR 145 r A c cur s)) hok (H.bsT hB hS) hS hl) ?_)))))
 rintro _ W ⟨⟨A1,c1,rfl,hc1,hd1,ho1,hf1,hfr1⟩,hr1⟩
 replace H:=H.mutnew (f:=RefR 145 r A c cur s) (f':=RefR 145 r A c cur s1) (fn:=Fact.row 5 1 (.slice A1 1 c1) 1 _) hfr1 hr1 (fun _ h=>h) ho1 hf1
 clear hfr1 hr1 ho1 hf1
 refine sAs U (ln (kQ (kR (sMs U (sLn U tu41 (sEq U U (ln (kF U (by first|(simp;done)|(simp;omega)) ?_))))))))
 refine kS (kR (sAi U (ln (kQ (kR (sMs U (sR (d_iaB U (H.rowrd (A:=A1)) U U (q:=0) U (by decide) tu41 ts5) (sR (d_ldB U (H.rowrd (A:=A1)) ((U:[b0][0]?=some b0)) U ta5) (ln (k_bcut 16 [4] (fun sl W=>sl=[(4,.int .i64 (Pk.wide b0:Int))]∧St (·=r) w W [Fact.row 5 1 (.slice A1 1 c1) 1 ([b0].map u8v),RefR 145 r A c cur s1]) ?_ (fun sl ρv W hJ=>?_)))))))))))
 ·skip
  refine kR (sEq U U (sAb U (ln (kC U (fun hc16=>?_) (fun hc16=>?_)))))
  ·skip
   refine kr (sAi U (ln (kn (b_endc ?_))))
   refine ⟨_,_,U,?_,?_,⟨U,H⟩⟩
   ·with_reducible repeat first|exact .refl|refine .f ?_ ?_ ?_;kernel_rfl;kernel_rfl|refine .u ?_ ?_;kernel_rfl
   ·refine ⟨?_,trivial⟩
    ·exact vi (by rw [Pk.wide_253 hc16];rfl)
  ·skip
   refine kR (sEq U U (sAb U (ln (kC U (fun hc18=>?_) (fun hc18=>?_)))))
   ·skip
    refine kr (sAi U (ln (kn (b_endc ?_))))
    refine ⟨_,_,U,?_,?_,⟨U,H⟩⟩
    ·with_reducible repeat first|exact .refl|refine .f ?_ ?_ ?_;kernel_rfl;kernel_rfl|refine .u ?_ ?_;kernel_rfl
    ·refine ⟨?_,trivial⟩
     ·exact vi (by rw [Pk.wide_254 hc18];rfl)
   ·skip
    refine kR (sEq U U (sAb U (ln (kC U (fun hc20=>?_) (fun hc20=>?_)))))
    ·skip
     refine kr (sAi U (ln (kn (b_endc ?_))))
     refine ⟨_,_,U,?_,?_,⟨U,H⟩⟩
     ·with_reducible repeat first|exact .refl|refine .f ?_ ?_ ?_;kernel_rfl;kernel_rfl|refine .u ?_ ?_;kernel_rfl
     ·refine ⟨?_,trivial⟩
      ·exact vi (by rw [Pk.wide_255 hc20];rfl)
    ·skip
     refine kS (kn (b_endc ?_))
     refine ⟨_,_,U,?_,?_,⟨U,H⟩⟩
     ·with_reducible repeat first|exact .refl|refine .f ?_ ?_ ?_;kernel_rfl;kernel_rfl|refine .u ?_ ?_;kernel_rfl
     ·refine ⟨?_,trivial⟩
      ·exact vi (by rw [Pk.wide_0 hc16 hc18 hc20];rfl)
 clear H;obtain ⟨rfl,H⟩:=hJ
 refine kQ (kR (sMi U (sEq U U (ln (kF U (by simp [hw]) ?_)))))
 refine kS (kQ ?_)
 have hok1:=Pk.ok_next (n:=1) hok
 rw [h1] at hok1
 have hw8:Pk.wide b0<=8:=by rcases Pk.wide_of (c:=b0) with h|h|h|h <;> omega
 refine kr (sMp U (sMi U (sf (ecl Tryz.func128 U U (refNextE _ h2 (by rfl) (by omega) (H.get (f:=RefR 145 r A c cur s1)) hok1 (H.bsT hB hS) hS hl) ?_))))
 rintro _ W ⟨⟨A2,c2,rfl,hc2,hd2,ho2,hf2,hfr2⟩,hr2⟩
 replace H:=H.mutnew (f:=RefR 145 r A c cur s1) (f':=RefR 145 r A c cur s2) (fn:=Fact.row 5 1 (.slice A2 b.length c2) b.length _) hfr2 hr2 (fun _ h=>h) ho2 hf2
 clear hfr2 hr2 ho2 hf2
 refine sAs U (lkR (sAi U (ln (kQ (kR (sMs U (sLn U tu41 (sR (d_sub U U U (by omega)) (sAi U (ln (kb (kL 34 [6,7] (fun mm sl W=>∃k:Nat,k=mm∧sl=[(7,.int .i64 ((k:Int) - 1)),(6,.int .u64 (Pk.ofLe (b.drop k):Int))]∧(k<=b.length)∧St (·=r) w W [Fact.row 5 1 (.slice A2 b.length c2) b.length (b.map u8v),Fact.row 5 1 (.slice A1 1 c1) 1 ([b0].map u8v),RefR 145 r A c cur s2]) _ _ ⟨b.length,U,U,Nat.le_refl _,H⟩ ⟨U,vi (by rw [Pk.ofLe_nil (Nat.le_refl _)];rfl),trivial⟩ (fun mm sl ρv W hJ=>?_)))))))))))))
 clear H;obtain ⟨k,rfl,rfl,hk,H⟩:=hJ
 refine ko (kQ (kR (sMi U (sR (d_ge U U U) (ln (kC U (fun hc35=>?_) (fun hc35=>?_)))))))
 ·first|(replace hc35:=of_decide_eq_true hc35)|simp at hc35
  refine kS (kQ (kb ?_))
  have hst:=Pk.ofLe_step (b:=b) (k:=k) (by omega) hk (by omega)
  refine kr (sMi U (sR (d_mulW U U U hst.1) (sMs U (sMi U (sR (d_iaB U (H.rowrd (A:=A2)) U U (q:=k - 1) (by omega) (by omega) tu41 ts5) (sR (d_ldB U (H.rowrd (A:=A2)) ((l_get (by omega))) U ta5) (sR (d_conv U U (by rw [tu5];rfl) tu104 (IntWalk.u64_in _ (by have:=(b.getD (k - 1) 0).toNat_lt;omega))) ?_)))))))
  refine sR (d_addW U U U hst.2) (sAi U (ln (kn (zE (kr (sMi U (sR (d_sub U U U (by omega)) (sAi U (ln (kn (kY ?_)))))))))))
  refine ⟨_,_,_,?_,U,?_,?_,⟨k - 1,U,U,by omega,H⟩⟩
  ·omega
  ·with_reducible repeat first|exact .refl|refine .f ?_ ?_ ?_;kernel_rfl;kernel_rfl|refine .u ?_ ?_;kernel_rfl
  ·refine ⟨?_,?_,trivial⟩
   ·exact vi (by omega)
   ·exact U
 ·first|(replace hc35:=of_decide_eq_false hc35)|simp at hc35
  refine ke (xt (xt ?_))
  refine xH (kQ (kQ ?_))
  obtain rfl:k=0:=by omega
  rw [List.drop_zero]
  obtain ⟨a,hbk,ha,hsa⟩:=H.get (f:=RefR 145 r A c cur s2)
  replace H:=H.turn (f:=RefR 145 r A c cur s2) (f':=Fact.blk r [.slice A cur.length c,.int .i64 (a:Int),.int .i64 s2.2] 145) Fr.refl hbk (fun g h=>.inl h)
  clear hbk
  refine kr (sMp U (sR (d_nil U U) (sFa U tf145_2 (sR (d_ld U H U ta42 U) (sEq U U (sBt U (by simpa using he) ?_))))))
  refine sr (w_g U U U U) U (mv_i U U) (sr (w_g U U U U) U (d_ge U U U) (sPT U U (ln (kF U (by simp;omega) (kS (kQ (kR (sMp U (sR (d_nil U U) (sFa U tf145_2 (sR (d_ld U H U ta42 U) (sEq U U ?_))))))))))))
  refine sBt U (by simpa using he) ?_
  refine sr (w_g U U U U) U (mv_i U U) (sr (w_g U U U U) U (d_conv U U (by rw [tu104];rfl) tu3 (IntWalk.i64_in _ (by omega))) ?_)
  refine sf (e_call (w_g U U U U) U U Tryz.func45 U U U (refInt _ _ (Bs.nil (S:=fun _=>True)) (by omega) (by simp)) ?_)
  rintro _ W ⟨A4,c4,rfl,hc4,hd4,hn⟩
  replace H:=H.new hn
  clear hn
  have hlen:([]++Pk.int (Pk.toU (Pk.ofLe b:Int)))=Pk.int (Pk.ofLe b):=by rw [Pk.toU_pos _ (by omega) (by omega),Int.toNat_natCast];rfl
  have hform:(([]++Pk.int (Pk.toU (Pk.ofLe b:Int))).length:Int)≠1+(Pk.wide b0:Int)↔Pk.ofLe b<Pk.least b0:=by
   rw [hlen,←Pk.int_len hw (by rw [←hbl];exact Pk.ofLe_lt b)];omega
  refine sr (w_g U U U U) U (d_len U U tu41) (sr (w_g U U U U) U (mv_i U U) (sr (w_g U U U U) U (d_add U U U (by omega)) (sr (w_g U U U U) U (d_ne U U U) (sPT U U (ln (kT U (by simp only [bne_iff_ne];exact hform.2 hf) ?_))))))
  refine kr (sMp U (sR (d_nil U U) (sFa U tf145_2 ?_)))
  refine sf (e_sto (wn U) U U U U U ts42 U H U ?_)
  clear H;intro W H
  refine ln (kQ (kR (sMp U (sR (d_nil U U) (sFa U tf145_2 (sR (d_ld U H U ta42 U) (sNe U U (ln (kT U (by decide) (kR (sAi U (ln ?_))))))))))))
  refine kx ?_
  have e:Pk.rInt s=(0,([],10)):=by unfold Pk.rInt;rw [h1];simp only [hw,if_false,h2,he,ne_eq,not_true_eq_false];unfold Pk.num;rw [if_neg (by omega),if_pos hf]
  rw [e]
  exact qr (v:=.int _ _) U U ⟨_,U,H.valP (s':=([],10)) U ha U U⟩

theorem refRdIntG {S:Nat->Prop} {r c:Nat} {A:Option Addr} {cur:List UInt8} {s:RS} (w:World) {s1 s2:RS} {b0:UInt8} {b:List UInt8} (hR:(RefR 145 r A c cur s).p w) (hok:Pk.Ok s) (hB:Bs w S (.slice A cur.length c) cur) (hS:∀g,S g->¬g=r) (hl:cur.length<=1000000000000) (h1:Pk.next 1 s=([b0],s1)) (hw:Pk.wide b0≠0) (h2:Pk.next (Pk.wide b0) s1=(b,s2)) (he:s2.2=0) (hbl:b.length=Pk.wide b0) (hu:Pk.ofLe b<9223372036854775808) (hf:¬Pk.ofLe b<Pk.least b0):Calls Tryz.prog 68 [.pointer (some ⟨r,0,none⟩)].toArray w (Ret (ValP 145 r A c cur w (.int .i64 ((Pk.rInt s).1:Int)) (Pk.rInt s).2)):=by
 refine kE (l:=[_]) Tryz.func68 U U ?_
 have H:=St.begin (f:=RefR 145 r A c cur s) hR (fun g hg=>by cases hg;exact refR_lt hR)
 refine kR (sAi U (lkR (sMp U (sf (ecl Tryz.func128 U U (refNextE _ h1 (by rfl) (by omega) (H.get (f:=RefR 145 r A c cur s)) hok (H.bsT hB hS) hS hl) ?_)))))
 rintro _ W ⟨⟨A1,c1,rfl,hc1,hd1,ho1,hf1,hfr1⟩,hr1⟩
 replace H:=H.mutnew (f:=RefR 145 r A c cur s) (f':=RefR 145 r A c cur s1) (fn:=Fact.row 5 1 (.slice A1 1 c1) 1 _) hfr1 hr1 (fun _ h=>h) ho1 hf1
 clear hfr1 hr1 ho1 hf1
 refine sAs U (ln (kQ (kR (sMs U (sLn U tu41 (sEq U U (ln (kF U (by first|(simp;done)|(simp;omega)) ?_))))))))
 refine kS (kR (sAi U (ln (kQ (kR (sMs U (sR (d_iaB U (H.rowrd (A:=A1)) U U (q:=0) U (by decide) tu41 ts5) (sR (d_ldB U (H.rowrd (A:=A1)) ((U:[b0][0]?=some b0)) U ta5) (ln (k_bcut 16 [4] (fun sl W=>sl=[(4,.int .i64 (Pk.wide b0:Int))]∧St (·=r) w W [Fact.row 5 1 (.slice A1 1 c1) 1 ([b0].map u8v),RefR 145 r A c cur s1]) ?_ (fun sl ρv W hJ=>?_)))))))))))
 ·skip
  refine kR (sEq U U (sAb U (ln (kC U (fun hc16=>?_) (fun hc16=>?_)))))
  ·skip
   refine kr (sAi U (ln (kn (b_endc ?_))))
   refine ⟨_,_,U,?_,?_,⟨U,H⟩⟩
   ·with_reducible repeat first|exact .refl|refine .f ?_ ?_ ?_;kernel_rfl;kernel_rfl|refine .u ?_ ?_;kernel_rfl
   ·refine ⟨?_,trivial⟩
    ·exact vi (by rw [Pk.wide_253 hc16];rfl)
  ·skip
   refine kR (sEq U U (sAb U (ln (kC U (fun hc18=>?_) (fun hc18=>?_)))))
   ·skip
    refine kr (sAi U (ln (kn (b_endc ?_))))
    refine ⟨_,_,U,?_,?_,⟨U,H⟩⟩
    ·with_reducible repeat first|exact .refl|refine .f ?_ ?_ ?_;kernel_rfl;kernel_rfl|refine .u ?_ ?_;kernel_rfl
    ·refine ⟨?_,trivial⟩
     ·exact vi (by rw [Pk.wide_254 hc18];rfl)
   ·skip
    refine kR (sEq U U (sAb U (ln (kC U (fun hc20=>?_) (fun hc20=>?_)))))
    ·skip
     refine kr (sAi U (ln (kn (b_endc ?_))))
     refine ⟨_,_,U,?_,?_,⟨U,H⟩⟩
     ·with_reducible repeat first|exact .refl|refine .f ?_ ?_ ?_;kernel_rfl;kernel_rfl|refine .u ?_ ?_;kernel_rfl
     ·refine ⟨?_,trivial⟩
      ·exact vi (by rw [Pk.wide_255 hc20];rfl)
    ·skip
     refine kS (kn (b_endc ?_))
     refine ⟨_,_,U,?_,?_,⟨U,H⟩⟩
     ·with_reducible repeat first|exact .refl|refine .f ?_ ?_ ?_;kernel_rfl;kernel_rfl|refine .u ?_ ?_;kernel_rfl
     ·refine ⟨?_,trivial⟩
      ·exact vi (by rw [Pk.wide_0 hc16 hc18 hc20];rfl)
 clear H;obtain ⟨rfl,H⟩:=hJ
 refine kQ (kR (sMi U (sEq U U (ln (kF U (by simp [hw]) ?_)))))
 refine kS (kQ ?_)
 have hok1:=Pk.ok_next (n:=1) hok
 rw [h1] at hok1
 have hw8:Pk.wide b0<=8:=by rcases Pk.wide_of (c:=b0) with h|h|h|h <;> omega
 refine kr (sMp U (sMi U (sf (ecl Tryz.func128 U U (refNextE _ h2 (by rfl) (by omega) (H.get (f:=RefR 145 r A c cur s1)) hok1 (H.bsT hB hS) hS hl) ?_))))
 rintro _ W ⟨⟨A2,c2,rfl,hc2,hd2,ho2,hf2,hfr2⟩,hr2⟩
 replace H:=H.mutnew (f:=RefR 145 r A c cur s1) (f':=RefR 145 r A c cur s2) (fn:=Fact.row 5 1 (.slice A2 b.length c2) b.length _) hfr2 hr2 (fun _ h=>h) ho2 hf2
 clear hfr2 hr2 ho2 hf2
 refine sAs U (lkR (sAi U (ln (kQ (kR (sMs U (sLn U tu41 (sR (d_sub U U U (by omega)) (sAi U (ln (kb (kL 34 [6,7] (fun mm sl W=>∃k:Nat,k=mm∧sl=[(7,.int .i64 ((k:Int) - 1)),(6,.int .u64 (Pk.ofLe (b.drop k):Int))]∧(k<=b.length)∧St (·=r) w W [Fact.row 5 1 (.slice A2 b.length c2) b.length (b.map u8v),Fact.row 5 1 (.slice A1 1 c1) 1 ([b0].map u8v),RefR 145 r A c cur s2]) _ _ ⟨b.length,U,U,Nat.le_refl _,H⟩ ⟨U,vi (by rw [Pk.ofLe_nil (Nat.le_refl _)];rfl),trivial⟩ (fun mm sl ρv W hJ=>?_)))))))))))))
 clear H;obtain ⟨k,rfl,rfl,hk,H⟩:=hJ
 refine ko (kQ (kR (sMi U (sR (d_ge U U U) (ln (kC U (fun hc35=>?_) (fun hc35=>?_)))))))
 ·first|(replace hc35:=of_decide_eq_true hc35)|simp at hc35
  refine kS (kQ (kb ?_))
  have hst:=Pk.ofLe_step (b:=b) (k:=k) (by omega) hk (by omega)
  refine kr (sMi U (sR (d_mulW U U U hst.1) (sMs U (sMi U (sR (d_iaB U (H.rowrd (A:=A2)) U U (q:=k - 1) (by omega) (by omega) tu41 ts5) (sR (d_ldB U (H.rowrd (A:=A2)) ((l_get (by omega))) U ta5) (sR (d_conv U U (by rw [tu5];rfl) tu104 (IntWalk.u64_in _ (by have:=(b.getD (k - 1) 0).toNat_lt;omega))) ?_)))))))
  refine sR (d_addW U U U hst.2) (sAi U (ln (kn (zE (kr (sMi U (sR (d_sub U U U (by omega)) (sAi U (ln (kn (kY ?_)))))))))))
  refine ⟨_,_,_,?_,U,?_,?_,⟨k - 1,U,U,by omega,H⟩⟩
  ·omega
  ·with_reducible repeat first|exact .refl|refine .f ?_ ?_ ?_;kernel_rfl;kernel_rfl|refine .u ?_ ?_;kernel_rfl
  ·refine ⟨?_,?_,trivial⟩
   ·exact vi (by omega)
   ·exact U
 ·first|(replace hc35:=of_decide_eq_false hc35)|simp at hc35
  refine ke (xt (xt ?_))
  refine xH (kQ (kQ ?_))
  obtain rfl:k=0:=by omega
  rw [List.drop_zero]
  obtain ⟨a,hbk,ha,hsa⟩:=H.get (f:=RefR 145 r A c cur s2)
  replace H:=H.turn (f:=RefR 145 r A c cur s2) (f':=Fact.blk r [.slice A cur.length c,.int .i64 (a:Int),.int .i64 s2.2] 145) Fr.refl hbk (fun g h=>.inl h)
  clear hbk
  refine kr (sMp U (sR (d_nil U U) (sFa U tf145_2 (sR (d_ld U H U ta42 U) (sEq U U (sBt U (by simpa using he) ?_))))))
  refine sr (w_g U U U U) U (mv_i U U) (sr (w_g U U U U) U (d_ge U U U) (sPT U U (ln (kF U (by simp;omega) (kS (kQ (kR (sMp U (sR (d_nil U U) (sFa U tf145_2 (sR (d_ld U H U ta42 U) (sEq U U ?_))))))))))))
  refine sBt U (by simpa using he) ?_
  refine sr (w_g U U U U) U (mv_i U U) (sr (w_g U U U U) U (d_conv U U (by rw [tu104];rfl) tu3 (IntWalk.i64_in _ (by omega))) ?_)
  refine sf (e_call (w_g U U U U) U U Tryz.func45 U U U (refInt _ _ (Bs.nil (S:=fun _=>True)) (by omega) (by simp)) ?_)
  rintro _ W ⟨A4,c4,rfl,hc4,hd4,hn⟩
  replace H:=H.new hn
  clear hn
  have hlen:([]++Pk.int (Pk.toU (Pk.ofLe b:Int)))=Pk.int (Pk.ofLe b):=by rw [Pk.toU_pos _ (by omega) (by omega),Int.toNat_natCast];rfl
  have hform:(([]++Pk.int (Pk.toU (Pk.ofLe b:Int))).length:Int)≠1+(Pk.wide b0:Int)↔Pk.ofLe b<Pk.least b0:=by
   rw [hlen,←Pk.int_len hw (by rw [←hbl];exact Pk.ofLe_lt b)];omega
  refine sr (w_g U U U U) U (d_len U U tu41) (sr (w_g U U U U) U (mv_i U U) (sr (w_g U U U U) U (d_add U U U (by omega)) (sr (w_g U U U U) U (d_ne U U U) (sPT U U (ln (kF U (by simp only [bne_eq_false_iff_eq];exact Classical.not_not.1 (fun h=>hf (hform.1 h))) ?_))))))
  refine kS (kQ (kR (sMp U (sR (d_nil U U) (sFa U tf145_2 (sR (d_ld U H U ta42 U) (sNe U U (ln (kF U (by simpa using he) ?_)))))))))
  refine kS (kR (sMi U (sR (d_conv U U (by rw [tu104];rfl) tu3 (IntWalk.i64_in _ (by omega))) ?_)))
  refine sAi U (ln (kx ?_))
  have e:Pk.rInt s=(Pk.ofLe b,s2):=by unfold Pk.rInt;rw [h1];simp only [hw,if_false,h2,he,ne_eq,not_true_eq_false];unfold Pk.num;rw [if_neg (by omega),if_neg hf]
  rw [e]
  exact qr (v:=.int _ _) U U ⟨_,U,H.valP (s':=s2) U ha U hsa⟩

theorem Pk.next_eq {n:Nat} {s s':RS} {b:List UInt8} (h:Pk.next n s=(b,s')):(s'.2=0->b.length=n)∧(s'.2≠0->b.length=0):=by
 unfold Pk.next at h
 split at h
 ·rename_i he;cases h;exact ⟨fun h=>absurd h he,fun _=>rfl⟩
 ·split at h
  ·cases h;exact ⟨fun h=>absurd h (by decide),fun _=>rfl⟩
  ·cases h;exact ⟨fun _=>by rw [List.length_take];omega,fun h=>absurd rfl h⟩
theorem refRdInt {S:Nat->Prop} {r c:Nat} {A:Option Addr} {cur:List UInt8} {s:RS} (w:World) (hR:(RefR 145 r A c cur s).p w) (hok:Pk.Ok s) (hB:Bs w S (.slice A cur.length c) cur) (hS:∀g,S g->¬g=r) (hl:cur.length<=1000000000000):Calls Tryz.prog 68 [.pointer (some ⟨r,0,none⟩)].toArray w (Ret (ValP 145 r A c cur w (.int .i64 ((Pk.rInt s).1:Int)) (Pk.rInt s).2)):=by
 rcases h1:Pk.next 1 s with ⟨l,s1⟩
 have hl1:=Pk.next_len (n:=1) (s:=s)
 rw [h1] at hl1
 match l,h1,hl1 with
 | [],h1,_=>exact refRdIntA w hR hok hB hS hl h1
 | b0::b1::_,_,hl1=>simp at hl1
 | [b0],h1,_ =>
  by_cases hw:Pk.wide b0=0
  ·exact refRdIntC w hR hok hB hS hl h1 hw
  ·rcases h2:Pk.next (Pk.wide b0) s1 with ⟨b,s2⟩
   have hn:=Pk.next_eq h2
   by_cases he:s2.2=0
   ·rcases Nat.lt_or_ge (Pk.ofLe b) 9223372036854775808 with hu|hu
    ·by_cases hf:Pk.ofLe b<Pk.least b0
     ·exact refRdIntF w hR hok hB hS hl h1 hw h2 he (hn.1 he) hu hf
     ·exact refRdIntG w hR hok hB hS hl h1 hw h2 he (hn.1 he) hu hf
    ·exact refRdIntE w hR hok hB hS hl h1 hw h2 he (hn.1 he) hu
   ·exact refRdIntD w hR hok hB hS hl h1 hw h2 he (hn.2 he)

theorem refRdCountA {S:Nat->Prop} {r c:Nat} {A:Option Addr} {cur:List UInt8} {s:RS} (w:World) {m:Int} {u:Nat} {s1:RS} (hR:(RefR 145 r A c cur s).p w) (hok:Pk.Ok s) (hB:Bs w S (.slice A cur.length c) cur) (hS:∀g,S g->¬g=r) (hl:cur.length<=1000000000000) (hx:Pk.rInt s=(u,s1)) (he:s1.2≠0):Calls Tryz.prog 69 [.pointer (some ⟨r,0,none⟩),.int .i64 m].toArray w (Ret (ValP 145 r A c cur w (.int .i64 ((Pk.rC m s).1:Int)) (Pk.rC m s).2)):=by
 refine kE (l:=[_,_]) Tryz.func69 U U ?_
 have H:=St.begin (f:=RefR 145 r A c cur s) hR (fun g hg=>by cases hg;exact refR_lt hR)
 refine kR (sAi U (lkR (sMp U (sf (ecl Tryz.func68 U U (refRdInt _ (H.get (f:=RefR 145 r A c cur s)) hok (H.bsT hB hS) hS hl) ?_)))))
 rw [hx]
 rintro _ W ⟨rfl,hp1,hf1⟩
 replace H:=H.mut (f:=RefR 145 r A c cur s) (f':=RefR 145 r A c cur s1) hf1 hp1 (fun _ h=>h)
 clear hp1 hf1
 obtain ⟨a,hbk,ha,hsa⟩:=H.get (f:=RefR 145 r A c cur s1)
 replace H:=H.turn (f:=RefR 145 r A c cur s1) (f':=Fact.blk r [.slice A cur.length c,.int .i64 (a:Int),.int .i64 s1.2] 145) Fr.refl hbk (fun g h=>.inl h)
 clear hbk
 refine sAi U (ln (kQ (kR (sMp U (sR (d_nil U U) (sFa U tf145_2 (sR (d_ld U H U ta42 U) (sEq U U (sBf U (by simpa using he) ?_)))))))))
 refine sK (wO U U U U U) U (sK (wO U U U U U) U (sK (wO U U U U U) U (sPF U U (ln (kF U (by first|(simp;done)|(simp;omega)) ?_)))))
 refine kS (kQ (kR (sMp U (sR (d_nil U U) (sFa U tf145_2 (sR (d_ld U H U ta42 U) (sNe U U (ln (kT U (by simpa using he) ?_)))))))))
 refine kR (sAi U (ln (kx ?_)))
 have hu:=Pk.rInt_bad (s:=s) (by rw [hx];exact he)
 rw [hx] at hu
 obtain rfl:u=0:=hu
 have e:Pk.rC m s=(0,s1):=by unfold Pk.rC;rw [hx,if_neg (fun h=>he h.1)]
 rw [e]
 exact qr (v:=.int _ _) U U ⟨_,U,H.valP (s':=s1) U ha U hsa⟩

theorem refRdCountB {S:Nat->Prop} {r c:Nat} {A:Option Addr} {cur:List UInt8} {s:RS} (w:World) {m:Int} {u:Nat} {s1:RS} (hR:(RefR 145 r A c cur s).p w) (hok:Pk.Ok s) (hB:Bs w S (.slice A cur.length c) cur) (hS:∀g,S g->¬g=r) (hl:cur.length<=1000000000000) (hx:Pk.rInt s=(u,s1)) (he:s1.2=0) (hm:m<(u:Int)):Calls Tryz.prog 69 [.pointer (some ⟨r,0,none⟩),.int .i64 m].toArray w (Ret (ValP 145 r A c cur w (.int .i64 ((Pk.rC m s).1:Int)) (Pk.rC m s).2)):=by
 refine kE (l:=[_,_]) Tryz.func69 U U ?_
 have H:=St.begin (f:=RefR 145 r A c cur s) hR (fun g hg=>by cases hg;exact refR_lt hR)
 refine kR (sAi U (lkR (sMp U (sf (ecl Tryz.func68 U U (refRdInt _ (H.get (f:=RefR 145 r A c cur s)) hok (H.bsT hB hS) hS hl) ?_)))))
 rw [hx]
 rintro _ W ⟨rfl,hp1,hf1⟩
 replace H:=H.mut (f:=RefR 145 r A c cur s) (f':=RefR 145 r A c cur s1) hf1 hp1 (fun _ h=>h)
 clear hp1 hf1
 obtain ⟨a,hbk,ha,hsa⟩:=H.get (f:=RefR 145 r A c cur s1)
 replace H:=H.turn (f:=RefR 145 r A c cur s1) (f':=Fact.blk r [.slice A cur.length c,.int .i64 (a:Int),.int .i64 s1.2] 145) Fr.refl hbk (fun g h=>.inl h)
 clear hbk
 refine sAi U (ln (kQ (kR (sMp U (sR (d_nil U U) (sFa U tf145_2 (sR (d_ld U H U ta42 U) (sEq U U (sBt U (by simpa using he) ?_)))))))))
 refine sr (w_g U U U U) U (mv_i U U) (sr (w_g U U U U) U (mv_i U U) (sr (w_g U U U U) U (d_gt U U U) (sPT U U (ln (kT U (by simp;omega) (kr (sMp U (sR (d_nil U U) (sFa U tf145_2 ?_)))))))))
 refine sf (e_sto (wn U) U U U U U ts42 U H U ?_)
 clear H;intro W H
 refine ln (kQ (kR (sMp U (sR (d_nil U U) (sFa U tf145_2 (sR (d_ld U H U ta42 U) (sNe U U (ln (kT U (by decide) (kR (sAi U (ln ?_))))))))))))
 refine kx ?_
 have e:Pk.rC m s=(0,([],3)):=by unfold Pk.rC;rw [hx,if_pos ⟨he,hm⟩]
 rw [e]
 exact qr (v:=.int _ _) U U ⟨_,U,H.valP (s':=([],3)) U ha U U⟩

theorem refRdCountC {S:Nat->Prop} {r c:Nat} {A:Option Addr} {cur:List UInt8} {s:RS} (w:World) {m:Int} {u:Nat} {s1:RS} (hR:(RefR 145 r A c cur s).p w) (hok:Pk.Ok s) (hB:Bs w S (.slice A cur.length c) cur) (hS:∀g,S g->¬g=r) (hl:cur.length<=1000000000000) (hx:Pk.rInt s=(u,s1)) (he:s1.2=0) (hm:¬m<(u:Int)):Calls Tryz.prog 69 [.pointer (some ⟨r,0,none⟩),.int .i64 m].toArray w (Ret (ValP 145 r A c cur w (.int .i64 ((Pk.rC m s).1:Int)) (Pk.rC m s).2)):=by
 refine kE (l:=[_,_]) Tryz.func69 U U ?_
 have H:=St.begin (f:=RefR 145 r A c cur s) hR (fun g hg=>by cases hg;exact refR_lt hR)
 refine kR (sAi U (lkR (sMp U (sf (ecl Tryz.func68 U U (refRdInt _ (H.get (f:=RefR 145 r A c cur s)) hok (H.bsT hB hS) hS hl) ?_)))))
 rw [hx]
 rintro _ W ⟨rfl,hp1,hf1⟩
 replace H:=H.mut (f:=RefR 145 r A c cur s) (f':=RefR 145 r A c cur s1) hf1 hp1 (fun _ h=>h)
 clear hp1 hf1
 obtain ⟨a,hbk,ha,hsa⟩:=H.get (f:=RefR 145 r A c cur s1)
 replace H:=H.turn (f:=RefR 145 r A c cur s1) (f':=Fact.blk r [.slice A cur.length c,.int .i64 (a:Int),.int .i64 s1.2] 145) Fr.refl hbk (fun g h=>.inl h)
 clear hbk
 refine sAi U (ln (kQ (kR (sMp U (sR (d_nil U U) (sFa U tf145_2 (sR (d_ld U H U ta42 U) (sEq U U (sBt U (by simpa using he) ?_)))))))))
 refine sr (w_g U U U U) U (mv_i U U) (sr (w_g U U U U) U (mv_i U U) (sr (w_g U U U U) U (d_gt U U U) (sPT U U (ln (kF U (by simp;omega) (kS (kQ (kR (sMp U (sR (d_nil U U) (sFa U tf145_2 (sR (d_ld U H U ta42 U) ?_))))))))))))
 refine sNe U U (ln (kF U (by simpa using he) ?_))
 refine kS (kR (sMi U (sAi U (ln (kx ?_)))))
 have e:Pk.rC m s=(u,s1):=by unfold Pk.rC;rw [hx,if_neg (fun h=>hm h.2)]
 rw [e]
 exact qr (v:=.int _ _) U U ⟨_,U,H.valP (s':=s1) U ha U hsa⟩

theorem refRdCount {S:Nat->Prop} {r c:Nat} {A:Option Addr} {cur:List UInt8} {s:RS} (w:World) {m:Int} (hR:(RefR 145 r A c cur s).p w) (hok:Pk.Ok s) (hB:Bs w S (.slice A cur.length c) cur) (hS:∀g,S g->¬g=r) (hl:cur.length<=1000000000000):Calls Tryz.prog 69 [.pointer (some ⟨r,0,none⟩),.int .i64 m].toArray w (Ret (ValP 145 r A c cur w (.int .i64 ((Pk.rC m s).1:Int)) (Pk.rC m s).2)):=by
 rcases hx:Pk.rInt s with ⟨u,s1⟩
 by_cases he:s1.2=0
 ·by_cases hm:m<(u:Int)
  ·exact refRdCountB w hR hok hB hS hl hx he hm
  ·exact refRdCountC w hR hok hB hS hl hx he hm
 ·exact refRdCountA w hR hok hB hS hl hx he

theorem refRdBlob {S:Nat->Prop} {r c:Nat} {A:Option Addr} {cur:List UInt8} {s:RS} (w:World) {m:Int} (hR:(RefR 145 r A c cur s).p w) (hok:Pk.Ok s) (hB:Bs w S (.slice A cur.length c) cur) (hS:∀g,S g->¬g=r) (hl:cur.length<=1000000000000):Calls Tryz.prog 70 [.pointer (some ⟨r,0,none⟩),.int .i64 m].toArray w (Ret (NextP 5 145 r A c cur w (Pk.rB m s).1 (Pk.rB m s).2)):=by
 refine kE (l:=[_,_]) Tryz.func70 U U ?_
 have H:=St.begin (f:=RefR 145 r A c cur s) hR (fun g hg=>by cases hg;exact refR_lt hR)
 refine kR (sAs U (lkR (sMp U (sMp U (sMi U (sf (ecl Tryz.func69 U U (refRdCount _ (H.get (f:=RefR 145 r A c cur s)) hok (H.bsT hB hS) hS hl) ?_)))))))
 rintro _ W ⟨rfl,hp1,hf1⟩
 replace H:=H.mut (f:=RefR 145 r A c cur s) (f':=RefR 145 r A c cur (Pk.rC m s).2) hf1 hp1 (fun _ h=>h)
 clear hp1 hf1
 have hlt:=Pk.rCount_lt (m:=m) (s:=s)
 refine sf (ecl Tryz.func128 U U (refNext (n:=(Pk.rC m s).1) _ (by rfl) (by omega) (H.get (f:=RefR 145 r A c cur (Pk.rC m s).2)) (Pk.ok_rCount hok) (H.bsT hB hS) hS hl) ?_)
 rintro _ W ⟨⟨A2,c2,rfl,hc2,hd2,ho2,hf2,hfr2⟩,hr2⟩
 replace H:=H.mutnew (f:=RefR 145 r A c cur (Pk.rC m s).2) (f':=RefR 145 r A c cur (Pk.rB m s).2) (fn:=Fact.row 5 1 (.slice A2 (Pk.rB m s).1.length c2) (Pk.rB m s).1.length _) hfr2 hr2 (fun _ h=>h) ho2 hf2
 clear hfr2 hr2 ho2 hf2
 refine sAs U (ln (kx ?_))
 exact qr (v:=.slice _ _ _) U U ⟨_,U,H.nextP' (l:=(Pk.rB m s).1) (s':=(Pk.rB m s).2) hc2 hd2⟩

theorem refRdHash0 {S:Nat->Prop} {r c:Nat} {A:Option Addr} {cur:List UInt8} {s:RS} (w:World) {b:List UInt8} {s1:RS} (hR:(RefR 145 r A c cur s).p w) (hok:Pk.Ok s) (hB:Bs w S (.slice A cur.length c) cur) (hS:∀g,S g->¬g=r) (hl:cur.length<=1000000000000) (hx:Pk.next 32 s=(b,s1)) (hbl:b.length<=32):Calls Tryz.prog 67 [.pointer (some ⟨r,0,none⟩)].toArray w (Ret (ValP 145 r A c cur w (.agg ((Pk.full 32 b).map u8v).toArray) s1)):=by
 refine kE (l:=[_]) Tryz.func67 U U ?_
 have H:=St.begin (f:=RefR 145 r A c cur s) hR (fun g hg=>by cases hg;exact refR_lt hR)
 refine kR (sf (eal (hz 32 0 b) (by rw [hz_zero];exact tz24) H ?_))
 clear H;intro g0_0 W H
 refine lkR (sMp U (sf (ecl Tryz.func128 U U (refNextE _ hx (by rfl) (by omega) (H.get (f:=RefR 145 r A c cur s)) hok (H.bsT hB hS) hS hl) ?_)))
 rintro _ W ⟨⟨A1,c1,rfl,hc1,hd1,ho1,hf1,hfr1⟩,hr1⟩
 replace H:=H.mutnew (f:=RefR 145 r A c cur s) (f':=RefR 145 r A c cur s1) (fn:=Fact.row 5 1 (.slice A1 b.length c1) b.length _) hfr1 hr1 (fun _ h=>h) ho1 hf1
 clear hfr1 hr1 ho1 hf1
 refine sAs U (lkR (sf (eal (hz 32 0 b) (by rw [hz_zero];exact tz24) H ?_)))
 clear H;intro g2_0 W H
 refine ln (kQ (kR (sAi U (ln (kb (kL 8 [5] (fun mm sl W=>∃k:Nat,b.length - k=mm∧sl=[(5,.int .i64 (k:Int))]∧(k<=b.length)∧St (·=r) w W [Fact.blk g2_0 (hz 32 k b) 24,Fact.row 5 1 (.slice A1 b.length c1) b.length (b.map u8v),Fact.blk g0_0 (hz 32 0 b) 24,RefR 145 r A c cur s1]) _ _ ⟨0,U,U,Nat.zero_le _,H⟩ ⟨U,trivial⟩ (fun mm sl ρv W hJ=>?_)))))))
 clear H;obtain ⟨k,rfl,rfl,hk,H⟩:=hJ
 refine ko (kQ (kR (sMi U (sMs U (sLn U tu41 (sLt U U (ln (kC U (fun hc11=>?_) (fun hc11=>?_)))))))))
 ·first|(replace hc11:=of_decide_eq_true hc11)|simp at hc11
  refine kS (kQ (kb (kr (sMi U (sMs U (sMi U (sR (d_iaB U (H.rowrd (A:=A1)) U U (q:=k) (by omega) (by omega) tu41 ts5) (sR (d_ldB U (H.rowrd (A:=A1)) ((l_get (by omega))) U ta5) (sR (d_iaA U U U (q:=k) (by omega) tu24 (by omega) ts5) (sf (esk (hz 32 (k+1) b) U U U ts5 U U H (by rw [len_hz hbl];omega) ((congrArg (fun j=>spl _ j _) (by omega)).trans (hz_step (k:=k) (by omega) hbl)) ?_)))))))))))
  clear H;intro W H
  refine ln (kn (zE (kI U U U (by omega) U (kn (kY ?_)))))
  refine ⟨_,_,_,?_,U,?_,?_,⟨k+1,U,U,by omega,H⟩⟩
  ·omega
  ·with_reducible repeat first|exact .refl|refine .f ?_ ?_ ?_;kernel_rfl;kernel_rfl|refine .u ?_ ?_;kernel_rfl
  ·refine ⟨?_,trivial⟩
   ·exact vi (by omega)
 ·first|(replace hc11:=of_decide_eq_false hc11)|simp at hc11
  refine ke (xt (xt ?_))
  refine xH (kQ ?_)
  obtain rfl:k=b.length:=by omega
  refine kr (sR (d_ldm0 U H U ta24 ts24 (len_hz hbl)) (sf (esk (hz 32 b.length b) U U U ts24 (len_hz hbl) (by unfold hz;exact all_u8L _) H (by have:=len_hz (k:=0) hbl;omega) (spl_all (by rw [len_hz hbl,len_hz hbl])) ?_)))
  clear H;intro W H
  refine ln (kx ?_)
  rw [←hz_end]
  exact q_retc (g:=g0_0) (t':=24) U H U ta24 (by rw [len_hz hbl];exact ts24) ⟨_,U,H.valP'⟩

theorem refRdHash {S:Nat->Prop} {r c:Nat} {A:Option Addr} {cur:List UInt8} {s:RS} (w:World) (hR:(RefR 145 r A c cur s).p w) (hok:Pk.Ok s) (hB:Bs w S (.slice A cur.length c) cur) (hS:∀g,S g->¬g=r) (hl:cur.length<=1000000000000):Calls Tryz.prog 67 [.pointer (some ⟨r,0,none⟩)].toArray w (Ret (ValP 145 r A c cur w (.agg ((Pk.rBytes 32 s).1.map u8v).toArray) (Pk.rBytes 32 s).2)) :=
 refRdHash0 w hR hok hB hS hl rfl Pk.next_len

theorem refRead {S:Nat->Prop} {v:Value} {l:List UInt8} (w:World) (hB:Bs w S v l) (hl:l.length<=1000000000000):Calls Tryz.prog 66 [v].toArray w (Ret (fun v w'=>∃r A c,v=.pointer (some ⟨r,0,none⟩)∧l.length<=c∧c<=9223372036854775807∧St nT w w' [RefR 145 r A c l (l,0),Fact.row 5 1 (.slice A l.length c) l.length (l.map u8v)])):=by
 obtain ⟨_,_,rfl,hcc,_,_⟩:=hB.op
 refine kE (l:=[_]) Tryz.func66 U U ?_
 have H:=St.start nT w
 refine kR (sAp U (lkR (sMs U (sf (eN Tryz.func13 U U (copyBytes _ _ _ (H.bs hB) (by omega)) H ?_)))))
 clear H;intro A1 c1 W hc1 hd1 H
 refine sR (dB (vs:=[.slice A1 l.length c1,.int .i64 0,.int .i64 0]) U (by kernel_rfl)) ?_
 refine sf (ebx U U H ?_)
 clear H;intro g1_3 W H
 refine sAp U (ln (kx ?_))
 exact qr (v:=.pointer _) U U ⟨_,U,g1_3,A1,c1,U,hc1,hd1,H.turn (f:=Fact.blk g1_3 [.slice A1 l.length c1,.int .i64 0,.int .i64 0] 145) (f':=RefR 145 g1_3 A1 c1 l (l,0)) Fr.refl ⟨0,H.blk,Nat.zero_le _,U⟩ (fun g h=>.inl h)⟩

def why (k:Int):Value:=.iface 163 (.agg [.int .i64 k].toArray)
theorem mustOk {b:Bool} (z:Int) (w:World) (hb:b=true):Calls Tryz.prog 153 [.bool b,.int .i64 z].toArray w (Ret (Is w (.tuple #[]))):=by
 subst hb
 refine kE (l:=[_,_]) Tryz.func153 U U ?_
 have H:=St.start nT w
 refine kR (sMb U (sR (d_not U U) (ln (kF U (by first|(simp;done)|(simp;omega)) ?_))))
 exact kS (kn (q_end0 U ⟨_,U,U,H.under⟩))

theorem mustBad {b:Bool} (z:Int) (w:World) (hb:b=false):Calls Tryz.prog 153 [.bool b,.int .i64 z].toArray w (Pan (why z) (fun w'=>Below w.heap.size w w')):=by
 subst hb
 refine kE (l:=[_,_]) Tryz.func153 U U ?_
 have H:=St.start nT w
 refine kR (sMb U (sR (d_not U U) (ln (kT U (by first|(simp;done)|(simp;omega)) ?_))))
 refine kr (sMi U (sR (dB (vs:=[.int .i64 z]) U (by kernel_rfl)) ?_))
 refine sR (d_mkiface (v:=.agg [.int .i64 z].toArray) U U (by kernel_rfl)) ?_
 refine sf (e_panic (wn U) U U ?_)
 exact ⟨U,U,H.under⟩

theorem clone {S:Nat->Prop} {v:Value} {l:List UInt8} (w:World) (hB:Bs w S v l) (hl:l.length<=1000000000000):Calls Tryz.prog 112 [v].toArray w (Ret (NewB 5 w l)):=by
 obtain ⟨A,c,rfl,hcc,hcm,hrd⟩:=hB.op
 refine kE (l:=[_]) Tryz.func112 U U ?_
 have H:=St.start nT w
 refine kR (sAs U (ln (kQ (kR (sMs U (sR (d_eqnil U U U tu41) (ln (kC U (fun hc4=>?_) (fun hc4=>?_)))))))))
 ·skip
  refine kR (sAs U (ln (kx ?_)))
  obtain rfl:l=[]:=by
   rcases Nat.eq_zero_or_pos l.length with h|h
   ·exact List.eq_nil_of_length_eq_zero h
   ·obtain ⟨g,o,rfl,_⟩:=hrd.2 h
    simp at hc4
  replace H:=H.nilrow 5 1
  exact qr (v:=.slice _ _ _) U U ⟨_,U,H.newB (l:=[]) (by rfl) (by rfl) (Nat.le_refl _) (by omega)⟩
 ·skip
  refine kS (kR (sf (e_bsl0 (wn U) U U tu41 ts5 H ?_)))
  clear H;intro g3_0 W H
  refine sMs U (sf (eap tu41 tx5 U U U H (H.rd hrd) (all_u8L _) (by omega) U ?_))
  clear H;intro A1 c1 W hc1 hd1 H
  refine sAs U (ln (kx ?_))
  rw [Nat.zero_add] at hc1 H ⊢
  exact qr (v:=.slice _ _ _) U U ⟨_,U,H.newB (l:=l) U U hc1 hd1⟩

theorem prgEnd {A0:Option Addr} {n0 c0 r:Nat} {Y:List UInt8->Prop} {v:Value} {b:List UInt8} {s:RS} (w:World) (hR:(RdYB 5 134 r A0 n0 c0 Y v b s).p w):Calls Tryz.prog 64 [.pointer (some ⟨r,0,none⟩)].toArray w (Ret (Is w (.int .i64 (Pk.rEnd s)))):=by
 obtain ⟨A,c,o,ys,h1,h2,h3,hL,hH,hY⟩:=hR
 have hG:=gat_of h1
 refine kE (l:=[_]) Tryz.func64 U U ?_
 have H:=St.start nT w
 refine kR (sAi U (ln (kQ (kR (sMp U (sR (d_nil U U) (sFa U tf134_0 (sR (d_ldG U (H.gat hG) U ta41 U) (sLn U tu41 (sR (d_gt U U U) (ln (kC U (fun hc8=>?_) (fun hc8=>?_)))))))))))))
 ·first|(replace hc8:=of_decide_eq_true hc8)|simp at hc8
  refine kR (sAi U (ln (kx ?_)))
  exact qr (v:=.int _ _) U U ⟨_,U,vi (by rw [Pk.rEnd,if_pos (by omega)]),H.under⟩
 ·first|(replace hc8:=of_decide_eq_false hc8)|simp at hc8
  refine kS (kR (sMp U (sR (d_nil U U) (sFa U tf134_1 (sR (d_ldG U (H.gat hG) U ta42 U) (sAi U (ln (kx ?_))))))))
  exact qr (v:=.int _ _) U U ⟨_,U,vi (by rw [Pk.rEnd,if_neg (by omega)]),H.under⟩

theorem takeOk {A0:Option Addr} {n0 c0 r:Nat} {Y:List UInt8->Prop} {v:Value} {b:List UInt8} {s:RS} (w:World) {n:Nat} {z:Int} (hz:z=(n:Int)) (hR:(RdYB 5 134 r A0 n0 c0 Y v b s).p w) (he:s.2=0) (hn:n<=s.1.length):Calls Tryz.prog 115 [.pointer (some ⟨r,0,none⟩),.int .i64 z].toArray w (Ret (fun v' w'=>(RdYB 5 134 r A0 n0 c0 Y v' (s.1.take n) (s.1.drop n,0)).p w'∧Fr (RdT r A0 n0 c0) w w')):=by
 subst hz
 have hR0:=hR
 have hne:=RdB.ne hR
 have hrow:A0=none∨∃g,A0=some ⟨g,0,none⟩:=by
  obtain ⟨_,_,_,_,_,h,_⟩:=hR
  exact row_addr h
 obtain ⟨A,c,o,ys,hY,hL,hH,hn0,hc0,H0⟩:=RdB.two hR
 refine kE (l:=[_,_]) Tryz.func115 U U ?_
 have H:=H0
 refine kR (sAs U (ln (kQ ?_)))
 have hlc:s.1.length<=c:=hL.2.2.1
 refine kr (sMi U (sMp U (sR (d_nil U U) (sFa U tf134_0 (sR (d_ld U H U ta41 U) (sLn U tu41 (sR (d_le U U U) (sf (eI Tryz.func153 U U (mustOk _ _ (by simp;omega)) H ?_)))))))))
 clear H;intro W H
 refine lkR (sMp U (sR (d_nil U U) (sFa U tf134_0 (sR (d_ld U H U ta41 U) (sMi U (sMi U (sR (d_cutM U U U (h:=n) U U (by omega) U tu41 ts5) (sAs U (lkR (sMp U (sMp U (sR (d_nil U U) ?_))))))))))))
 refine sFa U tf134_0 (sR (d_ld U H U ta41 U) (sMi U (sR (d_cutS U U (l:=n) U hn U tu41 ts5) (sR (d_nil U U) (sFa U tf134_0 ?_)))))
 refine sf (e_sto (wn U) U U U U U ts41 U H U ?_)
 clear H;intro W H
 refine lkR (sMs U (sAs U (ln (kx ?_))))
 exact qr (v:=.slice _ _ _) U U ⟨_,U,RdB.of (o:=o+n) (ys:=ys) hY H hne (by rw [List.length_drop]) he (hL.step hrow he hn) (HeldP.step hL he hn),H.fr⟩

theorem takeShort {A0:Option Addr} {n0 c0 r:Nat} {Y:List UInt8->Prop} {v:Value} {b:List UInt8} {s:RS} (w:World) {n:Nat} {z:Int} (hz:z=(n:Int)) (hR:(RdYB 5 134 r A0 n0 c0 Y v b s).p w) (hn:s.1.length<n):Calls Tryz.prog 115 [.pointer (some ⟨r,0,none⟩),.int .i64 z].toArray w (Pan (why 4) (fun w'=>(RdYB 5 134 r A0 n0 c0 Y v b s).p w'∧Fr (RdT r A0 n0 c0) w w')):=by
 subst hz
 have hR0:=hR
 have hne:=RdB.ne hR
 have hrow:A0=none∨∃g,A0=some ⟨g,0,none⟩:=by
  obtain ⟨_,_,_,_,_,h,_⟩:=hR
  exact row_addr h
 obtain ⟨A,c,o,ys,hY,hL,hH,hn0,hc0,H0⟩:=RdB.two hR
 refine kE (l:=[_,_]) Tryz.func115 U U ?_
 have H:=H0
 refine kR (sAs U (lkR (sMi U (sMp U (sR (d_nil U U) (sFa U tf134_0 (sR (d_ld U H U ta41 U) (sLn U tu41 (sR (d_le U U U) (sf (e_callP (wn U) U Tryz.func153 U U U (mustBad _ _ (by simp;omega)) ?_)))))))))))
 intro W hb
 replace H:=H.below hb
 exact ⟨U,U,RdB.of (o:=o) (ys:=ys) hY H hne U U hL hH,H.fr⟩

theorem prgReadY {S:Nat->Prop} {v:Value} {l:List UInt8} (w:World) (hB:Bs w S v l) (hl:l.length<=1000000000000):Calls Tryz.prog 59 [v].toArray w (Ret (fun v w'=>∃r A c,v=.pointer (some ⟨r,0,none⟩)∧St nT w w' [RdYP 5 134 r A l.length c (·=l) (l,0)])):=by
 obtain ⟨_,_,rfl,hcc,_,_⟩:=hB.op
 refine kE (l:=[_]) Tryz.func59 U U ?_
 have H:=St.start nT w
 refine kR (sAp U (lkR (sMs U (sf (eN Tryz.func112 U U (clone _ (H.bs hB) (by omega)) H ?_)))))
 clear H;intro A1 c1 W hc1 hd1 H
 refine sR (dB (vs:=[.slice A1 l.length c1,.int .i64 0]) U (by kernel_rfl)) ?_
 refine sf (ebx U U H ?_)
 clear H;intro g1_3 W H
 refine sAp U (ln (kx ?_))
 exact qr (v:=.pointer _) U U ⟨_,U,g1_3,A1,c1,U,RdB.make (Y:=(·=l)) U H U⟩

theorem formIs {z:Int} {x y:Value} {q:Nat} {b:UInt8} (w:World) (hx:x.oneCell'=true) (hy:y.oneCell'=true) (hq:Gat w q [u8v b]):Calls Tryz.prog 156 [.agg [.int .u8 z,x,y].toArray,.pointer (some ⟨q,0,none⟩)].toArray w (Ret (Is w (.bool (z == (b.toNat:Int))))):=by
 refine kE (l:=[_,_]) Tryz.func156 U U ?_
 have H:=St.start nT w
 refine kR (sf (ebx U U H ?_))
 clear H;intro g0_0 W H
 refine sAb U (lkR (sFa U tf106_0 (sR (d_ld U H U ta5 U) (sR (d_ldG U (H.gat hq) U ta5 U) (sEq U U (sAb U (ln (kx ?_))))))))
 exact qr (v:=.bool _) U U ⟨_,U,U,H.under⟩

def idxF (b:UInt8):Int:=if b=253 then 0 else if b=254 then 1 else if b=255 then 2 else -1
theorem idx_0 {b:UInt8} (h:((253:Int) == (b.toNat:Int))=true):b=253:=UInt8.toNat_inj.1 (by have:=eq_of_beq h;simp;omega)
theorem idx_1 {b:UInt8} (h:((254:Int) == (b.toNat:Int))=true):b=254:=UInt8.toNat_inj.1 (by have:=eq_of_beq h;simp;omega)
theorem idx_2 {b:UInt8} (h:((255:Int) == (b.toNat:Int))=true):b=255:=UInt8.toNat_inj.1 (by have:=eq_of_beq h;simp;omega)
theorem idx_n0 {b:UInt8} (h:((253:Int) == (b.toNat:Int))=false):¬b=253:=fun e=>by subst e;simp at h
theorem idx_n1 {b:UInt8} (h:((254:Int) == (b.toNat:Int))=false):¬b=254:=fun e=>by subst e;simp at h
theorem idx_n2 {b:UInt8} (h:((255:Int) == (b.toNat:Int))=false):¬b=255:=fun e=>by subst e;simp at h
theorem indexF {q:Nat} {b:UInt8} (w:World) (hG:Gat w 0 formsC) (hq:Gat w q [u8v b]):Calls Tryz.prog 155 [.slice (some ⟨0,0,none⟩) 3 3,.func (.func 156) #[] [.pointer (some ⟨q,0,none⟩)].toArray].toArray w (Ret (Is w (.int .i64 (idxF b)))):=by
 refine kE (l:=[_,_]) Tryz.func155 U U ?_
 have H:=St.start nT w
 refine kR (sAi U (ln (kQ (kR (sMs U (sLn U tu109 (sMi U (ln (kb (k_unr (ko ?_)))))))))))
 refine kR (sLt U U (ln (kQ (kT U (by first|(simp;done)|(simp;omega)) ?_))))
 refine kS (kQ (kb (kR (sMi U (sAi U (lkR (sMf U (sMs U (sMi U (sR (d_iaS U ((H.gat hG).rd U) U U (q:=0) U (by decide) tu109 ts106) (sR (d_ldmG (m:=3) (i:=0) U (H.gat hG) U ta106 ts106 U) (sf (e_callv (wn U) U U U Tryz.func156 U U U (formIs _ U U (H.gat hq)) ?_)))))))))))))
 rintro _ W ⟨rfl,hb⟩
 replace H:=H.below hb
 clear hb
 refine ln (kC U (fun hc16=>?_) (fun hc16=>?_))
 ·have e1:=idx_0 hc16
  refine kR (sMi U (sAi U (ln (kx ?_))))
  exact qr (v:=.int _ _) U U ⟨_,U,vi (by unfold idxF;rw [if_pos e1]),H.under⟩
 ·have e1:=idx_n0 hc16
  refine kS (kn (zE (kr (sAd U U (by omega) (sMi U (ln (kn (kY (hd_of (ko ?_))))))))))
  refine kR (sLt U U (ln (kQ (kT U (by first|(simp;done)|(simp;omega)) ?_))))
  refine kS (kQ (kb (kR (sMi U (sAi U (lkR (sMf U (sMs U (sMi U (sR (d_iaS U ((H.gat hG).rd U) U U (q:=1) U (by decide) tu109 ts106) (sR (d_ldmG (m:=3) (i:=3) U (H.gat hG) U ta106 ts106 U) (sf (e_callv (wn U) U U U Tryz.func156 U U U (formIs _ U U (H.gat hq)) ?_)))))))))))))
  rintro _ W ⟨rfl,hb⟩
  replace H:=H.below hb
  clear hb
  refine ln (kC U (fun hc16=>?_) (fun hc16=>?_))
  ·have e2:=idx_1 hc16
   refine kR (sMi U (sAi U (ln (kx ?_))))
   exact qr (v:=.int _ _) U U ⟨_,U,vi (by unfold idxF;rw [if_neg e1,if_pos e2];rfl),H.under⟩
  ·have e2:=idx_n1 hc16
   refine kS (kn (zE (kr (sAd U U (by omega) (sMi U (ln (kn (kY (hd_of (ko ?_))))))))))
   refine kR (sLt U U (ln (kQ (kT U (by first|(simp;done)|(simp;omega)) ?_))))
   refine kS (kQ (kb (kR (sMi U (sAi U (lkR (sMf U (sMs U (sMi U (sR (d_iaS U ((H.gat hG).rd U) U U (q:=2) U (by decide) tu109 ts106) (sR (d_ldmG (m:=3) (i:=6) U (H.gat hG) U ta106 ts106 U) (sf (e_callv (wn U) U U U Tryz.func156 U U U (formIs _ U U (H.gat hq)) ?_)))))))))))))
   rintro _ W ⟨rfl,hb⟩
   replace H:=H.below hb
   clear hb
   refine ln (kC U (fun hc16=>?_) (fun hc16=>?_))
   ·have e3:=idx_2 hc16
    refine kR (sMi U (sAi U (ln (kx ?_))))
    exact qr (v:=.int _ _) U U ⟨_,U,vi (by unfold idxF;rw [if_neg e1,if_neg e2,if_pos e3];rfl),H.under⟩
   ·have e3:=idx_n2 hc16
    refine kS (kn (zE (kr (sAd U U (by omega) (sMi U (ln (kn (kY (hd_of (ko ?_))))))))))
    refine kR (sLt U U (ln (kQ (kF U (by first|(simp;done)|(simp;omega)) ?_))))
    refine ke (xt (xt ?_))
    refine xH (kR (sAi U (ln (kx ?_))))
    exact qr (v:=.int _ _) U U ⟨_,U,vi (by unfold idxF;rw [if_neg e1,if_neg e2,if_neg e3]),H.under⟩

theorem Pk.next_s {n:Nat} {s s':RS} {l:List UInt8} (h:Pk.next n s=(l,s')) (he:s.2=0):(s'.2=0->n<=s.1.length∧l=s.1.take n∧s'=(s.1.drop n,0))∧(s'.2≠0->s.1.length<n∧s'=([],4)):=by
 rcases Nat.lt_or_ge s.1.length n with hn|hn
 ·rw [Pk.next_short he hn] at h
  cases h
  exact ⟨fun h=>absurd h (by decide),fun _=>⟨hn,U⟩⟩
 ·rw [Pk.next_ok he hn] at h
  cases h
  exact ⟨fun _=>⟨hn,U,U⟩,fun h=>absurd U h⟩
theorem takeE {A0:Option Addr} {n0 c0 r:Nat} {Y:List UInt8->Prop} {v:Value} {b:List UInt8} {s:RS} (w:World) {n:Nat} {z:Int} {l:List UInt8} {s':RS} (hx:Pk.next n s=(l,s')) (hz:z=(n:Int)) (hR:(RdYB 5 134 r A0 n0 c0 Y v b s).p w) (he:s.2=0) (hs:s'.2=0):Calls Tryz.prog 115 [.pointer (some ⟨r,0,none⟩),.int .i64 z].toArray w (Ret (fun v' w'=>(RdYB 5 134 r A0 n0 c0 Y v' l s').p w'∧Fr (RdT r A0 n0 c0) w w')):=by
 obtain ⟨h1,rfl,rfl⟩:=(Pk.next_s hx he).1 hs
 exact takeOk w hz hR he h1
theorem takeSE {A0:Option Addr} {n0 c0 r:Nat} {Y:List UInt8->Prop} {v:Value} {b:List UInt8} {s:RS} (w:World) {n:Nat} {z:Int} {l:List UInt8} {s':RS} (hx:Pk.next n s=(l,s')) (hz:z=(n:Int)) (hR:(RdYB 5 134 r A0 n0 c0 Y v b s).p w) (he:s.2=0) (hs:s'.2≠0):Calls Tryz.prog 115 [.pointer (some ⟨r,0,none⟩),.int .i64 z].toArray w (Pan (why 4) (fun w'=>(RdYB 5 134 r A0 n0 c0 Y v b s).p w'∧Fr (RdT r A0 n0 c0) w w')) :=
 takeShort w hz hR ((Pk.next_s hx he).2 hs).1
theorem idx_neg {b:UInt8} (h:Pk.wide b=0):idxF b = -1:=by
 unfold Pk.wide at h
 unfold idxF
 split at h
 ·omega
 ·rename_i h1
  rw [if_neg h1]
  split at h
  ·omega
  ·rename_i h2
   rw [if_neg h2]
   split at h
   ·omega
   ·rename_i h3;rw [if_neg h3]
theorem idx_pos {b:UInt8} (h:Pk.wide b≠0):∃j:Nat,idxF b=(j:Int)∧j<3∧formsC[0+j*3+1]?=some (.int .i64 (Pk.wide b:Int))∧formsC[0+j*3+2]?=some (.int .u64 (Pk.least b:Int)):=by
 unfold Pk.wide Pk.least idxF at *
 by_cases h1:b=253
 ·exact ⟨0,by rw [if_pos h1];rfl,by omega,by rw [if_pos h1];rfl,by rw [if_pos h1];rfl⟩
 ·by_cases h2:b=254
  ·exact ⟨1,by rw [if_neg h1,if_pos h2];rfl,by omega,by rw [if_neg h1,if_pos h2];rfl,by rw [if_neg h1,if_pos h2];rfl⟩
  ·by_cases h3:b=255
   ·exact ⟨2,by rw [if_neg h1,if_neg h2,if_pos h3];rfl,by omega,by rw [if_neg h1,if_neg h2,if_pos h3];rfl,by rw [if_neg h1,if_neg h2];rfl⟩
   ·rw [if_neg h1,if_neg h2,if_neg h3] at h;exact absurd rfl h

theorem numA {A0:Option Addr} {n0 c0 r:Nat} {Y:List UInt8->Prop} {v:Value} {b:List UInt8} {s:RS} (w:World) {s1:RS} {l:List UInt8} (hR:(RdYB 5 134 r A0 n0 c0 Y v b s).p w) (hG:Gat w 0 formsC) (hT:¬RdT r A0 n0 c0 0) (he:s.2=0) (h1:Pk.next 1 s=(l,s1)) (h1e:s1.2≠0):Calls Tryz.prog 117 [.pointer (some ⟨r,0,none⟩)].toArray w (Pan (why 4) (fun w'=>(∃s',(RdYP 5 134 r A0 n0 c0 Y s').p w')∧Fr (RdT r A0 n0 c0) w w')):=by
 refine kE (l:=[_]) Tryz.func117 U U ?_
 have H:=St.begin (f:=RdYB 5 134 r A0 n0 c0 Y v b s) hR (RdB.lt hR)
 refine kR (sAi U (lkR (sMp U (sf (e_callP (wn U) U Tryz.func115 U U U (takeSE _ h1 (by rfl) (H.get (f:=RdYB 5 134 r A0 n0 c0 Y v b s)) he h1e) ?_)))))
 rintro W ⟨hp,hf⟩
 replace H:=H.mut (f:=RdYB 5 134 r A0 n0 c0 Y v b s) (f':=RdYB 5 134 r A0 n0 c0 Y v b s) hf hp (fun _ h=>h)
 exact ⟨U,U,⟨_,RdB.toP (H.get (f:=RdYB 5 134 r A0 n0 c0 Y v b s))⟩,H.fr⟩

theorem numC {A0:Option Addr} {n0 c0 r:Nat} {Y:List UInt8->Prop} {v:Value} {b:List UInt8} {s:RS} (w:World) {s1:RS} {b0:UInt8} (hR:(RdYB 5 134 r A0 n0 c0 Y v b s).p w) (hG:Gat w 0 formsC) (hT:¬RdT r A0 n0 c0 0) (he:s.2=0) (h1:Pk.next 1 s=([b0],s1)) (h1e:s1.2=0) (hw:Pk.wide b0=0):Calls Tryz.prog 117 [.pointer (some ⟨r,0,none⟩)].toArray w (Ret (fun v' w'=>v'=.int .i64 (b0.toNat:Int)∧(RdYP 5 134 r A0 n0 c0 Y s1).p w'∧Fr (RdT r A0 n0 c0) w w')):=by
 refine kE (l:=[_]) Tryz.func117 U U ?_
 have H:=St.begin (f:=RdYB 5 134 r A0 n0 c0 Y v b s) hR (RdB.lt hR)
 refine kR (sAi U (lkR (sMp U (sf (ecl Tryz.func115 U U (takeE _ h1 (by rfl) (H.get (f:=RdYB 5 134 r A0 n0 c0 Y v b s)) he h1e) ?_)))))
 rintro _ W ⟨hp1,hf1⟩
 obtain ⟨B1,d1,rfl⟩:=RdB.form hp1
 replace H:=H.mut (f:=RdYB 5 134 r A0 n0 c0 Y v b s) (f':=RdYB 5 134 r A0 n0 c0 Y (.slice B1 (List.length [b0]) d1) [b0] s1) hf1 hp1 (fun _ h=>h)
 clear hp1 hf1
 refine sR (d_iaB U (RdB.rd (H.get (f:=RdYB 5 134 r A0 n0 c0 Y (.slice B1 (List.length [b0]) d1) [b0] s1))) U U (q:=0) U (by exact Nat.zero_lt_one) tu41 ts5) ?_
 refine sR (d_ldB U (RdB.rd (H.get (f:=RdYB 5 134 r A0 n0 c0 Y (.slice B1 (List.length [b0]) d1) [b0] s1))) ((U:[b0][0]?=some b0)) U ta5) (sf (eal [.int .u8 0] tz5 H ?_))
 clear H;intro g3 W H
 refine sf (e_sto (wn U) U U U U U ts5 U H U ?_)
 clear H;intro W H
 refine lkR (sR (d_arrA U U tu107 ts106) (sR (d_mkf U U U) (sf (eI Tryz.func155 U U (indexF _ (H.gatT hG hT) (gat_of H.blk)) H ?_))))
 clear H;intro W H
 refine sAi U (ln (kQ (kR (sMi U (sLt U U (ln (kT U (by rw [idx_neg hw];rfl) ?_)))))))
 refine kR (sR (d_ld U H U ta5 U) (sR (d_conv U U (by rw [tu5];rfl) tu3 (IntWalk.i64_in _ (by have:=b0.toNat_lt;omega))) ?_))
 refine sAi U (ln (kx ?_))
 exact qr (v:=.int _ _) U U ⟨_,U,U,RdB.toP (H.get (f:=RdYB 5 134 r A0 n0 c0 Y (.slice B1 (List.length [b0]) d1) [b0] s1)),H.fr⟩

theorem numD {A0:Option Addr} {n0 c0 r:Nat} {Y:List UInt8->Prop} {v:Value} {b:List UInt8} {s:RS} (w:World) {s1 s2:RS} {b0:UInt8} {l:List UInt8} (hR:(RdYB 5 134 r A0 n0 c0 Y v b s).p w) (hG:Gat w 0 formsC) (hT:¬RdT r A0 n0 c0 0) (he:s.2=0) (h1:Pk.next 1 s=([b0],s1)) (h1e:s1.2=0) (hw:Pk.wide b0≠0) (h2:Pk.next (Pk.wide b0) s1=(l,s2)) (h2e:s2.2≠0):Calls Tryz.prog 117 [.pointer (some ⟨r,0,none⟩)].toArray w (Pan (why 4) (fun w'=>(∃s',(RdYP 5 134 r A0 n0 c0 Y s').p w')∧Fr (RdT r A0 n0 c0) w w')):=by
 refine kE (l:=[_]) Tryz.func117 U U ?_
 have H:=St.begin (f:=RdYB 5 134 r A0 n0 c0 Y v b s) hR (RdB.lt hR)
 refine kR (sAi U (lkR (sMp U (sf (ecl Tryz.func115 U U (takeE _ h1 (by rfl) (H.get (f:=RdYB 5 134 r A0 n0 c0 Y v b s)) he h1e) ?_)))))
 rintro _ W ⟨hp1,hf1⟩
 obtain ⟨B1,d1,rfl⟩:=RdB.form hp1
 replace H:=H.mut (f:=RdYB 5 134 r A0 n0 c0 Y v b s) (f':=RdYB 5 134 r A0 n0 c0 Y (.slice B1 (List.length [b0]) d1) [b0] s1) hf1 hp1 (fun _ h=>h)
 clear hp1 hf1
 refine sR (d_iaB U (RdB.rd (H.get (f:=RdYB 5 134 r A0 n0 c0 Y (.slice B1 (List.length [b0]) d1) [b0] s1))) U U (q:=0) U (by exact Nat.zero_lt_one) tu41 ts5) ?_
 refine sR (d_ldB U (RdB.rd (H.get (f:=RdYB 5 134 r A0 n0 c0 Y (.slice B1 (List.length [b0]) d1) [b0] s1))) ((U:[b0][0]?=some b0)) U ta5) (sf (eal [.int .u8 0] tz5 H ?_))
 clear H;intro g3 W H
 refine sf (e_sto (wn U) U U U U U ts5 U H U ?_)
 clear H;intro W H
 refine lkR (sR (d_arrA U U tu107 ts106) (sR (d_mkf U U U) (sf (eI Tryz.func155 U U (indexF _ (H.gatT hG hT) (gat_of H.blk)) H ?_))))
 clear H;intro W H
 refine sAi U (ln (kQ (kQ ?_)))
 obtain ⟨j,hj1,hj2,hj3,hj4⟩:=idx_pos hw
 refine kr (sMi U (sLt U U (ln (kF U (by rw [hj1];simp) ?_))))
 refine kS (kR (sf (eal [.int .u64 0] tz104 H ?_)))
 clear H;intro g5 W H
 refine sf (e_sto (wn U) U U U U U ts104 U H U ?_)
 clear H;intro W H
 refine ln (kQ (kR (sMp U (sMi U (sR (d_iaA U U U (q:=j) hj1 tu107 hj2 ts106) (sFa U tf106_1 (sR (d_ldG U (H.gatT hG hT) U ta3 hj3) (sf (e_callP (wn U) U Tryz.func115 U U U (takeSE _ h2 (by rfl) (H.get (f:=RdYB 5 134 r A0 n0 c0 Y (.slice B1 (List.length [b0]) d1) [b0] s1)) h1e h2e) ?_)))))))))
 rintro W ⟨hp,hf⟩
 replace H:=H.mut (f:=RdYB 5 134 r A0 n0 c0 Y (.slice B1 (List.length [b0]) d1) [b0] s1) (f':=RdYB 5 134 r A0 n0 c0 Y (.slice B1 (List.length [b0]) d1) [b0] s1) hf hp (fun _ h=>h)
 exact ⟨U,U,⟨_,RdB.toP (H.get (f:=RdYB 5 134 r A0 n0 c0 Y (.slice B1 (List.length [b0]) d1) [b0] s1))⟩,H.fr⟩

def backL (l:List UInt8) (k:Nat):List (Nat × UInt8):=(List.range k).map fun j=>(l.length - 1 - j,l.getD (l.length - 1 - j) 0)
theorem backL_succ {l:List UInt8} {k:Nat} (h1:1<=k) (hk:k<=l.length):backL l (l.length - (k - 1))=backL l (l.length - k)++[(k - 1,l.getD (k - 1) 0)]:=by
 unfold backL
 rw [show l.length - (k - 1)=l.length - k+1 by omega,List.range_succ,List.map_append,List.map_singleton,show l.length - 1 - (l.length - k)=k - 1 by omega]
theorem len_backL {l:List UInt8} {k:Nat}:(backL l k).length=k:=by simp [backL]
theorem back_stops {q c:Nat} {B:Option Addr} {l:List UInt8} {K0:Nat->Prop} (w:World) (hq:Gat w q [.slice B l.length c]) (hr:Rd w K0 1 B l.length (l.map u8v)) (hKq:K0 q) (hl:l.length<=1000000000000) :
  SeqStopsK Fence.wide 2 Tryz.prog 163 [.pointer (some ⟨q,0,none⟩)].toArray (fun x:Nat × UInt8=>#[.int .i64 (x.1:Int),u8v x.2]) (KeepG K0) (fun xs=>xs=backL l l.length) (fun _=>True) l.length w:=by
 intro ll J Jx W0 hW hJ hJx hY h0
 refine callsIn_wide.2 ?_
 have hq0:=hq.keep hW
 have hr0:=hr.keep (fun g hg _=>hW.block g hg)
 rw [show (#[Value.func (.yield ll) #[] #[]]++[Value.pointer (some ⟨q,0,none⟩)].toArray:Array Value)=[Value.func (.yield ll) #[] #[],Value.pointer (some ⟨q,0,none⟩)].toArray from rfl]
 refine kE (l:=[_,_]) Tryz.func163 U U ?_
 have H:=St.start nT W0
 refine kR (sR (d_ldG U (hq0) U ta41 U) (sLn U tu41 (sR (d_sub U U U (by omega)) (sAi U (ln (kb (kL 7 [3] (fun mm sl W=>∃k:Nat,k=mm∧sl=[(3,.int .i64 ((k:Int) - 1))]∧(k<=l.length)∧(J (backL l (l.length - k)) W∧KeepG K0 W0 W)) _ _ ⟨l.length,U,U,Nat.le_refl _,⟨by rw [Nat.sub_self];exact h0,fun _ _=>U⟩⟩ ⟨U,trivial⟩ (fun mm sl ρv W hJ=>?_))))))))
 clear H;obtain ⟨k,rfl,rfl,hk,H⟩:=hJ
 refine ko (kQ (kR (sMi U (sR (d_ge U U U) (ln (kC U (fun hc8=>?_) (fun hc8=>?_)))))))
 ·first|(replace hc8:=of_decide_eq_true hc8)|simp at hc8
  refine kS (kQ (kb (kQ ?_)))
  have hq2:=hq0.same (H.2 q hKq)
  have hr2:=hr0.keep (fun g _ hg=>H.2 g hg)
  refine k_regionY (rX (fun _=>trivial) (fun c h=>by cases h) (wn U) U (mv_f U U) ?_)
  refine rX (fun _=>trivial) (fun c h=>by cases h) (wn U) U (mv_i U U) ?_
  refine rX (fun _=>trivial) (fun c h=>by cases h) (wn U) U (d_ldG U (hq2) U ta41 U) ?_
  refine rX (fun _=>trivial) (fun c h=>by cases h) (wn U) U (mv_i U U) ?_
  refine rX (fun _=>trivial) (fun c h=>by cases h) (wn U) U (d_iaB U (hr2) U U (q:=k - 1) (by omega) (by omega) tu41 ts5) ?_
  refine rX (fun _=>trivial) (fun c h=>by cases h) (wn U) U (d_ldB U (hr2) ((l_get (by omega))) U ta5) ?_
  refine r_yield (la:=[.int .i64 ((k - 1:Nat):Int),u8v (l.getD (k - 1) 0)]) (fun _=>trivial) rfl (wn rfl) rfl rfl rfl (by show [Value.int .i64 ((k:Int) - 1),u8v (l.getD (k - 1) 0)]=_;rw [show ((k:Int) - 1)=((k - 1:Nat):Int) by omega]) (hY _ (k - 1,l.getD (k - 1) 0) W H.1 (by rw [len_backL];omega)) (fun e W' q=>by rcases q with ⟨rfl,_⟩|⟨rfl,_⟩ <;> exact ⟨_,rfl⟩) ?_
  intro bb W hR2
  refine rX (fun _=>trivial) (fun c h=>by cases h) (wn U) U (d_not U U) ?_
  refine r_nil (kC U (fun hc18=>?_) (fun hc18=>?_))
  ·skip
   refine kx ?_
   have h3:=hR2.resolve_left (fun h=>by cases h.1;simp at hc18)
   exact q_ret0 U ⟨⟨_,U⟩,.inr ⟨_,trivial,h3.2⟩⟩
  ·skip
   refine kS (kn (zE (kr (sMi U (sR (d_sub U U U (by omega)) (sAi U (ln (kn (kY ?_)))))))))
   obtain ⟨_,hJ2,hK2⟩:=hR2.resolve_right (fun h=>by cases h.1;simp at hc18)
   have hH:J (backL l (l.length - (k - 1))) W∧KeepG K0 W0 W:=⟨by rw [backL_succ (by omega) hk];exact hJ2,fun g hg=>(hK2 g hg).trans (H.2 g hg)⟩
   refine ⟨_,_,_,?_,U,?_,?_,⟨k - 1,U,U,by omega,hH⟩⟩
   ·omega
   ·with_reducible repeat first|exact .refl|refine .f ?_ ?_ ?_;kernel_rfl;kernel_rfl|refine .u ?_ ?_;kernel_rfl
   ·refine ⟨?_,trivial⟩
    ·exact vi (by omega)
 ·first|(replace hc8:=of_decide_eq_false hc8)|simp at hc8
  refine ke (xt (xt ?_))
  refine xH (kn ?_)
  obtain rfl:k=0:=by omega
  exact q_end0 U ⟨⟨_,U⟩,.inl ⟨_,U,H.1⟩⟩

theorem backward {v:Value} (w:World) {A:Option Addr} {m c:Nat} (hv:v=.slice A m c):Calls Tryz.prog 157 [v].toArray w (Ret (fun v' w'=>∃q,v'=.func (.func 163) #[] [.pointer (some ⟨q,0,none⟩)].toArray∧New w w' (Fact.blk q [v] 41))):=by
 subst hv
 refine kE (l:=[_]) Tryz.func157 U U ?_
 have H:=St.start nT w
 refine kR (sf (ebx (vs:=[.slice A m c]) U U H ?_))
 clear H;intro g1 W H
 refine sR (d_asg U U) (lkR (sR (d_mkf U U U) (sR (as_f U U) (ln (kx ?_)))))
 exact qr (v:=.func _ _ _) U U ⟨_,U,g1,U,H.give⟩

def acc (xs:List (Nat × UInt8)):Nat:=xs.foldl (fun a x=>a*256+x.2.toNat) 0
theorem acc_snoc {xs:List (Nat × UInt8)} {x:Nat × UInt8}:acc (xs++[x])=acc xs*256+x.2.toNat:=by simp [acc]
theorem acc_lt0:∀(xs:List (Nat × UInt8)) (a:Nat),xs.foldl (fun a x=>a*256+x.2.toNat) a<(a+1)*256 ^ xs.length
 | [],a=>by simp
 | x::xs,a=>by
  have h:=acc_lt0 xs (a*256+x.2.toNat)
  have hx:=x.2.toNat_lt
  have h2:(a*256+x.2.toNat+1)*256 ^ xs.length<=(a*256+256)*256 ^ xs.length:=Nat.mul_le_mul_right _ (by omega)
  rw [List.foldl_cons,List.length_cons,Nat.pow_succ]
  have h3:(a+1)*(256 ^ xs.length*256)=(a*256+256)*256 ^ xs.length:=by
   rw [Nat.mul_comm (256 ^ xs.length) 256,←Nat.mul_assoc,Nat.add_mul,Nat.one_mul]
  omega
theorem acc_lt {xs:List (Nat × UInt8)} (h:xs.length<=7):acc xs<72057594037927936:=by
 have h1:=acc_lt0 xs 0
 have h2:(256:Nat) ^ xs.length<=256 ^ 7:=Nat.pow_le_pow_right (by decide) h
 unfold acc
 omega
theorem acc_back {l:List UInt8}:∀{k:Nat},k<=l.length->acc (backL l k)=Pk.ofLe (l.drop (l.length - k))
 | 0,_=>by rw [Nat.sub_zero,Pk.ofLe_nil (Nat.le_refl _)];rfl
 | k+1,h=>by
  have e:backL l (k+1)=backL l k++[(l.length - 1 - k,l.getD (l.length - 1 - k) 0)]:=by unfold backL;rw [List.range_succ,List.map_append,List.map_singleton]
  rw [e,acc_snoc,acc_back (by omega),Pk.ofLe_drop (j:=l.length - (k+1)) (by omega),show l.length - 1 - k=l.length - (k+1) by omega,show l.length - (k+1)+1=l.length - k by omega]
  dsimp only
  omega
theorem acc_all {l:List UInt8}:acc (backL l l.length)=Pk.ofLe l:=by rw [acc_back (Nat.le_refl _),Nat.sub_self,List.drop_zero]

theorem numE {A0:Option Addr} {n0 c0 r:Nat} {Y:List UInt8->Prop} {v:Value} {b:List UInt8} {s:RS} (w:World) {s1 s2:RS} {b0:UInt8} {l:List UInt8} (hR:(RdYB 5 134 r A0 n0 c0 Y v b s).p w) (hG:Gat w 0 formsC) (hT:¬RdT r A0 n0 c0 0) (he:s.2=0) (h1:Pk.next 1 s=([b0],s1)) (h1e:s1.2=0) (hw:Pk.wide b0≠0) (h2:Pk.next (Pk.wide b0) s1=(l,s2)) (h2e:s2.2=0) (hu:9223372036854775808<=Pk.ofLe l):Calls Tryz.prog 117 [.pointer (some ⟨r,0,none⟩)].toArray w (Pan (why 15) (fun w'=>(∃s',(RdYP 5 134 r A0 n0 c0 Y s').p w')∧Fr (RdT r A0 n0 c0) w w')):=by
 refine k_enterM (l:=[_]) Tryz.func117 U U ?_
 have H:=St.begin (f:=RdYB 5 134 r A0 n0 c0 Y v b s) hR (RdB.lt hR)
 have hw8:Pk.wide b0<=8:=by rcases Pk.wide_of (c:=b0) with h|h|h|h <;> omega
 have hll:l.length<=8:=by have:=Pk.next_len (n:=Pk.wide b0) (s:=s1);rw [h2] at this;simp only at this;omega
 refine kR (sAi U (lkR (sMp U (sf (ecl Tryz.func115 U U (takeE _ h1 (by rfl) (H.get (f:=RdYB 5 134 r A0 n0 c0 Y v b s)) he h1e) ?_)))))
 rintro _ W ⟨hp1,hf1⟩
 obtain ⟨B1,d1,rfl⟩:=RdB.form hp1
 replace H:=H.mut (f:=RdYB 5 134 r A0 n0 c0 Y v b s) (f':=RdYB 5 134 r A0 n0 c0 Y (.slice B1 (List.length [b0]) d1) [b0] s1) hf1 hp1 (fun _ h=>h)
 clear hp1 hf1
 refine sR (d_iaB U (RdB.rd (H.get (f:=RdYB 5 134 r A0 n0 c0 Y (.slice B1 (List.length [b0]) d1) [b0] s1))) U U (q:=0) U (by exact Nat.zero_lt_one) tu41 ts5) ?_
 refine sR (d_ldB U (RdB.rd (H.get (f:=RdYB 5 134 r A0 n0 c0 Y (.slice B1 (List.length [b0]) d1) [b0] s1))) ((U:[b0][0]?=some b0)) U ta5) (sf (eal [.int .u8 0] tz5 H ?_))
 clear H;intro g3 W H
 refine sf (e_sto (wn U) U U U U U ts5 U H U ?_)
 clear H;intro W H
 refine lkR (sR (d_arrA U U tu107 ts106) (sR (d_mkf U U U) (sf (eI Tryz.func155 U U (indexF _ (H.gatT hG hT) (gat_of H.blk)) H ?_))))
 clear H;intro W H
 refine sAi U (ln (kQ (kQ ?_)))
 obtain ⟨j,hj1,hj2,hj3,hj4⟩:=idx_pos hw
 refine kr (sMi U (sLt U U (ln (kF U (by rw [hj1];simp) ?_))))
 refine kS (kR (sf (eal [.int .u64 0] tz104 H ?_)))
 clear H;intro g5 W H
 refine sf (e_sto (wn U) U U U U U ts104 U H U ?_)
 clear H;intro W H
 refine ln (kQ (kR (sMp U (sMi U (sR (d_iaA U U U (q:=j) hj1 tu107 hj2 ts106) (sFa U tf106_1 (sR (d_ldG U (H.gatT hG hT) U ta3 hj3) (sf (ecl Tryz.func115 U U (takeE _ h2 (by rfl) (H.get (f:=RdYB 5 134 r A0 n0 c0 Y (.slice B1 (List.length [b0]) d1) [b0] s1)) h1e h2e) ?_)))))))))
 rintro _ W ⟨hp2,hf2⟩
 obtain ⟨B2,d2,rfl⟩:=RdB.form hp2
 replace H:=H.mut (f:=RdYB 5 134 r A0 n0 c0 Y (.slice B1 (List.length [b0]) d1) [b0] s1) (f':=RdYB 5 134 r A0 n0 c0 Y (.slice B2 (List.length l) d2) l s2) hf2 hp2 (fun _ h=>h)
 clear hp2 hf2
 refine sf (ecl Tryz.func157 U U (backward (v:=(.slice B2 (List.length l) d2)) _ U) ?_)
 rintro _ W ⟨q,rfl,hn⟩
 replace H:=H.new hn
 clear hn
 refine ln (kb (k_rangeF (α:=Nat × UInt8) (e0:=fun x=>.int .i64 (x.1:Int)) (e1:=fun x=>u8v x.2) (K0:=(fun g=>g=q∨RdT r A0 n0 c0 g)) (fun pre=>[Fact.blk q [(.slice B2 (List.length l) d2)] 41,Fact.blk g5 [.int .u64 (acc pre:Int)] 104,Fact.blk g3 [u8v b0] 5,RdYB 5 134 r A0 n0 c0 Y (.slice B2 (List.length l) d2) l s2]) 7 rfl Tryz.func163 rfl rfl (back_stops W (gat_of H.blk) ((RdB.rdT (H.get (f:=RdYB 5 134 r A0 n0 c0 Y (.slice B2 (List.length l) d2) l s2))).mono (fun g _ h=>.inr h)) (.inl rfl) (by omega)) H (by rintro g (rfl|hg);exact blk_lt (H.blk (g:=_));exact RdB.lt (H.get (f:=RdYB 5 134 r A0 n0 c0 Y (.slice B2 (List.length l) d2) l s2)) g hg) (fun _=>rfl) ?_ ?_ ?_))
 ·intro l x W' K hK'
  refine kb_region (rX (fun _=>trivial) (fun c h=>by cases h) (wn U) U (d_asg U U) ?_)
  exact r_nil hK'
 ·intro _ pre x W H hlen
  have hap:=List.pairwise_cons.1 H.apart
  have hap2:=List.pairwise_cons.1 hap.2
  have hq5:∀g,(g=q∨RdT r A0 n0 c0 g)->¬g=g5:=by
   rintro g (rfl|hg) e
   ·exact hap.1 _ (.head _) g U e
   ·exact hap2.1 _ (.tail _ (.head _)) g e hg
  have hqs:∀g,(g=q∨RdT r A0 n0 c0 g)->g<W.heap.size:=by
   rintro g (rfl|hg)
   ·exact blk_lt (H.blk (g:=_))
   ·exact RdB.lt (H.get (f:=RdYB 5 134 r A0 n0 c0 Y (.slice B2 (List.length l) d2) l s2)) g hg
  have ha:=acc_lt (xs:=pre) (by omega)
  refine wpIn_block (kb_region (rX (fun _=>trivial) (fun c h=>by cases h) (wn U) U (d_ld U H U ta104 U) ?_))
  refine rX (fun _=>trivial) (fun c h=>by cases h) (wn U) U (d_shl (m:=8) (c:=(acc pre:Int)*256) U U U U (by decide) (IntWalk.u64_in _ (by omega))) ?_
  refine rX (fun _=>trivial) (fun c h=>by cases h) (wn U) U (mv_i U U) ?_
  refine rX (fun _=>trivial) (fun c h=>by cases h) (wn U) U (d_conv U U (by rw [tu5];rfl) tu104 (IntWalk.u64_in _ (by have:=x.2.toNat_lt;omega))) ?_
  refine rX (fun _=>trivial) (fun c h=>by cases h) (wn U) U (d_bitW U U U (or_u64 ha)) ?_
  refine r_sto (fun _=>trivial) (wn U) U U U U U ts104 U H ?_
  clear H;intro W2 H hFr hKO
  refine r_nil ?_
  rw [←acc_snoc] at H
  exact ⟨U,hKO,fun g hg=>hFr.block g (hqs g hg) (hq5 g hg),H⟩
 clear H;intro D xs W hS H
 subst hS
 rw [acc_all] at H
 refine kn (zE (kR (sR (d_ld U H U ta104 U) (sLt U U (sf (e_callP (wn U) U Tryz.func153 U U U (mustBad _ _ (by simp;omega)) ?_))))))
 intro W hb
 replace H:=H.below hb
 exact q_panM (P:=Tryz.prog) (fn:=Tryz.f117) H (fun W H=>⟨U,⟨_,RdB.toP (H.get (f:=RdYB 5 134 r A0 n0 c0 Y (.slice B2 (List.length l) d2) l s2))⟩,H.fr⟩)

theorem numF {A0:Option Addr} {n0 c0 r:Nat} {Y:List UInt8->Prop} {v:Value} {b:List UInt8} {s:RS} (w:World) {s1 s2:RS} {b0:UInt8} {l:List UInt8} (hR:(RdYB 5 134 r A0 n0 c0 Y v b s).p w) (hG:Gat w 0 formsC) (hT:¬RdT r A0 n0 c0 0) (he:s.2=0) (h1:Pk.next 1 s=([b0],s1)) (h1e:s1.2=0) (hw:Pk.wide b0≠0) (h2:Pk.next (Pk.wide b0) s1=(l,s2)) (h2e:s2.2=0) (hu:Pk.ofLe l<9223372036854775808) (hf:Pk.ofLe l<Pk.least b0):Calls Tryz.prog 117 [.pointer (some ⟨r,0,none⟩)].toArray w (Pan (why 10) (fun w'=>(∃s',(RdYP 5 134 r A0 n0 c0 Y s').p w')∧Fr (RdT r A0 n0 c0) w w')):=by
 refine k_enterM (l:=[_]) Tryz.func117 U U ?_
 have H:=St.begin (f:=RdYB 5 134 r A0 n0 c0 Y v b s) hR (RdB.lt hR)
 have hw8:Pk.wide b0<=8:=by rcases Pk.wide_of (c:=b0) with h|h|h|h <;> omega
 have hll:l.length<=8:=by have:=Pk.next_len (n:=Pk.wide b0) (s:=s1);rw [h2] at this;simp only at this;omega
 refine kR (sAi U (lkR (sMp U (sf (ecl Tryz.func115 U U (takeE _ h1 (by rfl) (H.get (f:=RdYB 5 134 r A0 n0 c0 Y v b s)) he h1e) ?_)))))
 rintro _ W ⟨hp1,hf1⟩
 obtain ⟨B1,d1,rfl⟩:=RdB.form hp1
 replace H:=H.mut (f:=RdYB 5 134 r A0 n0 c0 Y v b s) (f':=RdYB 5 134 r A0 n0 c0 Y (.slice B1 (List.length [b0]) d1) [b0] s1) hf1 hp1 (fun _ h=>h)
 clear hp1 hf1
 refine sR (d_iaB U (RdB.rd (H.get (f:=RdYB 5 134 r A0 n0 c0 Y (.slice B1 (List.length [b0]) d1) [b0] s1))) U U (q:=0) U (by exact Nat.zero_lt_one) tu41 ts5) ?_
 refine sR (d_ldB U (RdB.rd (H.get (f:=RdYB 5 134 r A0 n0 c0 Y (.slice B1 (List.length [b0]) d1) [b0] s1))) ((U:[b0][0]?=some b0)) U ta5) (sf (eal [.int .u8 0] tz5 H ?_))
 clear H;intro g3 W H
 refine sf (e_sto (wn U) U U U U U ts5 U H U ?_)
 clear H;intro W H
 refine lkR (sR (d_arrA U U tu107 ts106) (sR (d_mkf U U U) (sf (eI Tryz.func155 U U (indexF _ (H.gatT hG hT) (gat_of H.blk)) H ?_))))
 clear H;intro W H
 refine sAi U (ln (kQ (kQ ?_)))
 obtain ⟨j,hj1,hj2,hj3,hj4⟩:=idx_pos hw
 refine kr (sMi U (sLt U U (ln (kF U (by rw [hj1];simp) ?_))))
 refine kS (kR (sf (eal [.int .u64 0] tz104 H ?_)))
 clear H;intro g5 W H
 refine sf (e_sto (wn U) U U U U U ts104 U H U ?_)
 clear H;intro W H
 refine ln (kQ (kR (sMp U (sMi U (sR (d_iaA U U U (q:=j) hj1 tu107 hj2 ts106) (sFa U tf106_1 (sR (d_ldG U (H.gatT hG hT) U ta3 hj3) (sf (ecl Tryz.func115 U U (takeE _ h2 (by rfl) (H.get (f:=RdYB 5 134 r A0 n0 c0 Y (.slice B1 (List.length [b0]) d1) [b0] s1)) h1e h2e) ?_)))))))))
 rintro _ W ⟨hp2,hf2⟩
 obtain ⟨B2,d2,rfl⟩:=RdB.form hp2
 replace H:=H.mut (f:=RdYB 5 134 r A0 n0 c0 Y (.slice B1 (List.length [b0]) d1) [b0] s1) (f':=RdYB 5 134 r A0 n0 c0 Y (.slice B2 (List.length l) d2) l s2) hf2 hp2 (fun _ h=>h)
 clear hp2 hf2
 refine sf (ecl Tryz.func157 U U (backward (v:=(.slice B2 (List.length l) d2)) _ U) ?_)
 rintro _ W ⟨q,rfl,hn⟩
 replace H:=H.new hn
 clear hn
 refine ln (kb (k_rangeF (α:=Nat × UInt8) (e0:=fun x=>.int .i64 (x.1:Int)) (e1:=fun x=>u8v x.2) (K0:=(fun g=>g=q∨RdT r A0 n0 c0 g)) (fun pre=>[Fact.blk q [(.slice B2 (List.length l) d2)] 41,Fact.blk g5 [.int .u64 (acc pre:Int)] 104,Fact.blk g3 [u8v b0] 5,RdYB 5 134 r A0 n0 c0 Y (.slice B2 (List.length l) d2) l s2]) 7 rfl Tryz.func163 rfl rfl (back_stops W (gat_of H.blk) ((RdB.rdT (H.get (f:=RdYB 5 134 r A0 n0 c0 Y (.slice B2 (List.length l) d2) l s2))).mono (fun g _ h=>.inr h)) (.inl rfl) (by omega)) H (by rintro g (rfl|hg);exact blk_lt (H.blk (g:=_));exact RdB.lt (H.get (f:=RdYB 5 134 r A0 n0 c0 Y (.slice B2 (List.length l) d2) l s2)) g hg) (fun _=>rfl) ?_ ?_ ?_))
 ·intro l x W' K hK'
  refine kb_region (rX (fun _=>trivial) (fun c h=>by cases h) (wn U) U (d_asg U U) ?_)
  exact r_nil hK'
 ·intro _ pre x W H hlen
  have hap:=List.pairwise_cons.1 H.apart
  have hap2:=List.pairwise_cons.1 hap.2
  have hq5:∀g,(g=q∨RdT r A0 n0 c0 g)->¬g=g5:=by
   rintro g (rfl|hg) e
   ·exact hap.1 _ (.head _) g U e
   ·exact hap2.1 _ (.tail _ (.head _)) g e hg
  have hqs:∀g,(g=q∨RdT r A0 n0 c0 g)->g<W.heap.size:=by
   rintro g (rfl|hg)
   ·exact blk_lt (H.blk (g:=_))
   ·exact RdB.lt (H.get (f:=RdYB 5 134 r A0 n0 c0 Y (.slice B2 (List.length l) d2) l s2)) g hg
  have ha:=acc_lt (xs:=pre) (by omega)
  refine wpIn_block (kb_region (rX (fun _=>trivial) (fun c h=>by cases h) (wn U) U (d_ld U H U ta104 U) ?_))
  refine rX (fun _=>trivial) (fun c h=>by cases h) (wn U) U (d_shl (m:=8) (c:=(acc pre:Int)*256) U U U U (by decide) (IntWalk.u64_in _ (by omega))) ?_
  refine rX (fun _=>trivial) (fun c h=>by cases h) (wn U) U (mv_i U U) ?_
  refine rX (fun _=>trivial) (fun c h=>by cases h) (wn U) U (d_conv U U (by rw [tu5];rfl) tu104 (IntWalk.u64_in _ (by have:=x.2.toNat_lt;omega))) ?_
  refine rX (fun _=>trivial) (fun c h=>by cases h) (wn U) U (d_bitW U U U (or_u64 ha)) ?_
  refine r_sto (fun _=>trivial) (wn U) U U U U U ts104 U H ?_
  clear H;intro W2 H hFr hKO
  refine r_nil ?_
  rw [←acc_snoc] at H
  exact ⟨U,hKO,fun g hg=>hFr.block g (hqs g hg) (hq5 g hg),H⟩
 clear H;intro D xs W hS H
 subst hS
 rw [acc_all] at H
 refine kn (zE (kR (sR (d_ld U H U ta104 U) (sLt U U (sf (eI Tryz.func153 U U (mustOk _ _ (by simp;omega)) H ?_))))))
 clear H;intro W H
 refine ln (kQ (k_drawP 0 [(0,true),(1,true),(2,true),(3,true),(4,true),(5,true),(6,false)] _ (by kernel_rfl) (by kernel_rfl) (by kernel_rfl) H (.refl _) ?_))
 clear H;intro W H
 refine cR U (fun W H=>d_ld U H U ta104 U) (cMi U U (cR U (fun W H=>d_iaA U U U (q:=j) hj1 tu107 hj2 ts106) (cFa U U tf106_2 (cR U (fun W H=>d_ldG U (H.gatT hG hT) U ta104 hj4) (cR U (fun W H=>d_ge U U U) (cf U (e_callP (wn U) U Tryz.func153 U U U (mustBad _ _ (by simp;omega)) ?_)))))))
 intro W hb
 replace H:=H.below hb
 exact p_lo (fun a hd _=>q_panMa (P:=Tryz.prog) (fn:=Tryz.f117) hd H (fun W H=>⟨U,⟨_,RdB.toP (H.get (f:=RdYB 5 134 r A0 n0 c0 Y (.slice B2 (List.length l) d2) l s2))⟩,H.fr⟩))

theorem numG {A0:Option Addr} {n0 c0 r:Nat} {Y:List UInt8->Prop} {v:Value} {b:List UInt8} {s:RS} (w:World) {s1 s2:RS} {b0:UInt8} {l:List UInt8} (hR:(RdYB 5 134 r A0 n0 c0 Y v b s).p w) (hG:Gat w 0 formsC) (hT:¬RdT r A0 n0 c0 0) (he:s.2=0) (h1:Pk.next 1 s=([b0],s1)) (h1e:s1.2=0) (hw:Pk.wide b0≠0) (h2:Pk.next (Pk.wide b0) s1=(l,s2)) (h2e:s2.2=0) (hu:Pk.ofLe l<9223372036854775808) (hf:¬Pk.ofLe l<Pk.least b0):Calls Tryz.prog 117 [.pointer (some ⟨r,0,none⟩)].toArray w (Ret (fun v' w'=>v'=.int .i64 (Pk.ofLe l:Int)∧(RdYP 5 134 r A0 n0 c0 Y s2).p w'∧Fr (RdT r A0 n0 c0) w w')):=by
 refine k_enterM (l:=[_]) Tryz.func117 U U ?_
 have H:=St.begin (f:=RdYB 5 134 r A0 n0 c0 Y v b s) hR (RdB.lt hR)
 have hw8:Pk.wide b0<=8:=by rcases Pk.wide_of (c:=b0) with h|h|h|h <;> omega
 have hll:l.length<=8:=by have:=Pk.next_len (n:=Pk.wide b0) (s:=s1);rw [h2] at this;simp only at this;omega
 refine kR (sAi U (lkR (sMp U (sf (ecl Tryz.func115 U U (takeE _ h1 (by rfl) (H.get (f:=RdYB 5 134 r A0 n0 c0 Y v b s)) he h1e) ?_)))))
 rintro _ W ⟨hp1,hf1⟩
 obtain ⟨B1,d1,rfl⟩:=RdB.form hp1
 replace H:=H.mut (f:=RdYB 5 134 r A0 n0 c0 Y v b s) (f':=RdYB 5 134 r A0 n0 c0 Y (.slice B1 (List.length [b0]) d1) [b0] s1) hf1 hp1 (fun _ h=>h)
 clear hp1 hf1
 refine sR (d_iaB U (RdB.rd (H.get (f:=RdYB 5 134 r A0 n0 c0 Y (.slice B1 (List.length [b0]) d1) [b0] s1))) U U (q:=0) U (by exact Nat.zero_lt_one) tu41 ts5) ?_
 refine sR (d_ldB U (RdB.rd (H.get (f:=RdYB 5 134 r A0 n0 c0 Y (.slice B1 (List.length [b0]) d1) [b0] s1))) ((U:[b0][0]?=some b0)) U ta5) (sf (eal [.int .u8 0] tz5 H ?_))
 clear H;intro g3 W H
 refine sf (e_sto (wn U) U U U U U ts5 U H U ?_)
 clear H;intro W H
 refine lkR (sR (d_arrA U U tu107 ts106) (sR (d_mkf U U U) (sf (eI Tryz.func155 U U (indexF _ (H.gatT hG hT) (gat_of H.blk)) H ?_))))
 clear H;intro W H
 refine sAi U (ln (kQ (kQ ?_)))
 obtain ⟨j,hj1,hj2,hj3,hj4⟩:=idx_pos hw
 refine kr (sMi U (sLt U U (ln (kF U (by rw [hj1];simp) ?_))))
 refine kS (kR (sf (eal [.int .u64 0] tz104 H ?_)))
 clear H;intro g5 W H
 refine sf (e_sto (wn U) U U U U U ts104 U H U ?_)
 clear H;intro W H
 refine ln (kQ (kR (sMp U (sMi U (sR (d_iaA U U U (q:=j) hj1 tu107 hj2 ts106) (sFa U tf106_1 (sR (d_ldG U (H.gatT hG hT) U ta3 hj3) (sf (ecl Tryz.func115 U U (takeE _ h2 (by rfl) (H.get (f:=RdYB 5 134 r A0 n0 c0 Y (.slice B1 (List.length [b0]) d1) [b0] s1)) h1e h2e) ?_)))))))))
 rintro _ W ⟨hp2,hf2⟩
 obtain ⟨B2,d2,rfl⟩:=RdB.form hp2
 replace H:=H.mut (f:=RdYB 5 134 r A0 n0 c0 Y (.slice B1 (List.length [b0]) d1) [b0] s1) (f':=RdYB 5 134 r A0 n0 c0 Y (.slice B2 (List.length l) d2) l s2) hf2 hp2 (fun _ h=>h)
 clear hp2 hf2
 refine sf (ecl Tryz.func157 U U (backward (v:=(.slice B2 (List.length l) d2)) _ U) ?_)
 rintro _ W ⟨q,rfl,hn⟩
 replace H:=H.new hn
 clear hn
 refine ln (kb (k_rangeF (α:=Nat × UInt8) (e0:=fun x=>.int .i64 (x.1:Int)) (e1:=fun x=>u8v x.2) (K0:=(fun g=>g=q∨RdT r A0 n0 c0 g)) (fun pre=>[Fact.blk q [(.slice B2 (List.length l) d2)] 41,Fact.blk g5 [.int .u64 (acc pre:Int)] 104,Fact.blk g3 [u8v b0] 5,RdYB 5 134 r A0 n0 c0 Y (.slice B2 (List.length l) d2) l s2]) 7 rfl Tryz.func163 rfl rfl (back_stops W (gat_of H.blk) ((RdB.rdT (H.get (f:=RdYB 5 134 r A0 n0 c0 Y (.slice B2 (List.length l) d2) l s2))).mono (fun g _ h=>.inr h)) (.inl rfl) (by omega)) H (by rintro g (rfl|hg);exact blk_lt (H.blk (g:=_));exact RdB.lt (H.get (f:=RdYB 5 134 r A0 n0 c0 Y (.slice B2 (List.length l) d2) l s2)) g hg) (fun _=>rfl) ?_ ?_ ?_))
 ·intro l x W' K hK'
  refine kb_region (rX (fun _=>trivial) (fun c h=>by cases h) (wn U) U (d_asg U U) ?_)
  exact r_nil hK'
 ·intro _ pre x W H hlen
  have hap:=List.pairwise_cons.1 H.apart
  have hap2:=List.pairwise_cons.1 hap.2
  have hq5:∀g,(g=q∨RdT r A0 n0 c0 g)->¬g=g5:=by
   rintro g (rfl|hg) e
   ·exact hap.1 _ (.head _) g U e
   ·exact hap2.1 _ (.tail _ (.head _)) g e hg
  have hqs:∀g,(g=q∨RdT r A0 n0 c0 g)->g<W.heap.size:=by
   rintro g (rfl|hg)
   ·exact blk_lt (H.blk (g:=_))
   ·exact RdB.lt (H.get (f:=RdYB 5 134 r A0 n0 c0 Y (.slice B2 (List.length l) d2) l s2)) g hg
  have ha:=acc_lt (xs:=pre) (by omega)
  refine wpIn_block (kb_region (rX (fun _=>trivial) (fun c h=>by cases h) (wn U) U (d_ld U H U ta104 U) ?_))
  refine rX (fun _=>trivial) (fun c h=>by cases h) (wn U) U (d_shl (m:=8) (c:=(acc pre:Int)*256) U U U U (by decide) (IntWalk.u64_in _ (by omega))) ?_
  refine rX (fun _=>trivial) (fun c h=>by cases h) (wn U) U (mv_i U U) ?_
  refine rX (fun _=>trivial) (fun c h=>by cases h) (wn U) U (d_conv U U (by rw [tu5];rfl) tu104 (IntWalk.u64_in _ (by have:=x.2.toNat_lt;omega))) ?_
  refine rX (fun _=>trivial) (fun c h=>by cases h) (wn U) U (d_bitW U U U (or_u64 ha)) ?_
  refine r_sto (fun _=>trivial) (wn U) U U U U U ts104 U H ?_
  clear H;intro W2 H hFr hKO
  refine r_nil ?_
  rw [←acc_snoc] at H
  exact ⟨U,hKO,fun g hg=>hFr.block g (hqs g hg) (hq5 g hg),H⟩
 clear H;intro D xs W hS H
 subst hS
 rw [acc_all] at H
 refine kn (zE (kR (sR (d_ld U H U ta104 U) (sLt U U (sf (eI Tryz.func153 U U (mustOk _ _ (by simp;omega)) H ?_))))))
 clear H;intro W H
 refine ln (kQ (k_drawP 0 [(0,true),(1,true),(2,true),(3,true),(4,true),(5,true),(6,false)] _ (by kernel_rfl) (by kernel_rfl) (by kernel_rfl) H (.refl _) ?_))
 clear H;intro W H
 refine cR U (fun W H=>d_ld U H U ta104 U) (cMi U U (cR U (fun W H=>d_iaA U U U (q:=j) hj1 tu107 hj2 ts106) (cFa U U tf106_2 (cR U (fun W H=>d_ldG U (H.gatT hG hT) U ta104 hj4) (cR U (fun W H=>d_ge U U U) (cf U (eI Tryz.func153 U U (mustOk _ _ (by simp;omega)) H ?_)))))))
 clear H;intro W H
 refine ⟨H.sb,?_⟩
 refine c_nilP (kR (sR (d_ld U H U ta104 U) (sR (d_conv U U (by rw [tu104];rfl) tu3 (IntWalk.i64_in _ (by omega))) ?_)))
 refine sAi U (ln (kx ?_))
 exact q_retM (P:=Tryz.prog) (fn:=Tryz.f117) (v:=.int .i64 _) U U H (fun W H=>⟨_,U,U,RdB.toP (H.get (f:=RdYB 5 134 r A0 n0 c0 Y (.slice B2 (List.length l) d2) l s2)),H.fr⟩)

theorem number {A0:Option Addr} {n0 c0 r:Nat} {Y:List UInt8->Prop} {v:Value} {b:List UInt8} {s:RS} (w:World) (hR:(RdYB 5 134 r A0 n0 c0 Y v b s).p w) (hG:Gat w 0 formsC) (hT:¬RdT r A0 n0 c0 0) (he:s.2=0):(((Pk.rInt s).2.2=0->Calls Tryz.prog 117 [.pointer (some ⟨r,0,none⟩)].toArray w (Ret (fun v' w'=>v'=.int .i64 ((Pk.rInt s).1:Int)∧(RdYP 5 134 r A0 n0 c0 Y (Pk.rInt s).2).p w'∧Fr (RdT r A0 n0 c0) w w'))) ∧
  ((Pk.rInt s).2.2≠0->(Pk.rInt s)=(0,([],(Pk.rInt s).2.2))∧Calls Tryz.prog 117 [.pointer (some ⟨r,0,none⟩)].toArray w (Pan (why (Pk.rInt s).2.2) (fun w'=>(∃s',(RdYP 5 134 r A0 n0 c0 Y s').p w')∧Fr (RdT r A0 n0 c0) w w')))):=by
 rcases h1:Pk.next 1 s with ⟨l1,s1⟩
 by_cases h1e:s1.2=0
 ·have hl1:=(Pk.next_eq h1).1 h1e
  obtain ⟨b0,rfl⟩:∃b0,l1=[b0]:=by
   match l1,hl1 with
   | [b0],_=>exact ⟨b0,rfl⟩
  by_cases hw:Pk.wide b0=0
  ·have e:Pk.rInt s=(b0.toNat,s1):=by unfold Pk.rInt;rw [h1];simp only [hw,if_true]
   rw [e]
   exact ⟨fun _=>numC w hR hG hT he h1 h1e hw,fun h=>absurd h1e h⟩
  ·rcases h2:Pk.next (Pk.wide b0) s1 with ⟨l,s2⟩
   by_cases h2e:s2.2=0
   ·rcases Nat.lt_or_ge (Pk.ofLe l) 9223372036854775808 with hu|hu
    ·by_cases hf:Pk.ofLe l<Pk.least b0
     ·have e:Pk.rInt s=(0,([],10)):=by unfold Pk.rInt;rw [h1];simp only [hw,if_false,h2,h2e,ne_eq,not_true_eq_false];unfold Pk.num;rw [if_neg (by omega),if_pos hf]
      rw [e]
      exact ⟨fun h=>absurd h (by decide),fun _=>⟨U,numF w hR hG hT he h1 h1e hw h2 h2e hu hf⟩⟩
     ·have e:Pk.rInt s=(Pk.ofLe l,s2):=by unfold Pk.rInt;rw [h1];simp only [hw,if_false,h2,h2e,ne_eq,not_true_eq_false];unfold Pk.num;rw [if_neg (by omega),if_neg hf]
      rw [e]
      exact ⟨fun _=>numG w hR hG hT he h1 h1e hw h2 h2e hu hf,fun h=>absurd h2e h⟩
    ·have e:Pk.rInt s=(0,([],15)):=by unfold Pk.rInt;rw [h1];simp only [hw,if_false,h2,h2e,ne_eq,not_true_eq_false];unfold Pk.num;rw [if_pos hu]
     rw [e]
     exact ⟨fun h=>absurd h (by decide),fun _=>⟨U,numE w hR hG hT he h1 h1e hw h2 h2e hu⟩⟩
   ·have hs2:=((Pk.next_s h2 h1e).2 h2e).2
    have e:Pk.rInt s=(0,s2):=by unfold Pk.rInt;rw [h1];simp only [hw,if_false,h2,h2e,ne_eq,not_false_eq_true,if_true]
    rw [e]
    have hd:=numD w hR hG hT he h1 h1e hw h2 h2e
    subst hs2
    exact ⟨fun h=>absurd h h2e,fun _=>⟨U,hd⟩⟩
 ·have hs1:=((Pk.next_s h1 he).2 h1e).2
  have hl1:=(Pk.next_eq h1).2 h1e
  obtain rfl:l1=[]:=List.eq_nil_of_length_eq_zero hl1
  have e:Pk.rInt s=(0,s1):=by unfold Pk.rInt;rw [h1]
  rw [e]
  have hd:=numA w hR hG hT he h1 h1e
  subst hs1
  exact ⟨fun h=>absurd h h1e,fun _=>⟨U,hd⟩⟩

theorem cntA {A0:Option Addr} {n0 c0 r:Nat} {Y:List UInt8->Prop} {v:Value} {b:List UInt8} {s:RS} (w:World) {m:Int} (hR:(RdYB 5 134 r A0 n0 c0 Y v b s).p w) (hG:Gat w 0 formsC) (hT:¬RdT r A0 n0 c0 0) (he:s.2=0) (hn:(Pk.rInt s).2.2≠0):Calls Tryz.prog 119 [.pointer (some ⟨r,0,none⟩),.int .i64 m].toArray w (Pan (why (Pk.rInt s).2.2) (fun w'=>(∃s',(RdYP 5 134 r A0 n0 c0 Y s').p w')∧Fr (RdT r A0 n0 c0) w w')):=by
 refine kE (l:=[_,_]) Tryz.func119 U U ?_
 have H:=St.begin (f:=RdYB 5 134 r A0 n0 c0 Y v b s) hR (RdB.lt hR)
 refine kR (sAi U (lkR (sMp U (sf (e_callP (wn U) U Tryz.func117 U U U ((number _ (H.get (f:=RdYB 5 134 r A0 n0 c0 Y v b s)) (H.gatT hG hT) hT he).2 hn).2 ?_)))))
 rintro W ⟨⟨s',hp⟩,hf⟩
 replace H:=H.mut (f:=RdYB 5 134 r A0 n0 c0 Y v b s) (f':=RdYP 5 134 r A0 n0 c0 Y s') hf hp (fun _ h=>h)
 exact ⟨U,U,⟨_,H.get (f:=RdYP 5 134 r A0 n0 c0 Y s')⟩,H.fr⟩

theorem cntB {A0:Option Addr} {n0 c0 r:Nat} {Y:List UInt8->Prop} {v:Value} {b:List UInt8} {s:RS} (w:World) {m:Int} (hR:(RdYB 5 134 r A0 n0 c0 Y v b s).p w) (hG:Gat w 0 formsC) (hT:¬RdT r A0 n0 c0 0) (he:s.2=0) (hn:(Pk.rInt s).2.2=0) (hm:m<((Pk.rInt s).1:Int)):Calls Tryz.prog 119 [.pointer (some ⟨r,0,none⟩),.int .i64 m].toArray w (Pan (why 3) (fun w'=>(∃s',(RdYP 5 134 r A0 n0 c0 Y s').p w')∧Fr (RdT r A0 n0 c0) w w')):=by
 refine kE (l:=[_,_]) Tryz.func119 U U ?_
 have H:=St.begin (f:=RdYB 5 134 r A0 n0 c0 Y v b s) hR (RdB.lt hR)
 refine kR (sAi U (lkR (sMp U (sf (ecl Tryz.func117 U U ((number _ (H.get (f:=RdYB 5 134 r A0 n0 c0 Y v b s)) (H.gatT hG hT) hT he).1 hn) ?_)))))
 rintro _ W ⟨rfl,hp,hf⟩
 replace H:=H.mut (f:=RdYB 5 134 r A0 n0 c0 Y v b s) (f':=RdYP 5 134 r A0 n0 c0 Y (Pk.rInt s).2) hf hp (fun _ h=>h)
 clear hp hf
 refine sAi U (lkR (sMi U (sMi U (sR (d_le U U U) (sf (e_callP (wn U) U Tryz.func153 U U U (mustBad _ _ (by simp;omega)) ?_))))))
 intro W hb
 replace H:=H.below hb
 exact ⟨U,U,⟨_,H.get (f:=RdYP 5 134 r A0 n0 c0 Y (Pk.rInt s).2)⟩,H.fr⟩

theorem cntC {A0:Option Addr} {n0 c0 r:Nat} {Y:List UInt8->Prop} {v:Value} {b:List UInt8} {s:RS} (w:World) {m:Int} (hR:(RdYB 5 134 r A0 n0 c0 Y v b s).p w) (hG:Gat w 0 formsC) (hT:¬RdT r A0 n0 c0 0) (he:s.2=0) (hn:(Pk.rInt s).2.2=0) (hm:¬m<((Pk.rInt s).1:Int)):Calls Tryz.prog 119 [.pointer (some ⟨r,0,none⟩),.int .i64 m].toArray w (Ret (fun v' w'=>v'=.int .i64 ((Pk.rInt s).1:Int)∧(RdYP 5 134 r A0 n0 c0 Y (Pk.rInt s).2).p w'∧Fr (RdT r A0 n0 c0) w w')):=by
 refine kE (l:=[_,_]) Tryz.func119 U U ?_
 have H:=St.begin (f:=RdYB 5 134 r A0 n0 c0 Y v b s) hR (RdB.lt hR)
 refine kR (sAi U (lkR (sMp U (sf (ecl Tryz.func117 U U ((number _ (H.get (f:=RdYB 5 134 r A0 n0 c0 Y v b s)) (H.gatT hG hT) hT he).1 hn) ?_)))))
 rintro _ W ⟨rfl,hp,hf⟩
 replace H:=H.mut (f:=RdYB 5 134 r A0 n0 c0 Y v b s) (f':=RdYP 5 134 r A0 n0 c0 Y (Pk.rInt s).2) hf hp (fun _ h=>h)
 clear hp hf
 refine sAi U (lkR (sMi U (sMi U (sR (d_le U U U) (sf (eI Tryz.func153 U U (mustOk _ _ (by simp;omega)) H ?_))))))
 clear H;intro W H
 refine lkR (sMi U (sAi U (ln (kx ?_))))
 exact qr (v:=.int _ _) U U ⟨_,U,U,H.get (f:=RdYP 5 134 r A0 n0 c0 Y (Pk.rInt s).2),H.fr⟩

theorem count {A0:Option Addr} {n0 c0 r:Nat} {Y:List UInt8->Prop} {v:Value} {b:List UInt8} {s:RS} (w:World) {m:Int} (hR:(RdYB 5 134 r A0 n0 c0 Y v b s).p w) (hG:Gat w 0 formsC) (hT:¬RdT r A0 n0 c0 0) (he:s.2=0):(((Pk.rC m s).2.2=0->Calls Tryz.prog 119 [.pointer (some ⟨r,0,none⟩),.int .i64 m].toArray w (Ret (fun v' w'=>v'=.int .i64 ((Pk.rC m s).1:Int)∧(RdYP 5 134 r A0 n0 c0 Y (Pk.rC m s).2).p w'∧Fr (RdT r A0 n0 c0) w w'))) ∧
  ((Pk.rC m s).2.2≠0->(Pk.rC m s)=(0,([],(Pk.rC m s).2.2))∧Calls Tryz.prog 119 [.pointer (some ⟨r,0,none⟩),.int .i64 m].toArray w (Pan (why (Pk.rC m s).2.2) (fun w'=>(∃s',(RdYP 5 134 r A0 n0 c0 Y s').p w')∧Fr (RdT r A0 n0 c0) w w')))):=by
 by_cases hn:(Pk.rInt s).2.2=0
 ·by_cases hm:m<((Pk.rInt s).1:Int)
  ·have e:Pk.rC m s=(0,([],3)):=by unfold Pk.rC;rw [if_pos ⟨hn,hm⟩]
   rw [e]
   exact ⟨fun h=>absurd h (by decide),fun _=>⟨U,cntB w hR hG hT he hn hm⟩⟩
  ·have e:Pk.rC m s=Pk.rInt s:=by unfold Pk.rC;rw [if_neg (fun h=>hm h.2)]
   rw [e]
   exact ⟨fun _=>cntC w hR hG hT he hn hm,fun h=>absurd hn h⟩
 ·have e:Pk.rC m s=Pk.rInt s:=by unfold Pk.rC;rw [if_neg (fun h=>hn h.1)]
  rw [e]
  exact ⟨fun h=>absurd h hn,fun _=>⟨((number w hR hG hT he).2 hn).1,cntA w hR hG hT he hn⟩⟩

theorem oneCount {A0:Option Addr} {n0 c0 r:Nat} {Y:List UInt8->Prop} {v:Value} {b:List UInt8} {s:RS} (w:World) {gb gm:Nat} {m:Int} (hR:(RdYB 5 134 r A0 n0 c0 Y v b s).p w) (hG:Gat w 0 formsC) (hT:¬RdT r A0 n0 c0 0) (he:s.2=0) (hgb:Gat w gb [.pointer (some ⟨r,0,none⟩)]) (hTb:¬RdT r A0 n0 c0 gb) (hgm:Gat w gm [.int .i64 m]) (hTm:¬RdT r A0 n0 c0 gm) (hn:(Pk.rC m s).2.2=0):Calls Tryz.prog 118 [.pointer (some ⟨gb,0,none⟩),.pointer (some ⟨gm,0,none⟩)].toArray w (Ret (fun v' w'=>v'=.int .i64 ((Pk.rC m s).1:Int)∧(RdYP 5 134 r A0 n0 c0 Y (Pk.rC m s).2).p w'∧Fr (RdT r A0 n0 c0) w w')):=by
 refine kE (l:=[_,_]) Tryz.func118 U U ?_
 have H:=St.begin (f:=RdYB 5 134 r A0 n0 c0 Y v b s) hR (RdB.lt hR)
 refine kR (sAi U (lkR (sR (d_ldG U ((H.gatT hgb hTb)) U ta89 U) (sR (d_ldG U ((H.gatT hgm hTm)) U ta3 U) (sf (ecl Tryz.func119 U U ((count _ (H.get (f:=RdYB 5 134 r A0 n0 c0 Y v b s)) (H.gatT hG hT) hT he).1 hn) ?_))))))
 rintro _ W ⟨rfl,hp,hf⟩
 replace H:=H.mut (f:=RdYB 5 134 r A0 n0 c0 Y v b s) (f':=RdYP 5 134 r A0 n0 c0 Y (Pk.rC m s).2) hf hp (fun _ h=>h)
 clear hp hf
 refine sAi U (ln (kx ?_))
 exact qr (v:=.int _ _) U U ⟨_,U,U,H.get (f:=RdYP 5 134 r A0 n0 c0 Y (Pk.rC m s).2),H.fr⟩

theorem oneCountP {A0:Option Addr} {n0 c0 r:Nat} {Y:List UInt8->Prop} {v:Value} {b:List UInt8} {s:RS} (w:World) {gb gm:Nat} {m:Int} (hR:(RdYB 5 134 r A0 n0 c0 Y v b s).p w) (hG:Gat w 0 formsC) (hT:¬RdT r A0 n0 c0 0) (he:s.2=0) (hgb:Gat w gb [.pointer (some ⟨r,0,none⟩)]) (hTb:¬RdT r A0 n0 c0 gb) (hgm:Gat w gm [.int .i64 m]) (hTm:¬RdT r A0 n0 c0 gm) (hn:(Pk.rC m s).2.2≠0):Calls Tryz.prog 118 [.pointer (some ⟨gb,0,none⟩),.pointer (some ⟨gm,0,none⟩)].toArray w (Pan (why (Pk.rC m s).2.2) (fun w'=>(∃s',(RdYP 5 134 r A0 n0 c0 Y s').p w')∧Fr (RdT r A0 n0 c0) w w')):=by
 refine kE (l:=[_,_]) Tryz.func118 U U ?_
 have H:=St.begin (f:=RdYB 5 134 r A0 n0 c0 Y v b s) hR (RdB.lt hR)
 refine kR (sAi U (lkR (sR (d_ldG U ((H.gatT hgb hTb)) U ta89 U) (sR (d_ldG U ((H.gatT hgm hTm)) U ta3 U) (sf (e_callP (wn U) U Tryz.func119 U U U ((count _ (H.get (f:=RdYB 5 134 r A0 n0 c0 Y v b s)) (H.gatT hG hT) hT he).2 hn).2 ?_))))))
 rintro W ⟨⟨s',hp⟩,hf⟩
 replace H:=H.mut (f:=RdYB 5 134 r A0 n0 c0 Y v b s) (f':=RdYP 5 134 r A0 n0 c0 Y s') hf hp (fun _ h=>h)
 exact ⟨U,U,⟨_,H.get (f:=RdYP 5 134 r A0 n0 c0 Y s')⟩,H.fr⟩

theorem oneBlobP {A0:Option Addr} {n0 c0 r:Nat} {Y:List UInt8->Prop} {v:Value} {b:List UInt8} {s:RS} (w:World) {gb gm:Nat} {m:Int} (hR:(RdYB 5 134 r A0 n0 c0 Y v b s).p w) (hG:Gat w 0 formsC) (hT:¬RdT r A0 n0 c0 0) (he:s.2=0) (hgb:Gat w gb [.pointer (some ⟨r,0,none⟩)]) (hTb:¬RdT r A0 n0 c0 gb) (hgm:Gat w gm [.int .i64 m]) (hTm:¬RdT r A0 n0 c0 gm) (hn:(Pk.rC m s).2.2≠0):Calls Tryz.prog 121 [.pointer (some ⟨gb,0,none⟩),.pointer (some ⟨gm,0,none⟩)].toArray w (Pan (why (Pk.rC m s).2.2) (fun w'=>(∃s',(RdYP 5 134 r A0 n0 c0 Y s').p w')∧Fr (RdT r A0 n0 c0) w w')):=by
 refine kE (l:=[_,_]) Tryz.func121 U U ?_
 have H:=St.begin (f:=RdYB 5 134 r A0 n0 c0 Y v b s) hR (RdB.lt hR)
 refine kR (sAs U (ln (kQ (k_drawP 0 [(0,true),(1,true),(2,true),(3,false),(4,false),(5,true)] [] (by kernel_rfl) (by kernel_rfl) (by kernel_rfl) H (List.nil_sublist _) ?_))))
 clear H;intro W H
 refine cR U (fun W H=>d_ldG U ((H.gatT hgb hTb)) U ta89 U) (cR U (fun W H=>d_ldG U ((H.gatT hgb hTb)) U ta89 U) (cR U (fun W H=>d_ldG U ((H.gatT hgm hTm)) U ta3 U) (cf U (e_callP (wn U) U Tryz.func119 U U U ((count _ (H.get (f:=RdYB 5 134 r A0 n0 c0 Y v b s)) (H.gatT hG hT) hT he).2 hn).2 ?_))))
 rintro W ⟨⟨s',hp⟩,hf⟩
 replace H:=H.mut (f:=RdYB 5 134 r A0 n0 c0 Y v b s) (f':=RdYP 5 134 r A0 n0 c0 Y s') hf hp (fun _ h=>h)
 exact p_lo (fun a hd _=>⟨hd,U,⟨_,H.get (f:=RdYP 5 134 r A0 n0 c0 Y s')⟩,H.fr⟩)

theorem oneBlobQ {A0:Option Addr} {n0 c0 r:Nat} {Y:List UInt8->Prop} {v:Value} {b:List UInt8} {s:RS} (w:World) {gb gm:Nat} {m:Int} (hR:(RdYB 5 134 r A0 n0 c0 Y v b s).p w) (hG:Gat w 0 formsC) (hT:¬RdT r A0 n0 c0 0) (he:s.2=0) (hgb:Gat w gb [.pointer (some ⟨r,0,none⟩)]) (hTb:¬RdT r A0 n0 c0 gb) (hgm:Gat w gm [.int .i64 m]) (hTm:¬RdT r A0 n0 c0 gm) (hn:(Pk.rC m s).2.2=0) (hb:(Pk.rB m s).2.2≠0):Calls Tryz.prog 121 [.pointer (some ⟨gb,0,none⟩),.pointer (some ⟨gm,0,none⟩)].toArray w (Pan (why 4) (fun w'=>(∃s',(RdYP 5 134 r A0 n0 c0 Y s').p w')∧Fr (RdT r A0 n0 c0) w w')):=by
 refine kE (l:=[_,_]) Tryz.func121 U U ?_
 have H:=St.begin (f:=RdYB 5 134 r A0 n0 c0 Y v b s) hR (RdB.lt hR)
 refine kR (sAs U (ln (kQ (k_drawP 0 [(0,true),(1,true),(2,true),(3,false),(4,false),(5,true)] [] (by kernel_rfl) (by kernel_rfl) (by kernel_rfl) H (List.nil_sublist _) ?_))))
 clear H;intro W H
 refine cR U (fun W H=>d_ldG U ((H.gatT hgb hTb)) U ta89 U) (cR U (fun W H=>d_ldG U ((H.gatT hgb hTb)) U ta89 U) (cR U (fun W H=>d_ldG U ((H.gatT hgm hTm)) U ta3 U) (cf U (ecl Tryz.func119 U U ((count _ (H.get (f:=RdYB 5 134 r A0 n0 c0 Y v b s)) (H.gatT hG hT) hT he).1 hn) ?_))))
 rintro _ W ⟨rfl,hp,hf⟩
 replace H:=H.mut (f:=RdYB 5 134 r A0 n0 c0 Y v b s) (f':=RdYP 5 134 r A0 n0 c0 Y (Pk.rC m s).2) hf hp (fun _ h=>h)
 clear hp hf
 refine ⟨H.sb,?_⟩
 refine cf U (e_callP (wn U) U Tryz.func115 U U U (takeSE (l:=(Pk.rB m s).1) (s':=(Pk.rB m s).2) _ (by rfl) (by rfl) (H.get (f:=RdYP 5 134 r A0 n0 c0 Y (Pk.rC m s).2)) hn hb) ?_)
 rintro W ⟨hp,hf⟩
 replace H:=H.mut (f:=RdYP 5 134 r A0 n0 c0 Y (Pk.rC m s).2) (f':=RdYP 5 134 r A0 n0 c0 Y (Pk.rC m s).2) hf hp (fun _ h=>h)
 exact p_lo (fun a hd _=>⟨hd,U,⟨_,H.get (f:=RdYP 5 134 r A0 n0 c0 Y (Pk.rC m s).2)⟩,H.fr⟩)

theorem oneBlob {A0:Option Addr} {n0 c0 r:Nat} {Y:List UInt8->Prop} {v:Value} {b:List UInt8} {s:RS} (w:World) {gb gm:Nat} {m:Int} (hR:(RdYB 5 134 r A0 n0 c0 Y v b s).p w) (hG:Gat w 0 formsC) (hT:¬RdT r A0 n0 c0 0) (he:s.2=0) (hgb:Gat w gb [.pointer (some ⟨r,0,none⟩)]) (hTb:¬RdT r A0 n0 c0 gb) (hgm:Gat w gm [.int .i64 m]) (hTm:¬RdT r A0 n0 c0 gm) (hn:(Pk.rC m s).2.2=0) (hb:(Pk.rB m s).2.2=0):Calls Tryz.prog 121 [.pointer (some ⟨gb,0,none⟩),.pointer (some ⟨gm,0,none⟩)].toArray w (Ret (fun v' w'=>(RdYB 5 134 r A0 n0 c0 Y v' (Pk.rB m s).1 (Pk.rB m s).2).p w'∧Fr (RdT r A0 n0 c0) w w')):=by
 refine kE (l:=[_,_]) Tryz.func121 U U ?_
 have H:=St.begin (f:=RdYB 5 134 r A0 n0 c0 Y v b s) hR (RdB.lt hR)
 refine kR (sAs U (ln (kQ (k_drawP 0 [(0,true),(1,true),(2,true),(3,false),(4,false),(5,true)] [] (by kernel_rfl) (by kernel_rfl) (by kernel_rfl) H (List.nil_sublist _) ?_))))
 clear H;intro W H
 refine cR U (fun W H=>d_ldG U ((H.gatT hgb hTb)) U ta89 U) (cR U (fun W H=>d_ldG U ((H.gatT hgb hTb)) U ta89 U) (cR U (fun W H=>d_ldG U ((H.gatT hgm hTm)) U ta3 U) (cf U (ecl Tryz.func119 U U ((count _ (H.get (f:=RdYB 5 134 r A0 n0 c0 Y v b s)) (H.gatT hG hT) hT he).1 hn) ?_))))
 rintro _ W ⟨rfl,hp,hf⟩
 replace H:=H.mut (f:=RdYB 5 134 r A0 n0 c0 Y v b s) (f':=RdYP 5 134 r A0 n0 c0 Y (Pk.rC m s).2) hf hp (fun _ h=>h)
 clear hp hf
 refine ⟨H.sb,?_⟩
 refine cf U (ecl Tryz.func115 U U (takeE (l:=(Pk.rB m s).1) (s':=(Pk.rB m s).2) _ (by rfl) (by rfl) (H.get (f:=RdYP 5 134 r A0 n0 c0 Y (Pk.rC m s).2)) hn hb) ?_)
 rintro _ W ⟨hp1,hf1⟩
 obtain ⟨B1,d1,rfl⟩:=RdB.form hp1
 replace H:=H.mut (f:=RdYP 5 134 r A0 n0 c0 Y (Pk.rC m s).2) (f':=RdYB 5 134 r A0 n0 c0 Y (.slice B1 (List.length (Pk.rB m s).1) d1) (Pk.rB m s).1 (Pk.rB m s).2) hf1 hp1 (fun _ h=>h)
 clear hp1 hf1
 refine ⟨H.sb,?_⟩
 refine cAs U U (c_nilP (kx ?_))
 exact qr (v:=.slice _ _ _) U U ⟨_,U,H.get (f:=RdYB 5 134 r A0 n0 c0 Y (.slice B1 (List.length (Pk.rB m s).1) d1) (Pk.rB m s).1 (Pk.rB m s).2),H.fr⟩

theorem tuIf:Tryz.prog.underlying 20=some (.interface #[]):=by kernel_rfl
theorem tiIf:Tryz.prog.isIface 20=true:=by kernel_rfl
theorem tnE:(Tryz.prog.underlying 163).map (fun d=>match d with|.interface _=>false|_=>true)=some true:=by kernel_rfl
theorem recInt {gb go:Nat} {y:Value} (w:World) (hgb:Gat w gb [y]):CallsD Tryz.prog 154 [.pointer (some ⟨gb,0,none⟩),.pointer (some ⟨go,0,none⟩)].toArray .returning w (fun e u' w'=>(∃v,e=.returned v)∧u'=.returning∧Below w.heap.size w w'):=by
 refine k_enterR (l:=[_,_]) (z:=.nilIface) (u':=.returning) Tryz.func154 U U U U U U U U U rec_ret ?_
 have H:=St.start nT w
 refine kR (sR (mv_ni U U) (sR (d_nenn U U U U tuIf) (ln (kF U (by first|(simp;done)|(simp;omega)) ?_))))
 exact kS (kn (q_end0 U ⟨⟨_,U⟩,U,H.under⟩))

theorem recPInt {A0:Option Addr} {n0 c0 r:Nat} {Y:List UInt8->Prop} {s:RS} {gb go:Nat} {k:Int} {old:List Value} (w:World) (hR:(RdYP 5 134 r A0 n0 c0 Y s).p w) (hk:k≠0) (hgb:Gat w gb [.pointer (some ⟨r,0,none⟩)]) (hTb:¬RdT r A0 n0 c0 gb) (hbo:¬gb=go) (ho:w.heap[go]?=some (.cells old.toArray 3 (0,0))) (hlo:old.length=1) (hTo:¬RdT r A0 n0 c0 go) :
  CallsD Tryz.prog 154 [.pointer (some ⟨gb,0,none⟩),.pointer (some ⟨go,0,none⟩)].toArray (.panicking [{ v:=why k,recovered:=false }]) w (fun e u' w'=>(∃v,e=.returned v)∧u'=.panicking [{ v:=why k,recovered:=true }]∧(RdYP 5 134 r A0 n0 c0 Y ([],k)).p w'∧w'.heap[go]?=some (.cells ([.int .i64 0]).toArray 3 (0,0))∧Fr (fun g=>g=go∨RdT r A0 n0 c0 g) w w'):=by
 have hTb2:¬(fun g=>g=go∨RdT r A0 n0 c0 g) gb:=fun h=>h.elim hbo hTb
 have hne:=RdB.ne hR
 obtain ⟨A,c,o,ys,hY,hL,hH,hn0,hc0,H0⟩:=RdB.two hR
 have H1:=H0.old (f:=Fact.blk go old 3) ho (fun g hg=>by cases hg;exact blk_lt ho) (fun x hx g hg hxg=>by
  cases hg
  simp only [List.mem_cons,List.not_mem_nil,or_false] at hx
  rcases hx with rfl|rfl
  ·exact hTo (.inl hxg)
  ·exact hTo (.inr hxg))
 refine k_enterR (l:=[_,_]) (z:=why k) (u':=.panicking [{ v:=why k,recovered:=true }]) Tryz.func154 U U U U U U U U U rec_pan ?_
 have H:=H1
 refine kR (sR (mv_if U U) (sR (d_neni U U U tiIf) (ln (kT U (by first|(simp;done)|(simp;omega)) ?_))))
 refine kR (sR (mv_if U U) (sR (d_assertB U U tnE) (sMt U (sR (d_extract U U U) (sR (d_extract U U U) (sf (eal [.int .i64 0] tz163 H ?_)))))))
 clear H;intro g3 W H
 refine sf (e_sto (wn U) U U U U U ts163 U H U ?_)
 clear H;intro W H
 refine sAb U (ln (kQ (kR (sMb U (sR (d_not U U) (ln (kF U (by first|(simp;done)|(simp;omega)) ?_)))))))
 refine kS (kR (sAi U (ln (kr (sR (d_ldG U ((H.gatT hgb hTb2)) U ta89 U) (sR (d_ldG U ((H.gatT hgb hTb2)) U ta89 U) (sFa U tf163_0 (sR (d_ld U H U ta42 U) (sMi U (sR (d_nil U U) (sFa U tf134_1 ?_)))))))))))
 refine sf (e_sto (wn U) U U U U U ts42 U H U ?_)
 clear H;intro W H
 refine sR (d_nil U U) (sFa U tf134_0 ?_)
 refine sf (e_sto (wn U) U U U U U ts41 U H U ?_)
 clear H;intro W H
 refine sf (esk ([.int .i64 0]) U U U ts3 U U H (by rw [hlo];exact Nat.le_refl _) (spl_all (by rw [hlo];rfl)) ?_)
 clear H;intro W H
 exact ln (kn (q_end0 U ⟨⟨_,U⟩,U,RdB.of (s:=([],k)) (o:=o) (ys:=ys) hY H hne U U (hL.bad hk) held_nil,H.get (f:=Fact.blk go [.int .i64 0] 3),H.fr⟩))

theorem recHash {gb go:Nat} {y:Value} (w:World) (hgb:Gat w gb [y]):CallsD Tryz.prog 152 [.pointer (some ⟨gb,0,none⟩),.pointer (some ⟨go,0,none⟩)].toArray .returning w (fun e u' w'=>(∃v,e=.returned v)∧u'=.returning∧Below w.heap.size w w'):=by
 refine k_enterR (l:=[_,_]) (z:=.nilIface) (u':=.returning) Tryz.func152 U U U U U U U U U rec_ret ?_
 have H:=St.start nT w
 refine kR (sR (mv_ni U U) (sR (d_nenn U U U U tuIf) (ln (kF U (by first|(simp;done)|(simp;omega)) ?_))))
 exact kS (kn (q_end0 U ⟨⟨_,U⟩,U,H.under⟩))

theorem recPHash {A0:Option Addr} {n0 c0 r:Nat} {Y:List UInt8->Prop} {s:RS} {gb go:Nat} {k:Int} {old:List Value} (w:World) (hR:(RdYP 5 134 r A0 n0 c0 Y s).p w) (hk:k≠0) (hgb:Gat w gb [.pointer (some ⟨r,0,none⟩)]) (hTb:¬RdT r A0 n0 c0 gb) (hbo:¬gb=go) (ho:w.heap[go]?=some (.cells old.toArray 24 (0,0))) (hlo:old.length=32) (hTo:¬RdT r A0 n0 c0 go) :
  CallsD Tryz.prog 152 [.pointer (some ⟨gb,0,none⟩),.pointer (some ⟨go,0,none⟩)].toArray (.panicking [{ v:=why k,recovered:=false }]) w (fun e u' w'=>(∃v,e=.returned v)∧u'=.panicking [{ v:=why k,recovered:=true }]∧(RdYP 5 134 r A0 n0 c0 Y ([],k)).p w'∧w'.heap[go]?=some (.cells ((List.replicate 32 (u8v 0))).toArray 24 (0,0))∧Fr (fun g=>g=go∨RdT r A0 n0 c0 g) w w'):=by
 have hTb2:¬(fun g=>g=go∨RdT r A0 n0 c0 g) gb:=fun h=>h.elim hbo hTb
 have hne:=RdB.ne hR
 obtain ⟨A,c,o,ys,hY,hL,hH,hn0,hc0,H0⟩:=RdB.two hR
 have H1:=H0.old (f:=Fact.blk go old 24) ho (fun g hg=>by cases hg;exact blk_lt ho) (fun x hx g hg hxg=>by
  cases hg
  simp only [List.mem_cons,List.not_mem_nil,or_false] at hx
  rcases hx with rfl|rfl
  ·exact hTo (.inl hxg)
  ·exact hTo (.inr hxg))
 refine k_enterR (l:=[_,_]) (z:=why k) (u':=.panicking [{ v:=why k,recovered:=true }]) Tryz.func152 U U U U U U U U U rec_pan ?_
 have H:=H1
 refine kR (sR (mv_if U U) (sR (d_neni U U U tiIf) (ln (kT U (by first|(simp;done)|(simp;omega)) ?_))))
 refine kR (sR (mv_if U U) (sR (d_assertB U U tnE) (sMt U (sR (d_extract U U U) (sR (d_extract U U U) (sf (eal [.int .i64 0] tz163 H ?_)))))))
 clear H;intro g3 W H
 refine sf (e_sto (wn U) U U U U U ts163 U H U ?_)
 clear H;intro W H
 refine sAb U (ln (kQ (kR (sMb U (sR (d_not U U) (ln (kF U (by first|(simp;done)|(simp;omega)) ?_)))))))
 refine kS (kR (sf (eal (List.replicate 32 (u8v 0)) tz24 H ?_)))
 clear H;intro g5 W H
 refine ln (k_draw [(0,true),(1,true),(2,true),(3,true),(4,true),(5,true),(6,true),(7,false),(8,true),(9,true),(10,false),(11,false)] [Fact.blk g5 (List.replicate 32 (u8v 0)) 24,Fact.blk g3 [.int .i64 k] 163] (by kernel_rfl) (by kernel_rfl) H (by repeat (first|exact .refl _|exact List.nil_sublist _|refine .cons_cons _ ?_|refine .cons _ ?_)) ?_)
 clear H;intro W H
 refine cR U (fun W H=>d_ldG U ((H.gatT hgb hTb2)) U ta89 U) (cR U (fun W H=>d_ldG U ((H.gatT hgb hTb2)) U ta89 U) (cFa U U tf163_0 (cR U (fun W H=>d_ld U H U ta42 U) (cR U (fun W H=>d_ldm0 U H U ta24 ts24 (by rw [List.length_replicate])) ?_))))
 refine cR U (fun W H=>d_nil U U) (cFa U U tf134_1 (cf U (e_sto (wn U) U U U U U ts42 U H U ?_)))
 clear H;intro W H
 refine ⟨H.sub (by repeat (first|exact .refl _|exact List.nil_sublist _|refine .cons_cons _ ?_|refine .cons _ ?_)),?_⟩
 refine cR U (fun W H=>d_nil U U) (cFa U U tf134_0 (cf U (e_sto (wn U) U U U U U ts41 U H U ?_)))
 clear H;intro W H
 refine ⟨H.sub (by repeat (first|exact .refl _|exact List.nil_sublist _|refine .cons_cons _ ?_|refine .cons _ ?_)),?_⟩
 refine cf U (esk ((List.replicate 32 (u8v 0))) U U U ts24 (by rw [List.length_replicate]) (by rw [List.all_replicate];rfl) H (by rw [hlo];simp) (spl_all (by rw [hlo];simp)) ?_)
 clear H;intro W H
 refine ⟨H.sub (by repeat (first|exact .refl _|exact List.nil_sublist _|refine .cons_cons _ ?_|refine .cons _ ?_)),?_⟩
 exact c_nil (kn (q_end0 U ⟨⟨_,U⟩,U,RdB.of (s:=([],k)) (o:=o) (ys:=ys) hY H hne U U (hL.bad hk) held_nil,H.get (f:=Fact.blk go (List.replicate 32 (u8v 0)) 24),H.fr⟩))

theorem recBlob {gb go:Nat} {y:Value} (w:World) (hgb:Gat w gb [y]):CallsD Tryz.prog 158 [.pointer (some ⟨gb,0,none⟩),.pointer (some ⟨go,0,none⟩)].toArray .returning w (fun e u' w'=>(∃v,e=.returned v)∧u'=.returning∧Below w.heap.size w w'):=by
 refine k_enterR (l:=[_,_]) (z:=.nilIface) (u':=.returning) Tryz.func158 U U U U U U U U U rec_ret ?_
 have H:=St.start nT w
 refine kR (sR (mv_ni U U) (sR (d_nenn U U U U tuIf) (ln (kF U (by first|(simp;done)|(simp;omega)) ?_))))
 exact kS (kn (q_end0 U ⟨⟨_,U⟩,U,H.under⟩))

theorem recPBlob {A0:Option Addr} {n0 c0 r:Nat} {Y:List UInt8->Prop} {s:RS} {gb go:Nat} {k:Int} {old:List Value} (w:World) (hR:(RdYP 5 134 r A0 n0 c0 Y s).p w) (hk:k≠0) (hgb:Gat w gb [.pointer (some ⟨r,0,none⟩)]) (hTb:¬RdT r A0 n0 c0 gb) (hbo:¬gb=go) (ho:w.heap[go]?=some (.cells old.toArray 41 (0,0))) (hlo:old.length=1) (hTo:¬RdT r A0 n0 c0 go) :
  CallsD Tryz.prog 158 [.pointer (some ⟨gb,0,none⟩),.pointer (some ⟨go,0,none⟩)].toArray (.panicking [{ v:=why k,recovered:=false }]) w (fun e u' w'=>(∃v,e=.returned v)∧u'=.panicking [{ v:=why k,recovered:=true }]∧(RdYP 5 134 r A0 n0 c0 Y ([],k)).p w'∧w'.heap[go]?=some (.cells ([.slice none 0 0]).toArray 41 (0,0))∧Fr (fun g=>g=go∨RdT r A0 n0 c0 g) w w'):=by
 have hTb2:¬(fun g=>g=go∨RdT r A0 n0 c0 g) gb:=fun h=>h.elim hbo hTb
 have hne:=RdB.ne hR
 obtain ⟨A,c,o,ys,hY,hL,hH,hn0,hc0,H0⟩:=RdB.two hR
 have H1:=H0.old (f:=Fact.blk go old 41) ho (fun g hg=>by cases hg;exact blk_lt ho) (fun x hx g hg hxg=>by
  cases hg
  simp only [List.mem_cons,List.not_mem_nil,or_false] at hx
  rcases hx with rfl|rfl
  ·exact hTo (.inl hxg)
  ·exact hTo (.inr hxg))
 refine k_enterR (l:=[_,_]) (z:=why k) (u':=.panicking [{ v:=why k,recovered:=true }]) Tryz.func158 U U U U U U U U U rec_pan ?_
 have H:=H1
 refine kR (sR (mv_if U U) (sR (d_neni U U U tiIf) (ln (kT U (by first|(simp;done)|(simp;omega)) ?_))))
 refine kR (sR (mv_if U U) (sR (d_assertB U U tnE) (sMt U (sR (d_extract U U U) (sR (d_extract U U U) (sf (eal [.int .i64 0] tz163 H ?_)))))))
 clear H;intro g3 W H
 refine sf (e_sto (wn U) U U U U U ts163 U H U ?_)
 clear H;intro W H
 refine sAb U (ln (kQ (kR (sMb U (sR (d_not U U) (ln (kF U (by first|(simp;done)|(simp;omega)) ?_)))))))
 refine kS (kR (sAs U (ln (kr (sR (d_ldG U ((H.gatT hgb hTb2)) U ta89 U) (sR (d_ldG U ((H.gatT hgb hTb2)) U ta89 U) (sFa U tf163_0 (sR (d_ld U H U ta42 U) (sMs U (sR (d_nil U U) (sFa U tf134_1 ?_)))))))))))
 refine sf (e_sto (wn U) U U U U U ts42 U H U ?_)
 clear H;intro W H
 refine sR (d_nil U U) (sFa U tf134_0 ?_)
 refine sf (e_sto (wn U) U U U U U ts41 U H U ?_)
 clear H;intro W H
 refine sf (esk ([.slice none 0 0]) U U U ts41 U U H (by rw [hlo];exact Nat.le_refl _) (spl_all (by rw [hlo];rfl)) ?_)
 clear H;intro W H
 exact ln (kn (q_end0 U ⟨⟨_,U⟩,U,RdB.of (s:=([],k)) (o:=o) (ys:=ys) hY H hne U U (hL.bad hk) held_nil,H.get (f:=Fact.blk go [.slice none 0 0] 41),H.fr⟩))

theorem rdBadInt {A0:Option Addr} {n0 c0 r:Nat} {Y:List UInt8->Prop} {s:RS} (w:World) (hR:(RdYP 5 134 r A0 n0 c0 Y s).p w) (hs:s.2≠0) {fo:FuncId} {pre cap:Array Value}:Calls Tryz.prog 116 [.pointer (some ⟨r,0,none⟩),.func (.func fo) pre cap].toArray w (Ret (fun v' w'=>v'=(.int .i64 0)∧(RdYP 5 134 r A0 n0 c0 Y ([],s.2)).p w'∧Fr (RdT r A0 n0 c0) w w')):=by
 have hne:=RdB.ne hR
 obtain ⟨A,c,o,ys,hY,hL,hH,hn0,hc0,H0⟩:=RdB.two hR
 refine k_enterD (l:=[_,_]) Tryz.func116 U U ?_
 have H:=H0
 refine kR (sf (ebx (vs:=[.pointer (some ⟨r,0,none⟩)]) U U H ?_))
 clear H;intro g0 W H
 refine sf (eal [.int .i64 0] tz3 H ?_)
 clear H;intro g2 W H
 refine lkR (sR (d_mkf U U U) (sf (e_defer (wn U) U U U ?_)))
 refine ln (kQ (k_drawP 6 [(0,true),(1,true),(2,true),(3,true),(4,true),(5,true),(6,true),(7,true),(8,true),(9,false)] _ (by kernel_rfl) (by kernel_rfl) (by kernel_rfl) H (.refl _) ?_))
 clear H;intro W H
 refine cR U (fun W H=>d_ld U H U ta89 U) (cR U (fun W H=>d_nil U U) (cFa U U tf134_1 (cR U (fun W H=>d_ld U H U ta42 U) (cR U (fun W H=>d_eq U U U) (cR U (fun W H=>d_ld U H U ta89 U) (cR U (fun W H=>d_nil U U) (cFa U U tf134_1 (cR U (fun W H=>d_ld U H U ta42 U) (cf U (e_callP (wn U) U Tryz.func153 U U U (mustBad _ _ (by simpa using hs)) ?_))))))))))
 intro W hb
 replace H:=H.below hb
 replace H:=RdB.close2 hY H hL
 refine p_lo (fun a hd hlo=>?_)
 have hap:=List.pairwise_cons.1 H.apart
 have hap2:=List.pairwise_cons.1 hap.2
 have hT2:¬RdT r A0 n0 c0 g2:=fun h=>hap.1 _ (.head _) g2 h rfl
 have hT0:¬RdT r A0 n0 c0 g0:=fun h=>hap.1 _ (.tail _ (.head _)) g0 h rfl
 have h02:¬g0=g2:=fun h=>hap2.1 _ (.head _) g2 rfl h.symm
 have hge:w.heap.size<=g2:=(H.own _ (.tail _ (.head _)) g2 rfl).1.resolve_left hT2
 exact q_dpan (g:=g2) U hd (getD_lo hlo (by decide) U) Tryz.func154 U U U (recPInt W (H.get (f:=RdYP 5 134 r A0 n0 c0 Y s)) hs (gat_of (H.blk (g:=g0))) hT0 h02 (H.blk (g:=g2)) U hT2) (fun W2 h=>⟨_,loads1 ta3 h.2.1,⟨_,U,U,h.1,H.fr.trans h.2.2 (fun g hg hh=>hh.elim (fun e=>absurd hge (by omega)) id)⟩⟩)

theorem rdPanInt {A0 : Option Addr} {n0 c0 r : Nat} {Y : List UInt8 → Prop} {s : RS} (w : World) (hR : (RdYP 5 134 r A0 n0 c0 Y s).p w) (hs : s.2 = 0) {fo : FuncId} {fno : Func} {pre cap : Array Value} {lo : List Value} (hfo : Tryz.prog.funcs[fo]? = some fno) (hbo : fno.body.isNone = false) (hno : (fno.name == "runtime.NumGoroutine") = false) (hlo : pre.toList ++ cap.toList = lo) {k : Int} (hk : k ≠ 0) (hone : ∀ W, Fr (RdT r A0 n0 c0) w W → (RdYP 5 134 r A0 n0 c0 Y s).p W → Calls Tryz.prog fo lo.toArray W (Pan (why k) (fun w' => (∃ s', (RdYP 5 134 r A0 n0 c0 Y s').p w') ∧ Fr (RdT r A0 n0 c0) W w'))) : Calls Tryz.prog 116 [.pointer (some ⟨r, 0, none⟩), .func (.func fo) pre cap].toArray w (Ret (fun v' w' => v' = (.int .i64 0) ∧ (RdYP 5 134 r A0 n0 c0 Y ([], k)).p w' ∧ Fr (RdT r A0 n0 c0) w w')) := by
 have hne:=RdB.ne hR
 obtain ⟨A,c,o,ys,hY,hL,hH,hn0,hc0,H0⟩:=RdB.two hR
 refine k_enterD (l:=[_,_]) Tryz.func116 U U ?_
 have H:=H0
 refine kR (sf (ebx (vs:=[.pointer (some ⟨r,0,none⟩)]) U U H ?_))
 clear H;intro g0 W H
 refine sf (eal [.int .i64 0] tz3 H ?_)
 clear H;intro g2 W H
 refine lkR (sR (d_mkf U U U) (sf (e_defer (wn U) U U U ?_)))
 refine ln (kQ (k_drawP 6 [(0,true),(1,true),(2,true),(3,true),(4,true),(5,true),(6,true),(7,true),(8,true),(9,false)] _ (by kernel_rfl) (by kernel_rfl) (by kernel_rfl) H (.refl _) ?_))
 clear H;intro W H
 refine cR U (fun W H=>d_ld U H U ta89 U) (cR U (fun W H=>d_nil U U) (cFa U U tf134_1 (cR U (fun W H=>d_ld U H U ta42 U) (cR U (fun W H=>d_eq U U U) (cR U (fun W H=>d_ld U H U ta89 U) (cR U (fun W H=>d_nil U U) (cFa U U tf134_1 (cR U (fun W H=>d_ld U H U ta42 U) (cf U (eI Tryz.func153 U U (mustOk _ _ (by simpa using hs)) H ?_))))))))))
 clear H;intro W H
 refine ⟨H.sb,?_⟩
 refine c_nilP ?_
 replace H:=RdB.close2 hY H hL
 refine kR (sMf U (sf (e_callvP (wn U) U U hfo hbo hno (by simpa using hlo) (hone W H.fr (H.get (f:=RdYP 5 134 r A0 n0 c0 Y s))) ?_)))
 rintro W ⟨⟨s',hp⟩,hf⟩
 replace H:=H.mut (f:=RdYP 5 134 r A0 n0 c0 Y s) (f':=RdYP 5 134 r A0 n0 c0 Y s') hf hp (fun _ h=>h)
 have hap:=List.pairwise_cons.1 H.apart
 have hap2:=List.pairwise_cons.1 hap.2
 have hT2:¬RdT r A0 n0 c0 g2:=fun h=>hap.1 _ (.head _) g2 h rfl
 have hT0:¬RdT r A0 n0 c0 g0:=fun h=>hap.1 _ (.tail _ (.head _)) g0 h rfl
 have h02:¬g0=g2:=fun h=>hap2.1 _ (.head _) g2 rfl h.symm
 have hge:w.heap.size<=g2:=(H.own _ (.tail _ (.head _)) g2 rfl).1.resolve_left hT2
 exact q_dpan (g:=g2) U U (by rw [st_getD];rfl) Tryz.func154 U U U (recPInt W (H.get (f:=RdYP 5 134 r A0 n0 c0 Y s')) hk (gat_of (H.blk (g:=g0))) hT0 h02 (H.blk (g:=g2)) U hT2) (fun W2 h=>⟨_,loads1 ta3 h.2.1,⟨_,U,U,h.1,H.fr.trans h.2.2 (fun g hg hh=>hh.elim (fun e=>absurd hge (by omega)) id)⟩⟩)

theorem rdOkInt {A0 : Option Addr} {n0 c0 r : Nat} {Y : List UInt8 → Prop} {s s1 : RS} (w : World) (hR : (RdYP 5 134 r A0 n0 c0 Y s).p w) (hs : s.2 = 0) {fo : FuncId} {fno : Func} {pre cap : Array Value} {lo : List Value} (hfo : Tryz.prog.funcs[fo]? = some fno) (hbo : fno.body.isNone = false) (hno : (fno.name == "runtime.NumGoroutine") = false) (hlo : pre.toList ++ cap.toList = lo) {u : Nat} (hone : ∀ W, Fr (RdT r A0 n0 c0) w W → (RdYP 5 134 r A0 n0 c0 Y s).p W → Calls Tryz.prog fo lo.toArray W (Ret (fun v' w' => v' = .int .i64 (u : Int) ∧ (RdYP 5 134 r A0 n0 c0 Y s1).p w' ∧ Fr (RdT r A0 n0 c0) W w'))) : Calls Tryz.prog 116 [.pointer (some ⟨r, 0, none⟩), .func (.func fo) pre cap].toArray w (Ret (fun v' w' => v' = .int .i64 (u : Int) ∧ (RdYP 5 134 r A0 n0 c0 Y s1).p w' ∧ Fr (RdT r A0 n0 c0) w w')) := by
 have hne:=RdB.ne hR
 obtain ⟨A,c,o,ys,hY,hL,hH,hn0,hc0,H0⟩:=RdB.two hR
 refine k_enterD (l:=[_,_]) Tryz.func116 U U ?_
 have H:=H0
 refine kR (sf (ebx (vs:=[.pointer (some ⟨r,0,none⟩)]) U U H ?_))
 clear H;intro g0 W H
 refine sf (eal [.int .i64 0] tz3 H ?_)
 clear H;intro g2 W H
 refine lkR (sR (d_mkf U U U) (sf (e_defer (wn U) U U U ?_)))
 refine ln (kQ (k_drawP 6 [(0,true),(1,true),(2,true),(3,true),(4,true),(5,true),(6,true),(7,true),(8,true),(9,false)] _ (by kernel_rfl) (by kernel_rfl) (by kernel_rfl) H (.refl _) ?_))
 clear H;intro W H
 refine cR U (fun W H=>d_ld U H U ta89 U) (cR U (fun W H=>d_nil U U) (cFa U U tf134_1 (cR U (fun W H=>d_ld U H U ta42 U) (cR U (fun W H=>d_eq U U U) (cR U (fun W H=>d_ld U H U ta89 U) (cR U (fun W H=>d_nil U U) (cFa U U tf134_1 (cR U (fun W H=>d_ld U H U ta42 U) (cf U (eI Tryz.func153 U U (mustOk _ _ (by simpa using hs)) H ?_))))))))))
 clear H;intro W H
 refine ⟨H.sb,?_⟩
 refine c_nilP ?_
 replace H:=RdB.close2 hY H hL
 refine kR (sMf U (sf (e_callv (wn U) U U U hfo hbo hno (by simpa using hlo) (hone W H.fr (H.get (f:=RdYP 5 134 r A0 n0 c0 Y s))) ?_)))
 rintro _ W ⟨rfl,hp,hf⟩
 replace H:=H.mut (f:=RdYP 5 134 r A0 n0 c0 Y s) (f':=RdYP 5 134 r A0 n0 c0 Y s1) hf hp (fun _ h=>h)
 clear hp hf
 refine sf (e_sto (wn U) U U U U U ts3 U H U ?_)
 clear H;intro W H
 refine ln (kx ?_)
 exact q_dret (g:=g2) U U Tryz.func154 U U U (recInt W (gat_of (H.blk (g:=g0)))) (fun W2 hb=>by
  replace H:=H.below hb
  exact ⟨_,loads1 ta3 (H.blk (g:=g2)),⟨_,U,U,H.get (f:=RdYP 5 134 r A0 n0 c0 Y s1),H.fr⟩⟩)

theorem rdBadHash {A0:Option Addr} {n0 c0 r:Nat} {Y:List UInt8->Prop} {s:RS} (w:World) (hR:(RdYP 5 134 r A0 n0 c0 Y s).p w) (hs:s.2≠0) {fo:FuncId} {pre cap:Array Value}:Calls Tryz.prog 113 [.pointer (some ⟨r,0,none⟩),.func (.func fo) pre cap].toArray w (Ret (fun v' w'=>v'=(.agg (List.replicate 32 (u8v 0)).toArray)∧(RdYP 5 134 r A0 n0 c0 Y ([],s.2)).p w'∧Fr (RdT r A0 n0 c0) w w')):=by
 have hne:=RdB.ne hR
 obtain ⟨A,c,o,ys,hY,hL,hH,hn0,hc0,H0⟩:=RdB.two hR
 refine k_enterD (l:=[_,_]) Tryz.func113 U U ?_
 have H:=H0
 refine kR (sf (ebx (vs:=[.pointer (some ⟨r,0,none⟩)]) U U H ?_))
 clear H;intro g0 W H
 refine sf (eal (List.replicate 32 (u8v 0)) tz24 H ?_)
 clear H;intro g2 W H
 refine lkR (sR (d_mkf U U U) (sf (e_defer (wn U) U U U ?_)))
 refine ln (kQ (k_drawP 6 [(0,true),(1,true),(2,true),(3,true),(4,true),(5,true),(6,true),(7,true),(8,true),(9,false)] _ (by kernel_rfl) (by kernel_rfl) (by kernel_rfl) H (.refl _) ?_))
 clear H;intro W H
 refine cR U (fun W H=>d_ld U H U ta89 U) (cR U (fun W H=>d_nil U U) (cFa U U tf134_1 (cR U (fun W H=>d_ld U H U ta42 U) (cR U (fun W H=>d_eq U U U) (cR U (fun W H=>d_ld U H U ta89 U) (cR U (fun W H=>d_nil U U) (cFa U U tf134_1 (cR U (fun W H=>d_ld U H U ta42 U) (cf U (e_callP (wn U) U Tryz.func153 U U U (mustBad _ _ (by simpa using hs)) ?_))))))))))
 intro W hb
 replace H:=H.below hb
 replace H:=RdB.close2 hY H hL
 refine p_lo (fun a hd hlo=>?_)
 have hap:=List.pairwise_cons.1 H.apart
 have hap2:=List.pairwise_cons.1 hap.2
 have hT2:¬RdT r A0 n0 c0 g2:=fun h=>hap.1 _ (.head _) g2 h rfl
 have hT0:¬RdT r A0 n0 c0 g0:=fun h=>hap.1 _ (.tail _ (.head _)) g0 h rfl
 have h02:¬g0=g2:=fun h=>hap2.1 _ (.head _) g2 rfl h.symm
 have hge:w.heap.size<=g2:=(H.own _ (.tail _ (.head _)) g2 rfl).1.resolve_left hT2
 exact q_dpan (g:=g2) U hd (getD_lo hlo (by decide) U) Tryz.func152 U U U (recPHash W (H.get (f:=RdYP 5 134 r A0 n0 c0 Y s)) hs (gat_of (H.blk (g:=g0))) hT0 h02 (H.blk (g:=g2)) (by rw [List.length_replicate]) hT2) (fun W2 h=>⟨_,loadsM ta24 (by rw [List.length_replicate];exact ts24) h.2.1,⟨_,U,U,h.1,H.fr.trans h.2.2 (fun g hg hh=>hh.elim (fun e=>absurd hge (by omega)) id)⟩⟩)

theorem rdPanHash {A0 : Option Addr} {n0 c0 r : Nat} {Y : List UInt8 → Prop} {s : RS} (w : World) (hR : (RdYP 5 134 r A0 n0 c0 Y s).p w) (hs : s.2 = 0) {fo : FuncId} {fno : Func} {pre cap : Array Value} {lo : List Value} (hfo : Tryz.prog.funcs[fo]? = some fno) (hbo : fno.body.isNone = false) (hno : (fno.name == "runtime.NumGoroutine") = false) (hlo : pre.toList ++ cap.toList = lo) {k : Int} (hk : k ≠ 0) (hone : ∀ W, Fr (RdT r A0 n0 c0) w W → (RdYP 5 134 r A0 n0 c0 Y s).p W → Calls Tryz.prog fo lo.toArray W (Pan (why k) (fun w' => (∃ s', (RdYP 5 134 r A0 n0 c0 Y s').p w') ∧ Fr (RdT r A0 n0 c0) W w'))) : Calls Tryz.prog 113 [.pointer (some ⟨r, 0, none⟩), .func (.func fo) pre cap].toArray w (Ret (fun v' w' => v' = (.agg (List.replicate 32 (u8v 0)).toArray) ∧ (RdYP 5 134 r A0 n0 c0 Y ([], k)).p w' ∧ Fr (RdT r A0 n0 c0) w w')) := by
 have hne:=RdB.ne hR
 obtain ⟨A,c,o,ys,hY,hL,hH,hn0,hc0,H0⟩:=RdB.two hR
 refine k_enterD (l:=[_,_]) Tryz.func113 U U ?_
 have H:=H0
 refine kR (sf (ebx (vs:=[.pointer (some ⟨r,0,none⟩)]) U U H ?_))
 clear H;intro g0 W H
 refine sf (eal (List.replicate 32 (u8v 0)) tz24 H ?_)
 clear H;intro g2 W H
 refine lkR (sR (d_mkf U U U) (sf (e_defer (wn U) U U U ?_)))
 refine ln (kQ (k_drawP 6 [(0,true),(1,true),(2,true),(3,true),(4,true),(5,true),(6,true),(7,true),(8,true),(9,false)] _ (by kernel_rfl) (by kernel_rfl) (by kernel_rfl) H (.refl _) ?_))
 clear H;intro W H
 refine cR U (fun W H=>d_ld U H U ta89 U) (cR U (fun W H=>d_nil U U) (cFa U U tf134_1 (cR U (fun W H=>d_ld U H U ta42 U) (cR U (fun W H=>d_eq U U U) (cR U (fun W H=>d_ld U H U ta89 U) (cR U (fun W H=>d_nil U U) (cFa U U tf134_1 (cR U (fun W H=>d_ld U H U ta42 U) (cf U (eI Tryz.func153 U U (mustOk _ _ (by simpa using hs)) H ?_))))))))))
 clear H;intro W H
 refine ⟨H.sb,?_⟩
 refine c_nilP ?_
 replace H:=RdB.close2 hY H hL
 refine kR (sMf U (sf (e_callvP (wn U) U U hfo hbo hno (by simpa using hlo) (hone W H.fr (H.get (f:=RdYP 5 134 r A0 n0 c0 Y s))) ?_)))
 rintro W ⟨⟨s',hp⟩,hf⟩
 replace H:=H.mut (f:=RdYP 5 134 r A0 n0 c0 Y s) (f':=RdYP 5 134 r A0 n0 c0 Y s') hf hp (fun _ h=>h)
 have hap:=List.pairwise_cons.1 H.apart
 have hap2:=List.pairwise_cons.1 hap.2
 have hT2:¬RdT r A0 n0 c0 g2:=fun h=>hap.1 _ (.head _) g2 h rfl
 have hT0:¬RdT r A0 n0 c0 g0:=fun h=>hap.1 _ (.tail _ (.head _)) g0 h rfl
 have h02:¬g0=g2:=fun h=>hap2.1 _ (.head _) g2 rfl h.symm
 have hge:w.heap.size<=g2:=(H.own _ (.tail _ (.head _)) g2 rfl).1.resolve_left hT2
 exact q_dpan (g:=g2) U U (by rw [st_getD];rfl) Tryz.func152 U U U (recPHash W (H.get (f:=RdYP 5 134 r A0 n0 c0 Y s')) hk (gat_of (H.blk (g:=g0))) hT0 h02 (H.blk (g:=g2)) (by rw [List.length_replicate]) hT2) (fun W2 h=>⟨_,loadsM ta24 (by rw [List.length_replicate];exact ts24) h.2.1,⟨_,U,U,h.1,H.fr.trans h.2.2 (fun g hg hh=>hh.elim (fun e=>absurd hge (by omega)) id)⟩⟩)

theorem rdOkHash {A0 : Option Addr} {n0 c0 r : Nat} {Y : List UInt8 → Prop} {s s1 : RS} (w : World) (hR : (RdYP 5 134 r A0 n0 c0 Y s).p w) (hs : s.2 = 0) {fo : FuncId} {fno : Func} {pre cap : Array Value} {lo : List Value} (hfo : Tryz.prog.funcs[fo]? = some fno) (hbo : fno.body.isNone = false) (hno : (fno.name == "runtime.NumGoroutine") = false) (hlo : pre.toList ++ cap.toList = lo) {l : List UInt8} (hll : l.length = 32) (hone : ∀ W, Fr (RdT r A0 n0 c0) w W → (RdYP 5 134 r A0 n0 c0 Y s).p W → Calls Tryz.prog fo lo.toArray W (Ret (fun v' w' => v' = .agg (l.map u8v).toArray ∧ (RdYP 5 134 r A0 n0 c0 Y s1).p w' ∧ Fr (RdT r A0 n0 c0) W w'))) : Calls Tryz.prog 113 [.pointer (some ⟨r, 0, none⟩), .func (.func fo) pre cap].toArray w (Ret (fun v' w' => v' = .agg (l.map u8v).toArray ∧ (RdYP 5 134 r A0 n0 c0 Y s1).p w' ∧ Fr (RdT r A0 n0 c0) w w')) := by
 have hne:=RdB.ne hR
 obtain ⟨A,c,o,ys,hY,hL,hH,hn0,hc0,H0⟩:=RdB.two hR
 refine k_enterD (l:=[_,_]) Tryz.func113 U U ?_
 have H:=H0
 refine kR (sf (ebx (vs:=[.pointer (some ⟨r,0,none⟩)]) U U H ?_))
 clear H;intro g0 W H
 refine sf (eal (List.replicate 32 (u8v 0)) tz24 H ?_)
 clear H;intro g2 W H
 refine lkR (sR (d_mkf U U U) (sf (e_defer (wn U) U U U ?_)))
 refine ln (kQ (k_drawP 6 [(0,true),(1,true),(2,true),(3,true),(4,true),(5,true),(6,true),(7,true),(8,true),(9,false)] _ (by kernel_rfl) (by kernel_rfl) (by kernel_rfl) H (.refl _) ?_))
 clear H;intro W H
 refine cR U (fun W H=>d_ld U H U ta89 U) (cR U (fun W H=>d_nil U U) (cFa U U tf134_1 (cR U (fun W H=>d_ld U H U ta42 U) (cR U (fun W H=>d_eq U U U) (cR U (fun W H=>d_ld U H U ta89 U) (cR U (fun W H=>d_nil U U) (cFa U U tf134_1 (cR U (fun W H=>d_ld U H U ta42 U) (cf U (eI Tryz.func153 U U (mustOk _ _ (by simpa using hs)) H ?_))))))))))
 clear H;intro W H
 refine ⟨H.sb,?_⟩
 refine c_nilP ?_
 replace H:=RdB.close2 hY H hL
 refine kR (sMf U (sf (e_callv (wn U) U U U hfo hbo hno (by simpa using hlo) (hone W H.fr (H.get (f:=RdYP 5 134 r A0 n0 c0 Y s))) ?_)))
 rintro _ W ⟨rfl,hp,hf⟩
 replace H:=H.mut (f:=RdYP 5 134 r A0 n0 c0 Y s) (f':=RdYP 5 134 r A0 n0 c0 Y s1) hf hp (fun _ h=>h)
 clear hp hf
 refine sf (esk (l.map u8v) U U U ts24 (by rw [List.length_map,hll]) (all_u8L _) H (by simp) (spl_all (by rw [List.length_map,List.length_replicate,hll])) ?_)
 clear H;intro W H
 refine ln (kx ?_)
 exact q_dret (g:=g2) U U Tryz.func152 U U U (recHash W (gat_of (H.blk (g:=g0)))) (fun W2 hb=>by
  replace H:=H.below hb
  exact ⟨_,loadsM ta24 (by rw [List.length_map,hll];exact ts24) (H.blk (g:=g2)),⟨_,U,U,H.get (f:=RdYP 5 134 r A0 n0 c0 Y s1),H.fr⟩⟩)

theorem rdBadBlob {A0:Option Addr} {n0 c0 r:Nat} {Y:List UInt8->Prop} {s:RS} (w:World) (hR:(RdYP 5 134 r A0 n0 c0 Y s).p w) (hs:s.2≠0) {fo:FuncId} {pre cap:Array Value}:Calls Tryz.prog 120 [.pointer (some ⟨r,0,none⟩),.func (.func fo) pre cap].toArray w (Ret (fun v' w'=>v'=(.slice none 0 0)∧(RdYP 5 134 r A0 n0 c0 Y ([],s.2)).p w'∧Fr (RdT r A0 n0 c0) w w')):=by
 have hne:=RdB.ne hR
 obtain ⟨A,c,o,ys,hY,hL,hH,hn0,hc0,H0⟩:=RdB.two hR
 refine k_enterD (l:=[_,_]) Tryz.func120 U U ?_
 have H:=H0
 refine kR (sf (ebx (vs:=[.pointer (some ⟨r,0,none⟩)]) U U H ?_))
 clear H;intro g0 W H
 refine sf (eal [.slice none 0 0] tz41 H ?_)
 clear H;intro g2 W H
 refine lkR (sR (d_mkf U U U) (sf (e_defer (wn U) U U U ?_)))
 refine ln (kQ (k_drawP 6 [(0,true),(1,true),(2,true),(3,true),(4,true),(5,true),(6,true),(7,true),(8,true),(9,false)] _ (by kernel_rfl) (by kernel_rfl) (by kernel_rfl) H (.refl _) ?_))
 clear H;intro W H
 refine cR U (fun W H=>d_ld U H U ta89 U) (cR U (fun W H=>d_nil U U) (cFa U U tf134_1 (cR U (fun W H=>d_ld U H U ta42 U) (cR U (fun W H=>d_eq U U U) (cR U (fun W H=>d_ld U H U ta89 U) (cR U (fun W H=>d_nil U U) (cFa U U tf134_1 (cR U (fun W H=>d_ld U H U ta42 U) (cf U (e_callP (wn U) U Tryz.func153 U U U (mustBad _ _ (by simpa using hs)) ?_))))))))))
 intro W hb
 replace H:=H.below hb
 replace H:=RdB.close2 hY H hL
 refine p_lo (fun a hd hlo=>?_)
 have hap:=List.pairwise_cons.1 H.apart
 have hap2:=List.pairwise_cons.1 hap.2
 have hT2:¬RdT r A0 n0 c0 g2:=fun h=>hap.1 _ (.head _) g2 h rfl
 have hT0:¬RdT r A0 n0 c0 g0:=fun h=>hap.1 _ (.tail _ (.head _)) g0 h rfl
 have h02:¬g0=g2:=fun h=>hap2.1 _ (.head _) g2 rfl h.symm
 have hge:w.heap.size<=g2:=(H.own _ (.tail _ (.head _)) g2 rfl).1.resolve_left hT2
 exact q_dpan (g:=g2) U hd (getD_lo hlo (by decide) U) Tryz.func158 U U U (recPBlob W (H.get (f:=RdYP 5 134 r A0 n0 c0 Y s)) hs (gat_of (H.blk (g:=g0))) hT0 h02 (H.blk (g:=g2)) U hT2) (fun W2 h=>⟨_,loads1 ta41 h.2.1,⟨_,U,U,h.1,H.fr.trans h.2.2 (fun g hg hh=>hh.elim (fun e=>absurd hge (by omega)) id)⟩⟩)

theorem rdPanBlob {A0 : Option Addr} {n0 c0 r : Nat} {Y : List UInt8 → Prop} {s : RS} (w : World) (hR : (RdYP 5 134 r A0 n0 c0 Y s).p w) (hs : s.2 = 0) {fo : FuncId} {fno : Func} {pre cap : Array Value} {lo : List Value} (hfo : Tryz.prog.funcs[fo]? = some fno) (hbo : fno.body.isNone = false) (hno : (fno.name == "runtime.NumGoroutine") = false) (hlo : pre.toList ++ cap.toList = lo) {k : Int} (hk : k ≠ 0) (hone : ∀ W, Fr (RdT r A0 n0 c0) w W → (RdYP 5 134 r A0 n0 c0 Y s).p W → Calls Tryz.prog fo lo.toArray W (Pan (why k) (fun w' => (∃ s', (RdYP 5 134 r A0 n0 c0 Y s').p w') ∧ Fr (RdT r A0 n0 c0) W w'))) : Calls Tryz.prog 120 [.pointer (some ⟨r, 0, none⟩), .func (.func fo) pre cap].toArray w (Ret (fun v' w' => v' = (.slice none 0 0) ∧ (RdYP 5 134 r A0 n0 c0 Y ([], k)).p w' ∧ Fr (RdT r A0 n0 c0) w w')) := by
 have hne:=RdB.ne hR
 obtain ⟨A,c,o,ys,hY,hL,hH,hn0,hc0,H0⟩:=RdB.two hR
 refine k_enterD (l:=[_,_]) Tryz.func120 U U ?_
 have H:=H0
 refine kR (sf (ebx (vs:=[.pointer (some ⟨r,0,none⟩)]) U U H ?_))
 clear H;intro g0 W H
 refine sf (eal [.slice none 0 0] tz41 H ?_)
 clear H;intro g2 W H
 refine lkR (sR (d_mkf U U U) (sf (e_defer (wn U) U U U ?_)))
 refine ln (kQ (k_drawP 6 [(0,true),(1,true),(2,true),(3,true),(4,true),(5,true),(6,true),(7,true),(8,true),(9,false)] _ (by kernel_rfl) (by kernel_rfl) (by kernel_rfl) H (.refl _) ?_))
 clear H;intro W H
 refine cR U (fun W H=>d_ld U H U ta89 U) (cR U (fun W H=>d_nil U U) (cFa U U tf134_1 (cR U (fun W H=>d_ld U H U ta42 U) (cR U (fun W H=>d_eq U U U) (cR U (fun W H=>d_ld U H U ta89 U) (cR U (fun W H=>d_nil U U) (cFa U U tf134_1 (cR U (fun W H=>d_ld U H U ta42 U) (cf U (eI Tryz.func153 U U (mustOk _ _ (by simpa using hs)) H ?_))))))))))
 clear H;intro W H
 refine ⟨H.sb,?_⟩
 refine c_nilP ?_
 replace H:=RdB.close2 hY H hL
 refine kR (sMf U (sf (e_callvP (wn U) U U hfo hbo hno (by simpa using hlo) (hone W H.fr (H.get (f:=RdYP 5 134 r A0 n0 c0 Y s))) ?_)))
 rintro W ⟨⟨s',hp⟩,hf⟩
 replace H:=H.mut (f:=RdYP 5 134 r A0 n0 c0 Y s) (f':=RdYP 5 134 r A0 n0 c0 Y s') hf hp (fun _ h=>h)
 have hap:=List.pairwise_cons.1 H.apart
 have hap2:=List.pairwise_cons.1 hap.2
 have hT2:¬RdT r A0 n0 c0 g2:=fun h=>hap.1 _ (.head _) g2 h rfl
 have hT0:¬RdT r A0 n0 c0 g0:=fun h=>hap.1 _ (.tail _ (.head _)) g0 h rfl
 have h02:¬g0=g2:=fun h=>hap2.1 _ (.head _) g2 rfl h.symm
 have hge:w.heap.size<=g2:=(H.own _ (.tail _ (.head _)) g2 rfl).1.resolve_left hT2
 exact q_dpan (g:=g2) U U (by rw [st_getD];rfl) Tryz.func158 U U U (recPBlob W (H.get (f:=RdYP 5 134 r A0 n0 c0 Y s')) hk (gat_of (H.blk (g:=g0))) hT0 h02 (H.blk (g:=g2)) U hT2) (fun W2 h=>⟨_,loads1 ta41 h.2.1,⟨_,U,U,h.1,H.fr.trans h.2.2 (fun g hg hh=>hh.elim (fun e=>absurd hge (by omega)) id)⟩⟩)

theorem rdOkBlob {A0 : Option Addr} {n0 c0 r : Nat} {Y : List UInt8 → Prop} {s s1 : RS} (w : World) (hR : (RdYP 5 134 r A0 n0 c0 Y s).p w) (hs : s.2 = 0) {fo : FuncId} {fno : Func} {pre cap : Array Value} {lo : List Value} (hfo : Tryz.prog.funcs[fo]? = some fno) (hbo : fno.body.isNone = false) (hno : (fno.name == "runtime.NumGoroutine") = false) (hlo : pre.toList ++ cap.toList = lo) {l : List UInt8} (hone : ∀ W, Fr (RdT r A0 n0 c0) w W → (RdYP 5 134 r A0 n0 c0 Y s).p W → Calls Tryz.prog fo lo.toArray W (Ret (fun v' w' => (RdYB 5 134 r A0 n0 c0 Y v' l s1).p w' ∧ Fr (RdT r A0 n0 c0) W w'))) : Calls Tryz.prog 120 [.pointer (some ⟨r, 0, none⟩), .func (.func fo) pre cap].toArray w (Ret (fun v' w' => (RdYB 5 134 r A0 n0 c0 Y v' l s1).p w' ∧ Fr (RdT r A0 n0 c0) w w')) := by
 have hne:=RdB.ne hR
 obtain ⟨A,c,o,ys,hY,hL,hH,hn0,hc0,H0⟩:=RdB.two hR
 refine k_enterD (l:=[_,_]) Tryz.func120 U U ?_
 have H:=H0
 refine kR (sf (ebx (vs:=[.pointer (some ⟨r,0,none⟩)]) U U H ?_))
 clear H;intro g0 W H
 refine sf (eal [.slice none 0 0] tz41 H ?_)
 clear H;intro g2 W H
 refine lkR (sR (d_mkf U U U) (sf (e_defer (wn U) U U U ?_)))
 refine ln (kQ (k_drawP 6 [(0,true),(1,true),(2,true),(3,true),(4,true),(5,true),(6,true),(7,true),(8,true),(9,false)] _ (by kernel_rfl) (by kernel_rfl) (by kernel_rfl) H (.refl _) ?_))
 clear H;intro W H
 refine cR U (fun W H=>d_ld U H U ta89 U) (cR U (fun W H=>d_nil U U) (cFa U U tf134_1 (cR U (fun W H=>d_ld U H U ta42 U) (cR U (fun W H=>d_eq U U U) (cR U (fun W H=>d_ld U H U ta89 U) (cR U (fun W H=>d_nil U U) (cFa U U tf134_1 (cR U (fun W H=>d_ld U H U ta42 U) (cf U (eI Tryz.func153 U U (mustOk _ _ (by simpa using hs)) H ?_))))))))))
 clear H;intro W H
 refine ⟨H.sb,?_⟩
 refine c_nilP ?_
 replace H:=RdB.close2 hY H hL
 refine kR (sMf U (sf (e_callv (wn U) U U U hfo hbo hno (by simpa using hlo) (hone W H.fr (H.get (f:=RdYP 5 134 r A0 n0 c0 Y s))) ?_)))
 rintro _ W ⟨hp,hf⟩
 obtain ⟨B1,d1,rfl⟩:=RdB.form hp
 replace H:=H.mut (f:=RdYP 5 134 r A0 n0 c0 Y s) (f':=RdYB 5 134 r A0 n0 c0 Y (.slice B1 l.length d1) l s1) hf hp (fun _ h=>h)
 clear hp hf
 refine sf (e_sto (wn U) U U U U U ts41 U H U ?_)
 clear H;intro W H
 refine ln (kx ?_)
 exact q_dret (g:=g2) U U Tryz.func158 U U U (recBlob W (gat_of (H.blk (g:=g0)))) (fun W2 hb=>by
  replace H:=H.below hb
  exact ⟨_,loads1 ta41 (H.blk (g:=g2)),⟨_,U,H.get (f:=RdYB 5 134 r A0 n0 c0 Y (.slice B1 l.length d1) l s1),H.fr⟩⟩)

theorem oneHashP {A0:Option Addr} {n0 c0 r:Nat} {Y:List UInt8->Prop} {s:RS} {gb:Nat} (w:World) (hR:(RdYP 5 134 r A0 n0 c0 Y s).p w) (hgb:Gat w gb [.pointer (some ⟨r,0,none⟩)]) (hTb:¬RdT r A0 n0 c0 gb) (he:s.2=0) (hn:(Pk.next 32 s).2.2≠0):Calls Tryz.prog 114 [.pointer (some ⟨gb,0,none⟩)].toArray w (Pan (why 4) (fun w'=>(∃s',(RdYP 5 134 r A0 n0 c0 Y s').p w')∧Fr (RdT r A0 n0 c0) w w')):=by
 refine kE (l:=[_]) Tryz.func114 U U ?_
 have H:=St.begin (f:=RdYP 5 134 r A0 n0 c0 Y s) hR (RdB.lt hR)
 refine kR (sf (eal [.int .u8 0,.int .u8 0,.int .u8 0,.int .u8 0,.int .u8 0,.int .u8 0,.int .u8 0,.int .u8 0,.int .u8 0,.int .u8 0,.int .u8 0,.int .u8 0,.int .u8 0,.int .u8 0,.int .u8 0,.int .u8 0,.int .u8 0,.int .u8 0,.int .u8 0,.int .u8 0,.int .u8 0,.int .u8 0,.int .u8 0,.int .u8 0,.int .u8 0,.int .u8 0,.int .u8 0,.int .u8 0,.int .u8 0,.int .u8 0,.int .u8 0,.int .u8 0] tz24 H ?_))
 clear H;intro g1 W H
 refine lkR (sR (d_ldG U ((H.gatT hgb hTb)) U ta89 U) (sf (e_callP (wn U) U Tryz.func115 U U U (takeSE (l:=(Pk.next 32 s).1) (s':=(Pk.next 32 s).2) _ (by rfl) (by rfl) (H.get (f:=RdYP 5 134 r A0 n0 c0 Y s)) he hn) ?_)))
 rintro W ⟨hp,hf⟩
 replace H:=H.mut (f:=RdYP 5 134 r A0 n0 c0 Y s) (f':=RdYP 5 134 r A0 n0 c0 Y s) hf hp (fun _ h=>h)
 exact ⟨U,U,⟨_,H.get (f:=RdYP 5 134 r A0 n0 c0 Y s)⟩,H.fr⟩

theorem oneHash {A0:Option Addr} {n0 c0 r:Nat} {Y:List UInt8->Prop} {s:RS} {gb:Nat} (w:World) (hR:(RdYP 5 134 r A0 n0 c0 Y s).p w) (hgb:Gat w gb [.pointer (some ⟨r,0,none⟩)]) (hTb:¬RdT r A0 n0 c0 gb) (he:s.2=0) (hn:(Pk.next 32 s).2.2=0):Calls Tryz.prog 114 [.pointer (some ⟨gb,0,none⟩)].toArray w (Ret (fun v' w'=>v'=.agg ((Pk.next 32 s).1.map u8v).toArray∧(RdYP 5 134 r A0 n0 c0 Y (Pk.next 32 s).2).p w'∧Fr (RdT r A0 n0 c0) w w')):=by
 have hln:(Pk.next 32 s).1.length=32:=(Pk.next_eq (n:=32) (s:=s) rfl).1 hn
 refine kE (l:=[_]) Tryz.func114 U U ?_
 have H:=St.begin (f:=RdYP 5 134 r A0 n0 c0 Y s) hR (RdB.lt hR)
 refine kR (sf (eal (List.replicate 32 (u8v 0)) tz24 H ?_))
 clear H;intro g1 W H
 refine lkR (sR (d_ldG U ((H.gatT hgb hTb)) U ta89 U) (sf (ecl Tryz.func115 U U (takeE (l:=(Pk.next 32 s).1) (s':=(Pk.next 32 s).2) _ (by rfl) (by rfl) (H.get (f:=RdYP 5 134 r A0 n0 c0 Y s)) he hn) ?_)))
 rintro _ W ⟨hp1,hf1⟩
 obtain ⟨B1,d1,rfl⟩:=RdB.form hp1
 replace H:=H.mut (f:=RdYP 5 134 r A0 n0 c0 Y s) (f':=RdYB 5 134 r A0 n0 c0 Y (.slice B1 (List.length (Pk.next 32 s).1) d1) (Pk.next 32 s).1 (Pk.next 32 s).2) hf1 hp1 (fun _ h=>h)
 clear hp1 hf1
 refine sR (d_s2a U U tu24 (by omega)) (sR (d_ldmA U (RdB.rd (H.get (f:=RdYB 5 134 r A0 n0 c0 Y (.slice B1 (List.length (Pk.next 32 s).1) d1) (Pk.next 32 s).1 (Pk.next 32 s).2))) U ta24 (by rw [hln];exact ts24) (by omega)) ?_)
 refine sf (esk ((Pk.next 32 s).1.map u8v) U U U ts24 (by rw [List.length_map,hln]) (all_u8L _) H (by simp) (spl_all (by rw [List.length_map,List.length_replicate,hln])) ?_)
 clear H;intro W H
 refine ln (kx ?_)
 exact q_retc (g:=g1) (t':=24) U H U ta24 (by rw [List.length_map,hln];exact ts24) ⟨_,U,U,RdB.toP (H.get (f:=RdYB 5 134 r A0 n0 c0 Y (.slice B1 (List.length (Pk.next 32 s).1) d1) (Pk.next 32 s).1 (Pk.next 32 s).2)),H.fr⟩

theorem rdHash {A0:Option Addr} {n0 c0 r:Nat} {Y:List UInt8->Prop} {s:RS} {gb:Nat} (w:World) (hR:(RdYP 5 134 r A0 n0 c0 Y s).p w) (hgb:Gat w gb [.pointer (some ⟨r,0,none⟩)]) (hTb:¬RdT r A0 n0 c0 gb) (hok:Pk.Ok s):Calls Tryz.prog 113 [.pointer (some ⟨r,0,none⟩),.func (.func 114) #[] [.pointer (some ⟨gb,0,none⟩)].toArray].toArray w (Ret (fun v' w'=>v'=.agg ((Pk.rBytes 32 s).1.map u8v).toArray∧(RdYP 5 134 r A0 n0 c0 Y (Pk.rBytes 32 s).2).p w'∧Fr (RdT r A0 n0 c0) w w')):=by
 by_cases he:s.2=0
 ·by_cases hn:(Pk.next 32 s).2.2=0
  ·have hln:(Pk.next 32 s).1.length=32:=(Pk.next_eq (n:=32) (s:=s) rfl).1 hn
   have e:(Pk.rBytes 32 s).1=(Pk.next 32 s).1:=by unfold Pk.rBytes Pk.full;rw [hln];simp
   rw [e]
   exact rdOkHash w hR he Tryz.func114 U U U hln (fun W hf hp=>oneHash W hp (hgb.frT hf hTb) hTb he hn)
  ·have h2:=(Pk.next_s (n:=32) (s:=s) rfl he).2 hn
   have e:Pk.rBytes 32 s=(List.replicate 32 0,([],4)):=by unfold Pk.rBytes;rw [Pk.next_short he h2.1];rfl
   rw [e,List.map_replicate]
   exact rdPanHash w hR he Tryz.func114 U U U (by decide) (fun W hf hp=>oneHashP W hp (hgb.frT hf hTb) hTb he hn)
 ·have e:Pk.rBytes 32 s=(List.replicate 32 0,([],s.2)):=by unfold Pk.rBytes;rw [Pk.next_bad he,Pk.full];simp only [List.nil_append,List.length_nil,Nat.sub_zero];rw [←hok.1 he]
  rw [e,List.map_replicate]
  exact rdBadHash w hR he

theorem prgHash {A0:Option Addr} {n0 c0 r:Nat} {Y:List UInt8->Prop} {s:RS} (w:World) (hR:(RdYP 5 134 r A0 n0 c0 Y s).p w) (hok:Pk.Ok s):Calls Tryz.prog 60 [.pointer (some ⟨r,0,none⟩)].toArray w (Ret (fun v' w'=>v'=.agg ((Pk.rBytes 32 s).1.map u8v).toArray∧(RdYP 5 134 r A0 n0 c0 Y (Pk.rBytes 32 s).2).p w'∧Fr (RdT r A0 n0 c0) w w')):=by
 have hlb:(Pk.rBytes 32 s).1.length=32:=Pk.len_full Pk.next_len
 refine kE (l:=[_]) Tryz.func60 U U ?_
 have H:=St.begin (f:=RdYP 5 134 r A0 n0 c0 Y s) hR (RdB.lt hR)
 refine kR (sf (ebx (vs:=[.pointer (some ⟨r,0,none⟩)]) U U H ?_))
 clear H;intro g0 W H
 refine sf (eal (List.replicate 32 (u8v 0)) tz24 H ?_)
 clear H;intro g1 W H
 refine lkR (sR (d_ld U H U ta89 U) (sR (d_mkf U U U) (sf (ecl Tryz.func113 U U (rdHash _ (H.get (f:=RdYP 5 134 r A0 n0 c0 Y s)) (gat_of (H.blk (g:=g0))) ((List.pairwise_cons.1 (List.pairwise_cons.1 H.apart).2).1 _ (.head _) g0 U) hok) ?_))))
 rintro _ W ⟨rfl,hp,hf⟩
 replace H:=H.mut (f:=RdYP 5 134 r A0 n0 c0 Y s) (f':=RdYP 5 134 r A0 n0 c0 Y (Pk.rBytes 32 s).2) hf hp (fun _ h=>h)
 clear hp hf
 refine sf (esk ((Pk.rBytes 32 s).1.map u8v) U U U ts24 (by rw [List.length_map,hlb]) (all_u8L _) H (by simp) (spl_all (by rw [List.length_map,List.length_replicate,hlb])) ?_)
 clear H;intro W H
 refine ln (kx ?_)
 exact q_retc (g:=g1) (t':=24) U H U ta24 (by rw [List.length_map,hlb];exact ts24) ⟨_,U,U,H.get (f:=RdYP 5 134 r A0 n0 c0 Y (Pk.rBytes 32 s).2),H.fr⟩

theorem rInt_bad0 {s:RS} (hok:Pk.Ok s) (he:s.2≠0):Pk.rInt s=(0,([],s.2)):=by
 have h0:=hok.1 he
 unfold Pk.rInt
 rw [Pk.next_bad he]
 rcases s with ⟨s1,s2⟩
 simp only at h0
 subst h0
 rfl
theorem rCount_bad0 {s:RS} {m:Int} (hok:Pk.Ok s) (he:s.2≠0):Pk.rC m s=(0,([],s.2)):=by
 unfold Pk.rC
 rw [rInt_bad0 hok he,if_neg (fun h=>he h.1)]
theorem rBlob_bad0 {s:RS} {m:Int} (h:(Pk.rC m s).2.2≠0):Pk.rB m s=([],(Pk.rC m s).2):=by
 unfold Pk.rB
 rw [Pk.next_bad h]
theorem rdInt {A0:Option Addr} {n0 c0 r:Nat} {Y:List UInt8->Prop} {s:RS} (w:World) (hR:(RdYP 5 134 r A0 n0 c0 Y s).p w) (hok:Pk.Ok s) (hG:Gat w 0 formsC) (hT:¬RdT r A0 n0 c0 0):Calls Tryz.prog 116 [.pointer (some ⟨r,0,none⟩),.func (.func 117) [.pointer (some ⟨r,0,none⟩)].toArray #[]].toArray w (Ret (fun v' w'=>v'=.int .i64 ((Pk.rInt s).1:Int)∧(RdYP 5 134 r A0 n0 c0 Y (Pk.rInt s).2).p w'∧Fr (RdT r A0 n0 c0) w w')):=by
 by_cases he:s.2=0
 ·by_cases hn:(Pk.rInt s).2.2=0
  ·exact rdOkInt w hR he Tryz.func117 U U U (fun W hf hp=>(number W hp (hG.frT hf hT) hT he).1 hn)
  ·have e:=(number w hR hG hT he).2 hn
   have e1:Pk.rInt s=(0,([],(Pk.rInt s).2.2)):=e.1
   have h:=rdPanInt w hR he Tryz.func117 rfl rfl (lo:=[.pointer (some ⟨r,0,none⟩)]) (pre:=[.pointer (some ⟨r,0,none⟩)].toArray) (cap:=#[]) rfl hn (fun W hf hp=>((number W hp (hG.frT hf hT) hT he).2 hn).2)
   rw [e1]
   exact h
 ·have e:=rInt_bad0 hok he
  rw [e]
  exact rdBadInt w hR he

theorem prgInt {A0:Option Addr} {n0 c0 r:Nat} {Y:List UInt8->Prop} {s:RS} (w:World) (hR:(RdYP 5 134 r A0 n0 c0 Y s).p w) (hok:Pk.Ok s) (hG:Gat w 0 formsC) (hT:¬RdT r A0 n0 c0 0):Calls Tryz.prog 61 [.pointer (some ⟨r,0,none⟩)].toArray w (Ret (fun v' w'=>v'=.int .i64 ((Pk.rInt s).1:Int)∧(RdYP 5 134 r A0 n0 c0 Y (Pk.rInt s).2).p w'∧Fr (RdT r A0 n0 c0) w w')):=by
 refine kE (l:=[_]) Tryz.func61 U U ?_
 have H:=St.begin (f:=RdYP 5 134 r A0 n0 c0 Y s) hR (RdB.lt hR)
 refine kR (sAi U (lkR (sMp U (sMp U (sR (d_mkf U U U) (sf (ecl Tryz.func116 U U (rdInt _ (H.get (f:=RdYP 5 134 r A0 n0 c0 Y s)) hok (H.gatT hG hT) hT) ?_)))))))
 rintro _ W ⟨rfl,hp,hf⟩
 replace H:=H.mut (f:=RdYP 5 134 r A0 n0 c0 Y s) (f':=RdYP 5 134 r A0 n0 c0 Y (Pk.rInt s).2) hf hp (fun _ h=>h)
 clear hp hf
 refine sAi U (ln (kx ?_))
 exact qr (v:=.int _ _) U U ⟨_,U,U,H.get (f:=RdYP 5 134 r A0 n0 c0 Y (Pk.rInt s).2),H.fr⟩

theorem rdCount {A0:Option Addr} {n0 c0 r:Nat} {Y:List UInt8->Prop} {s:RS} {gb gm:Nat} {m:Int} (w:World) (hR:(RdYP 5 134 r A0 n0 c0 Y s).p w) (hok:Pk.Ok s) (hG:Gat w 0 formsC) (hT:¬RdT r A0 n0 c0 0) (hgb:Gat w gb [.pointer (some ⟨r,0,none⟩)]) (hTb:¬RdT r A0 n0 c0 gb) (hgm:Gat w gm [.int .i64 m]) (hTm:¬RdT r A0 n0 c0 gm):Calls Tryz.prog 116 [.pointer (some ⟨r,0,none⟩),.func (.func 118) #[] [.pointer (some ⟨gb,0,none⟩),.pointer (some ⟨gm,0,none⟩)].toArray].toArray w (Ret (fun v' w'=>v'=.int .i64 ((Pk.rC m s).1:Int)∧(RdYP 5 134 r A0 n0 c0 Y (Pk.rC m s).2).p w'∧Fr (RdT r A0 n0 c0) w w')):=by
 by_cases he:s.2=0
 ·by_cases hn:(Pk.rC m s).2.2=0
  ·exact rdOkInt w hR he Tryz.func118 U U U (fun W hf hp=>oneCount W hp (hG.frT hf hT) hT he (hgb.frT hf hTb) hTb (hgm.frT hf hTm) hTm hn)
  ·have e1:Pk.rC m s=(0,([],(Pk.rC m s).2.2)):=((count w hR hG hT he).2 hn).1
   have h:=rdPanInt w hR he Tryz.func118 rfl rfl (lo:=[.pointer (some ⟨gb,0,none⟩),.pointer (some ⟨gm,0,none⟩)]) (pre:=#[]) (cap:=[.pointer (some ⟨gb,0,none⟩),.pointer (some ⟨gm,0,none⟩)].toArray) rfl hn (fun W hf hp=>oneCountP W hp (hG.frT hf hT) hT he (hgb.frT hf hTb) hTb (hgm.frT hf hTm) hTm hn)
   rw [e1]
   exact h
 ·have e:=rCount_bad0 (m:=m) hok he
  rw [e]
  exact rdBadInt w hR he
theorem rdBlob {A0:Option Addr} {n0 c0 r:Nat} {Y:List UInt8->Prop} {s:RS} {gb gm:Nat} {m:Int} (w:World) (hR:(RdYP 5 134 r A0 n0 c0 Y s).p w) (hok:Pk.Ok s) (hG:Gat w 0 formsC) (hT:¬RdT r A0 n0 c0 0) (hgb:Gat w gb [.pointer (some ⟨r,0,none⟩)]) (hTb:¬RdT r A0 n0 c0 gb) (hgm:Gat w gm [.int .i64 m]) (hTm:¬RdT r A0 n0 c0 gm):Calls Tryz.prog 120 [.pointer (some ⟨r,0,none⟩),.func (.func 121) #[] [.pointer (some ⟨gb,0,none⟩),.pointer (some ⟨gm,0,none⟩)].toArray].toArray w (Ret (fun v' w'=>(RdYB 5 134 r A0 n0 c0 Y v' (Pk.rB m s).1 (Pk.rB m s).2).p w'∧Fr (RdT r A0 n0 c0) w w')):=by
 by_cases he:s.2=0
 ·by_cases hn:(Pk.rC m s).2.2=0
  ·by_cases hb:(Pk.rB m s).2.2=0
   ·exact rdOkBlob w hR he Tryz.func121 U U U (fun W hf hp=>oneBlob W hp (hG.frT hf hT) hT he (hgb.frT hf hTb) hTb (hgm.frT hf hTm) hTm hn hb)
   ·have h2:=((Pk.next_s (n:=(Pk.rC m s).1) (s:=(Pk.rC m s).2) rfl hn).2 hb)
    have e1:Pk.rB m s=([],([],4)):=by unfold Pk.rB;rw [Pk.next_short hn h2.1]
    have h:=rdPanBlob w hR he Tryz.func121 rfl rfl (lo:=[.pointer (some ⟨gb,0,none⟩),.pointer (some ⟨gm,0,none⟩)]) (pre:=#[]) (cap:=[.pointer (some ⟨gb,0,none⟩),.pointer (some ⟨gm,0,none⟩)].toArray) (k:=4) rfl (by decide) (fun W hf hp=>oneBlobQ W hp (hG.frT hf hT) hT he (hgb.frT hf hTb) hTb (hgm.frT hf hTm) hTm hn hb)
    rw [e1]
    exact Calls.mono h (fun e w' h=>by obtain ⟨v,h1,rfl,h2⟩:=h;exact ⟨_,h1,h2⟩)
  ·have e1:Pk.rC m s=(0,([],(Pk.rC m s).2.2)):=((count w hR hG hT he).2 hn).1
   have h:=rdPanBlob w hR he Tryz.func121 rfl rfl (lo:=[.pointer (some ⟨gb,0,none⟩),.pointer (some ⟨gm,0,none⟩)]) (pre:=#[]) (cap:=[.pointer (some ⟨gb,0,none⟩),.pointer (some ⟨gm,0,none⟩)].toArray) rfl hn (fun W hf hp=>oneBlobP W hp (hG.frT hf hT) hT he (hgb.frT hf hTb) hTb (hgm.frT hf hTm) hTm hn)
   rw [rBlob_bad0 hn,e1]
   exact Calls.mono h (fun e w' h=>by obtain ⟨v,h1,rfl,h2⟩:=h;exact ⟨_,h1,h2⟩)
 ·have e:=rCount_bad0 (m:=m) hok he
  have e2:Pk.rB m s=([],([],s.2)):=by rw [rBlob_bad0 (by rw [e];exact he),e]
  rw [e2]
  exact Calls.mono (rdBadBlob w hR he) (fun e w' h=>by obtain ⟨v,h1,rfl,h2⟩:=h;exact ⟨_,h1,h2⟩)

theorem prgCount {A0:Option Addr} {n0 c0 r:Nat} {Y:List UInt8->Prop} {s:RS} {m:Int} (w:World) (hR:(RdYP 5 134 r A0 n0 c0 Y s).p w) (hok:Pk.Ok s) (hG:Gat w 0 formsC) (hT:¬RdT r A0 n0 c0 0):Calls Tryz.prog 62 [.pointer (some ⟨r,0,none⟩),.int .i64 m].toArray w (Ret (fun v' w'=>v'=.int .i64 ((Pk.rC m s).1:Int)∧(RdYP 5 134 r A0 n0 c0 Y (Pk.rC m s).2).p w'∧Fr (RdT r A0 n0 c0) w w')):=by
 refine kE (l:=[_,_]) Tryz.func62 U U ?_
 have H:=St.begin (f:=RdYP 5 134 r A0 n0 c0 Y s) hR (RdB.lt hR)
 refine kR (sf (ebx (vs:=[.pointer (some ⟨r,0,none⟩)]) U U H ?_))
 clear H;intro g0 W H
 refine sf (ebx (vs:=[.int .i64 m]) U U H ?_)
 clear H;intro gm W H
 refine sAi U (lkR (sR (d_ld U H U ta89 U) (sR (d_mkf U U U) (sf (ecl Tryz.func116 U U (rdCount _ (H.get (f:=RdYP 5 134 r A0 n0 c0 Y s)) hok (H.gatT hG hT) hT (gat_of (H.blk (g:=g0))) ((List.pairwise_cons.1 (List.pairwise_cons.1 H.apart).2).1 _ (.head _) g0 U) (gat_of (H.blk (g:=gm))) ((List.pairwise_cons.1 H.apart).1 _ (.tail _ (.head _)) gm U)) ?_)))))
 rintro _ W ⟨rfl,hp,hf⟩
 replace H:=H.mut (f:=RdYP 5 134 r A0 n0 c0 Y s) (f':=RdYP 5 134 r A0 n0 c0 Y (Pk.rC m s).2) hf hp (fun _ h=>h)
 clear hp hf
 refine sAi U (ln (kx ?_))
 exact qr (v:=.int _ _) U U ⟨_,U,U,H.get (f:=RdYP 5 134 r A0 n0 c0 Y (Pk.rC m s).2),H.fr⟩

theorem prgBlob {A0:Option Addr} {n0 c0 r:Nat} {Y:List UInt8->Prop} {s:RS} {m:Int} (w:World) (hR:(RdYP 5 134 r A0 n0 c0 Y s).p w) (hok:Pk.Ok s) (hG:Gat w 0 formsC) (hT:¬RdT r A0 n0 c0 0):Calls Tryz.prog 63 [.pointer (some ⟨r,0,none⟩),.int .i64 m].toArray w (Ret (fun v' w'=>(RdYB 5 134 r A0 n0 c0 Y v' (Pk.rB m s).1 (Pk.rB m s).2).p w'∧Fr (RdT r A0 n0 c0) w w')):=by
 refine kE (l:=[_,_]) Tryz.func63 U U ?_
 have H:=St.begin (f:=RdYP 5 134 r A0 n0 c0 Y s) hR (RdB.lt hR)
 refine kR (sf (ebx (vs:=[.pointer (some ⟨r,0,none⟩)]) U U H ?_))
 clear H;intro g0 W H
 refine sf (ebx (vs:=[.int .i64 m]) U U H ?_)
 clear H;intro gm W H
 refine sAs U (lkR (sR (d_ld U H U ta89 U) (sR (d_mkf U U U) (sf (ecl Tryz.func120 U U (rdBlob _ (H.get (f:=RdYP 5 134 r A0 n0 c0 Y s)) hok (H.gatT hG hT) hT (gat_of (H.blk (g:=g0))) ((List.pairwise_cons.1 (List.pairwise_cons.1 H.apart).2).1 _ (.head _) g0 U) (gat_of (H.blk (g:=gm))) ((List.pairwise_cons.1 H.apart).1 _ (.tail _ (.head _)) gm U)) ?_)))))
 rintro _ W ⟨hp1,hf1⟩
 obtain ⟨B1,d1,rfl⟩:=RdB.form hp1
 replace H:=H.mut (f:=RdYP 5 134 r A0 n0 c0 Y s) (f':=RdYB 5 134 r A0 n0 c0 Y (.slice B1 (List.length (Pk.rB m s).1) d1) (Pk.rB m s).1 (Pk.rB m s).2) hf1 hp1 (fun _ h=>h)
 clear hp1 hf1
 refine sAs U (ln (kx ?_))
 exact qr (v:=.slice _ _ _) U U ⟨_,U,H.get (f:=RdYB 5 134 r A0 n0 c0 Y (.slice B1 (List.length (Pk.rB m s).1) d1) (Pk.rB m s).1 (Pk.rB m s).2),H.fr⟩
end Go.Proofs.YtfhhfhdnhadooaaGreatDoor
