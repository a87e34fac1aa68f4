import Derived.Test.YtfhhfhdnhadooaaGreatDoorMSP
import Derived.Test.YtfhhfhdnhadooaaGreatDoorMBL
import Derived.Test.YtfhhfhdnhadooaaGreatDoorMBG
set_option linter.unusedVariables false
set_option linter.unusedSimpArgs false
set_option maxHeartbeats 4000000

namespace Go.Proofs.YtfhhfhdnhadooaaGreatDoor
open Go Go.RowKit

structure ZD where
 A:Option Addr
 c:Nat
 B:Option Addr
 d:Nat
 t:DTx
def ZD.cs (z:ZD):List Value:=txC z.A z.t.ins.length z.c z.B z.t.outs.length z.d z.t.lock
def Zs (eI eO:Nat):List ZD->(Nat->Prop)->World->Prop
 | [],_,_=>True
 | z::l,S,W=>∃S1 S2,Zp eI eO S1 z.A z.c z.B z.d z.t W∧Zs eI eO l S2 W∧(∀g,S1 g->S g∧¬S2 g)∧∀g,S2 g->S g
section
variable {eI eO:Nat} {W W':World}
theorem Zs.keep:∀{l:List ZD} {S:Nat->Prop},Zs eI eO l S W->(∀g,S g->W'.heap[g]?=W.heap[g]?)->Zs eI eO l S W'
 | [],_,_,_=>trivial
 | z::l,S,⟨S1,S2,h1,h2,h3,h4⟩,k=>⟨S1,S2,h1.keep (fun g hg=>k g (h3 g hg).1),h2.keep (fun g hg=>k g (h4 g hg)),h3,h4⟩
theorem Zs.snoc {z:ZD} {S1:Nat->Prop} (hz:Zp eI eO S1 z.A z.c z.B z.d z.t W):∀{l:List ZD} {S:Nat->Prop},Zs eI eO l S W->(∀g,S1 g->¬S g)->Zs eI eO (l++[z]) (fun g=>S1 g∨S g) W
 | [],S,_,_=>⟨S1,fun _=>False,hz,trivial,fun g hg=>⟨.inl hg,fun h=>h⟩,fun g hg=>hg.elim⟩
 | x::l,S,⟨Sx,Sr,h1,h2,h3,h4⟩,hd=>⟨Sx,fun g=>S1 g∨Sr g,h1,Zs.snoc hz h2 (fun g hg hr=>hd g hg (h4 g hr)),fun g hg=>⟨.inr (h3 g hg).1,fun e=>e.elim (fun e=>hd g e (h3 g hg).1) (h3 g hg).2⟩,fun g hg=>hg.imp_right (h4 g)⟩
theorem Zs.rep:∀{l:List ZD} {S:Nat->Prop} {i:Nat} {z:ZD},Zs eI eO l S W->l[i]?=some z->RTx W (0<=·) z.cs z.t
 | [],_,_,_,_,h=>by simp at h
 | x::l,S,0,z,⟨S1,S2,h1,_⟩,h=>by
  obtain rfl:x=z:=by simpa using h
  exact mono_Tx _ _ _ _ _ h1.r (fun g _ _=>Nat.zero_le _)
 | x::l,S,i+1,z,⟨S1,S2,_,h2,_⟩,h=>Zs.rep h2 (by simpa using h)
end
def Fact.zs (eI eO:Nat) (S:Nat->Prop) (l:List ZD):Fact:=⟨S,Zs eI eO l S,fun _ _ h k=>h.keep (fun g hg=>k g hg)⟩
abbrev zcs (l:List ZD):List Value:=(l.map ZD.cs).flatten
theorem zcs_snoc {l:List ZD} {z:ZD}:zcs (l++[z])=zcs l++z.cs:=by simp [zcs]
theorem zcs_sub {l:List ZD} {i:Nat} {z:ZD} (h:l[i]?=some z):sub (zcs l) (i*3) 3=z.cs :=
 sub_flat (s:=3) (l.map ZD.cs) i z.cs (fun c hc=>by
  obtain ⟨x,_,rfl⟩:=List.mem_map.1 hc
  rfl) (by rw [List.getElem?_map,h];rfl)
def Zb (e eI eO:Nat) (S:Nat->Prop) (A:Option Addr) (n c:Nat) (l:List ZD) (W:World):Prop:=W.ownsRow 0 e 3 (.slice A n c) n (zcs l)∧Zs eI eO l S W∧∀g,ownB A n c g->¬S g
def Fact.zb (e eI eO:Nat) (S:Nat->Prop) (A:Option Addr) (n c:Nat) (l:List ZD):Fact :=
 ⟨fun g=>ownB A n c g∨S g,Zb e eI eO S A n c l,fun _ _ h k=>⟨ownsRow_keep h.1 (fun g hg=>k g (.inl hg)),h.2.1.keep (fun g hg=>k g (.inr hg)),h.2.2⟩⟩
section
variable {T:Nat->Prop} {w0 W:World} {L:List Fact} {eI eO e:Nat}
theorem St.split2 {F f1 f2:Fact} (H:St T w0 W (F::L)) (p1:f1.p W) (p2:f2.p W) (a1:∀g,f1.fp g->F.fp g∧¬f2.fp g) (a2:∀g,f2.fp g->F.fp g):St T w0 W (f1::f2::L):=by
 have h1:=List.pairwise_cons.1 H.apart
 refine ⟨H.fr,fun x hx=>?_,fun x hx g hg=>?_,List.pairwise_cons.2 ⟨fun x hx g hg=>?_,List.pairwise_cons.2 ⟨fun x hx g hg=>h1.1 x hx g (a2 g hg),h1.2⟩⟩⟩
 ·simp only [List.mem_cons] at hx
  rcases hx with rfl|rfl|hx
  ·exact p1
  ·exact p2
  ·exact H.holds x (.tail _ hx)
 ·simp only [List.mem_cons] at hx
  rcases hx with rfl|rfl|hx
  ·exact H.own _ (.head _) g (a1 g hg).1
  ·exact H.own _ (.head _) g (a2 g hg)
  ·exact H.own x (.tail _ hx) g hg
 ·simp only [List.mem_cons] at hx
  rcases hx with rfl|hx
  ·exact (a1 g hg).2
  ·exact h1.1 x hx g (a1 g hg).1
theorem St.zs0 (H:St T w0 W L) (eI eO:Nat):St T w0 W (Fact.zs eI eO (fun _=>False) []::L):=by
 refine ⟨H.fr,fun x hx=>?_,fun x hx g hg=>?_,List.pairwise_cons.2 ⟨fun x _ g hg=>(hg:False).elim,H.apart⟩⟩
 ·rcases List.mem_cons.1 hx with rfl|hx
  ·exact trivial
  ·exact H.holds x hx
 ·rcases List.mem_cons.1 hx with rfl|hx
  ·exact (hg:False).elim
  ·exact H.own x hx g hg
theorem St.zsnoc {S1 S:Nat->Prop} {A:Option Addr} {c:Nat} {B:Option Addr} {d:Nat} {t:DTx} {l:List ZD} (H:St T w0 W (Fact.z eI eO S1 A c B d t::Fact.zs eI eO S l::L)):St T w0 W (Fact.zs eI eO (fun g=>S1 g∨S g) (l++[⟨A,c,B,d,t⟩])::L):=by
 have h1:Zp eI eO S1 A c B d t W:=H.holds _ (.head _)
 have h2:Zs eI eO l S W:=H.holds _ (.tail _ (.head _))
 exact H.merge (F:=Fact.zs eI eO _ _) (Zs.snoc (z:=⟨A,c,B,d,t⟩) h1 h2 (fun g hg=>(List.pairwise_cons.1 H.apart).1 _ (.head _) g hg)) (fun g hg=>hg)
theorem St.zhead {S:Nat->Prop} {z:ZD} {l:List ZD} (H:St T w0 W (Fact.zs eI eO S (z::l)::L)):∃S1 S2,St T w0 W (Fact.z eI eO S1 z.A z.c z.B z.d z.t::Fact.zs eI eO S2 l::L):=by
 obtain ⟨S1,S2,h1,h2,h3,h4⟩:Zs eI eO (z::l) S W:=H.holds _ (.head _)
 exact ⟨S1,S2,H.split2 (f1:=Fact.z eI eO S1 z.A z.c z.B z.d z.t) (f2:=Fact.zs eI eO S2 l) h1 h2 h3 h4⟩
theorem St.zbmk {S:Nat->Prop} {A:Option Addr} {n c:Nat} {l:List ZD} (H:St T w0 W (Fact.row e 3 (.slice A n c) n (zcs l)::Fact.zs eI eO S l::L)):St T w0 W (Fact.zb e eI eO S A n c l::L):=by
 have h1:W.ownsRow 0 e 3 (.slice A n c) n (zcs l):=H.holds _ (.head _)
 have h2:Zs eI eO l S W:=H.holds _ (.tail _ (.head _))
 exact H.merge (F:=Fact.zb e eI eO S A n c l) ⟨h1,h2,fun g hg=>(List.pairwise_cons.1 H.apart).1 _ (.head _) g hg⟩ (fun g hg=>hg)
theorem zb_rl {S:Nat->Prop} {A:Option Addr} {c:Nat} {l:List ZD} {ts:List DTx} {n:Nat} (h:Zb e eI eO S A n c l W) (hn:l.length=n) (ht:l.map (·.t)=ts):RL 3 RTx W (0<=·) [.slice A ts.length c] ts:=by
 subst hn ht
 have hr:=Rd.of_own h.1
 obtain ⟨_,_,hv,hc1,hc2⟩:=row_form h.1
 cases hv
 refine ⟨A,c,zcs l,by rw [List.length_map],by rw [List.length_map];exact hc1,hc2,by rw [List.length_map];exact hr,fun i x hx=>?_⟩
 rw [List.getElem?_map] at hx
 cases hz:l[i]? with
 | none=>rw [hz] at hx;cases hx
 | some z =>
  rw [hz] at hx
  obtain rfl:z.t=x:=by simpa using hx
  rw [zcs_sub hz]
  exact h.2.1.rep hz
end
end Go.Proofs.YtfhhfhdnhadooaaGreatDoor

namespace Go.Proofs.YtfhhfhdnhadooaaGreatDoor
open Go Go.RowKit
attribute [local irreducible] wpList

theorem markT (i:Int) (w:World) (h1:0<=i∧i<=1000000000000000):Calls Tryz.prog 111 [.int .i64 i].toArray w (Ret (Is w (.agg (txC none 0 0 none 0 0 (-9 - i)).toArray))):=by
 refine kE (l:=[_]) Tryz.func111 U U ?_
 have H:=St.start nT w
 refine kR (sf (eal [.slice none 0 0,.slice none 0 0,.int .i64 0] tz34 H ?_))
 clear H;intro go W H
 refine lkR (sMi U (sR (d_sub U U U (by omega)) (sR (dB (vs:=txC none 0 0 none 0 0 (-9 - i)) U (built_fields (places:=[(0,1),(1,1),(2,1)]) tz34 (by kernel_rfl) (by kernel_rfl) (fill_skip 2 (fN (vs:=[.int .i64 (-9 - i)]) (.int .i64 (-9 - i)) U (by rfl) U U (Nat.le_of_ble_eq_true U) (fill_end (by rfl)))))) ?_)))
 refine sf (esk (txC none 0 0 none 0 0 (-9 - i)) U U U ts34 U U H (by decide) U ?_)
 clear H;intro W H
 refine ln (kx ?_)
 exact q_retc U (c:=txC none 0 0 none 0 0 (-9 - i)) (g:=go) H U ta34 (by rw [show (txC none 0 0 none 0 0 (-9 - i)).length=3 from U];exact ts34) ⟨_,U,U,H.under⟩

theorem spoilTs {A:Option Addr} {m c:Nat} {xs:List Value} (w:World) (hR:w.ownsRow 0 34 3 (.slice A m c) m xs) (hm:m<=1000000000000):Calls Tryz.prog 58 [.slice A m c].toArray w (Ret (fun v' w'=>v'=.tuple #[]∧Fr (fun g=>(Value.slice A m c).ownBlock=some g) w w')):=by
 have H0:=St.begin (f:=Fact.row 34 3 (.slice A m c) m xs) hR (fun g hg=>own_lt hR hg)
 refine kE (l:=[_]) Tryz.func58 U U ?_
 have H:=H0
 refine kR (sAi U (ln (kb (kL 2 [] (fun mm sl W=>∃i:Nat,∃ys:List Value,m - i=mm∧sl=[(2,.int .i64 (i:Int))]∧(i<=m)∧St (fun g=>(Value.slice A m c).ownBlock=some g) w W [Fact.row 34 3 (.slice A m c) m ys]) _ _ ⟨0,xs,U,U,Nat.zero_le _,H⟩ ⟨U,trivial⟩ (fun mm sl ρv W hJ=>?_)))))
 clear H;obtain ⟨i,ys,rfl,rfl,hi,H⟩:=hJ
 refine ko (kQ (kR (sMi U (sMs U (sLn U tu22 (sLt U U (ln (kC U (fun hc6=>?_) (fun hc6=>?_)))))))))
 ·replace hc6:=of_decide_eq_true hc6
  have hlt:i<m:=by omega
  obtain ⟨g0,rfl⟩:=row_own (H.get (f:=Fact.row 34 3 (.slice A m c) m ys)) (by omega)
  have hmul:=Nat.mul_le_mul_right 3 (show i+1<=m by omega)
  rw [Nat.add_mul] at hmul
  refine kS (kQ (kb (kr (sMs U (sMi U (sMi U (sAd U U (by omega) (sf (eI Tryz.func111 U U (markT _ _ ⟨by omega,by omega⟩) H ?_)))))))))
  clear H;intro W H
  refine sR (d_iaP (q:=i) U U U U hlt tu22 ts34) (sf (e_stoGM (g:=g0) (q:=0+i*3) (e:=34) (s:=3) (m:=m) (c:=c) (vs:=txC none 0 0 none 0 0 (-9 - ((i:Int)+7))) (wn U) U U U U U (by rw [show (txC none 0 0 none 0 0 (-9 - ((i:Int)+7))).length=3 from U];exact ts34) U H (by rw [show (txC none 0 0 none 0 0 (-9 - ((i:Int)+7))).length=3 from U];omega) ?_))
  clear H;intro W ys2 H
  refine ln (kn (zE (kI U U U (by omega) U (kn (kY ?_)))))
  refine ⟨_,_,_,?_,U,?_,?_,⟨i+1,_,U,U,by omega,H⟩⟩
  ·omega
  ·with_reducible repeat first|exact .refl|refine .f ?_ ?_ ?_;kernel_rfl;kernel_rfl|refine .u ?_ ?_;kernel_rfl
  ·refine ⟨?_,trivial⟩
   ·exact vi (by omega)
 ·skip
  refine ke (xt (xt ?_))
  exact xH (kn (q_end0 U ⟨_,U,U,H.fr⟩))

theorem lt_ofB {T:Nat->Prop} {w0 W:World} {L:List Fact} {f:Fact} (H:St T w0 W L) [hi:In f L]:∀g,f.fp g->g<W.heap.size:=fun g hg=>(H.own f hi.mem g hg).2

theorem spoilBlock {S:Nat->Prop} {A:Option Addr} {n c:Nat} {l:List ZD} {h:DHeader} (w:World) (hh:Bk.OkH h) (hz:Zb 34 64 66 S A n c l w) (hlt:∀g,(ownB A n c g∨S g)->g<w.heap.size) (hn:n=l.length) (hm:n<=1000000):Calls Tryz.prog 27 [.agg (bC h A n c).toArray].toArray w (Ret (fun v' w'=>v'=.tuple #[]∧Fr (fun g=>ownB A n c g∨S g) w w')):=by
 have H9:=St.begin (f:=Fact.zb 34 64 66 S A n c l) hz hlt
 have H0:St (fun g=>ownB A n c g∨S g) w w [Fact.row 34 3 (.slice A n c) n (zcs l),Fact.zs 64 66 S (l)]:=H9.split2 (f1:=Fact.row 34 3 (.slice A n c) n (zcs l)) (f2:=Fact.zs 64 66 S (l)) hz.1 hz.2.1 (fun g hg=>⟨.inl hg,hz.2.2 g hg⟩) (fun g hg=>.inr hg)
 clear H9
 refine kE (l:=[_]) Tryz.func27 U U ?_
 have H:=H0
 refine kR (sf (ebx (vs:=(bC h A n c)) U U H ?_))
 clear H;intro gm W H
 refine ln (kQ (kR (sAi U (ln (kb (kL 2 [] (fun mm sl W=>∃i:Nat,∃S':Nat->Prop,n - i=mm∧sl=[(2,.int .i64 (i:Int))]∧(i<=n)∧St (fun g=>ownB A n c g∨S g) w W [Fact.blk gm (bC h A n c) 28,Fact.row 34 3 (.slice A n c) n (zcs l),Fact.zs 64 66 S' (l.drop i)]) _ _ ⟨0,S,U,U,Nat.zero_le _,H⟩ ⟨U,trivial⟩ (fun mm sl ρv W hJ=>?_)))))))
 clear H;obtain ⟨i,S',rfl,rfl,hi,H⟩:=hJ
 refine ko (kQ (kR (sMi U (sFa U tf28_1 (sR (dX (g:=gm) (off:=65) U H (sub_b_txs hh) U U ta22) (sLn U tu22 (sLt U U (ln (kC U (fun hc7=>?_) (fun hc7=>?_))))))))))
 ·have hlt2:i<n:=by simp at hc7;omega
  obtain ⟨g1,rfl⟩:=row_own (H.get (f:=Fact.row 34 3 (.slice A n c) n (zcs l))) (by omega)
  obtain ⟨z,hz1⟩:=get_lt (l:=l) (i:=i) (by omega)
  have hdr:l.drop i=z::l.drop (i+1):=by
   obtain ⟨q1,q2⟩:=List.getElem?_eq_some_iff.1 hz1
   rw [←q2,List.drop_eq_getElem_cons q1]
  rw [hdr] at H
  obtain ⟨S1,S2,H9⟩:=St.zhead (H.perm (List.perm_middle (l₁:=[_,_])))
  clear H
  have H:St _ w W [Fact.z 64 66 S1 z.A z.c z.B z.d z.t,Fact.zs 64 66 S2 (l.drop (i+1)),Fact.blk gm (bC h (some ⟨g1,0,none⟩) n c) 28,Fact.row 34 3 (.slice (some ⟨g1,0,none⟩) n c) n (zcs l)]:=H9
  clear H9
  refine kS (kQ (kb (kr (sFa U tf28_1 (sR (dX (g:=gm) (off:=65) U H (sub_b_txs hh) U U ta22) (sMi U (sR (d_iaP (q:=i) U U U U hlt2 tu22 ts34) (sR (dN (off:=0) (q:=i) U (Rd.of_own (H.get (f:=Fact.row 34 3 (.slice (some ⟨g1,0,none⟩) n c) n (zcs l)))) hlt2 (zcs_sub hz1) (sa (a:=z.cs) (m:=3) U) U U (by omega) ta34 ts34) (sf (ecl Tryz.func57 U U (spoilTx _ (H.get (f:=Fact.z 64 66 S1 z.A z.c z.B z.d z.t)) (lt_ofB (f:=Fact.z 64 66 S1 z.A z.c z.B z.d z.t) H)) ?_))))))))))
  rintro _ W ⟨rfl,hf_⟩
  replace H:=H.mut (f:=Fact.z 64 66 S1 z.A z.c z.B z.d z.t) (f':=Fact.gone) hf_ trivial (fun _ h=>h.elim)
  clear hf_
  refine ln (kn (zE (kI U U U (by omega) U (kn (kY ?_)))))
  refine ⟨_,_,_,?_,U,?_,?_,⟨i+1,S2,U,U,by omega,(H.drop.perm (List.perm_middle (l₁:=[_,_])).symm)⟩⟩
  ·omega
  ·with_reducible repeat first|exact .refl|refine .f ?_ ?_ ?_;kernel_rfl;kernel_rfl|refine .u ?_ ?_;kernel_rfl
  ·refine ⟨?_,trivial⟩
   ·exact vi (by omega)
 ·skip
  refine ke (xt (xt ?_))
  refine xH (kr (sFa U tf28_1 (sR (dX (g:=gm) (off:=65) U H (sub_b_txs hh) U U ta22) (sf (ecl Tryz.func58 U U (spoilTs _ (H.get (f:=Fact.row 34 3 (.slice A n c) n (zcs l))) (by omega)) ?_)))))
  rintro _ W ⟨rfl,hf_⟩
  replace H:=H.mut (f:=Fact.row 34 3 (.slice A n c) n (zcs l)) (f':=Fact.gone) hf_ trivial (fun _ h=>h.elim)
  clear hf_
  exact ln (kn (q_end0 U ⟨_,U,U,H.fr⟩))

def GotBZ (w:World) (b:List UInt8) (v:Value) (w':World):Prop:=∃S A c zl,v=.tuple #[.agg (bC (Bk.get BTG b).1.header A (Bk.get BTG b).1.txs.length c).toArray,.int .i64 (Bk.get BTG b).2]∧zl.map (fun z:ZD=>z.t)=(Bk.get BTG b).1.txs∧St nT w w' [Fact.zb 34 64 66 S A (Bk.get BTG b).1.txs.length c zl]
theorem zb_nil {T:Nat->Prop} {w0 W:World} {L:List Fact} (H:St T w0 W L):St T w0 W (Fact.zb 34 64 66 (fun _=>False) none 0 0 []::L):=((H.zs0 64 66).nilrow 34 3).zbmk

theorem getBZ {S:Nat->Prop} {v:Value} {b:List UInt8} (w:World) (hb:Bs w S v b) (hbl:b.length<=1000000000000) (hG:Gat w 0 formsC) (hB:Old.Gl w):Calls Tryz.prog 29 [v].toArray w (Ret (GotBZ w b)):=by
 have hb0:=hb
 obtain ⟨Ab,cb,rfl,_,_,_⟩:=hb.op
 have hh:=BgH_ok b
 have hok0:Pk.Ok (b,0):=⟨fun h=>absurd rfl h,(show (0:Int)<=0 by decide),(show (0:Int)<=24 by decide)⟩
 have hok1:Pk.Ok (BgA b).2:=Pk.ok_next hok0
 have hok2:Pk.Ok (BgB b).2:=Pk.ok_next hok1
 have hok3:Pk.Ok (BgC b).2:=Pk.ok_rInt hok2
 have hcb:=count_bound (m:=16) (s:=(BgC b).2) (by decide)
 have hlr:(BgL b).1.length=(Pk.rC 16 (BgC b).2).1:=len_rMany _ _
 have hl1:((BgA b).1.map u8v).length=32:=by rw [List.length_map];exact hh.1
 have hl2:((BgB b).1.map u8v).length=32:=by rw [List.length_map];exact hh.2.1
 refine kE (l:=[_]) Tryz.func29 U U ?_
 have H:=St.start nT w
 refine kR (sf (eal (bC zHd none 0 0) tz28 H ?_))
 clear H;intro go W H
 refine sAi U (lkR (sMs U (sf (ecl Tryz.func59 U U (prgReadY _ (H.bs hb0) hbl) ?_))))
 rintro _ W ⟨r,A0,c0,rfl,hn⟩
 replace H:=H.add1 hn
 clear hn
 have h0:¬RdT r A0 b.length c0 0:=H.away (f:=RdYP 5 134 r A0 b.length c0 (·=b) (b,0)) hG.1
 refine sAp U (lkR (sMp U (sf (ecl Tryz.func60 U U (prgHash _ (H.get (f:=RdYP 5 134 r A0 b.length c0 (·=b) (b,0))) hok0) ?_))))
 rintro _ W ⟨rfl,hp_,hf_⟩
 replace H:=H.mut (f:=RdYP 5 134 r A0 b.length c0 (·=b) (b,0)) (f':=RdYP 5 134 r A0 b.length c0 (·=b) (BgA b).2) hf_ hp_ (fun _ h=>h)
 clear hp_ hf_
 refine sMp U (sf (ecl Tryz.func60 U U (prgHash _ (H.get (f:=RdYP 5 134 r A0 b.length c0 (·=b) (BgA b).2)) hok1) ?_))
 rintro _ W ⟨rfl,hp_,hf_⟩
 replace H:=H.mut (f:=RdYP 5 134 r A0 b.length c0 (·=b) (BgA b).2) (f':=RdYP 5 134 r A0 b.length c0 (·=b) (BgB b).2) hf_ hp_ (fun _ h=>h)
 clear hp_ hf_
 refine sMp U (sf (ecl Tryz.func61 U U (prgInt _ (H.get (f:=RdYP 5 134 r A0 b.length c0 (·=b) (BgB b).2)) hok2 (H.gat hG) h0) ?_))
 rintro _ W ⟨rfl,hp_,hf_⟩
 replace H:=H.mut (f:=RdYP 5 134 r A0 b.length c0 (·=b) (BgB b).2) (f':=RdYP 5 134 r A0 b.length c0 (·=b) (BgC b).2) hf_ hp_ (fun _ h=>h)
 clear hp_ hf_
 refine sR (dB (vs:=hdrC (BgH b)) U (built_fields (places:=[(0,32),(32,32),(64,1)]) tz26 (by kernel_rfl) (by kernel_rfl) (fN (vs:=(BgA b).1.map u8v) (.agg ((BgA b).1.map u8v).toArray) U U U hl1 (Nat.le_of_ble_eq_true U) (fN (vs:=(BgB b).1.map u8v) (.agg ((BgB b).1.map u8v).toArray) U (by first|(simp [hl1];done)|(simp [hl1];omega)) U hl2 (Nat.le_of_ble_eq_true U) (fN (vs:=[.int .i64 ((BgC b).1:Int)]) (.int .i64 ((BgC b).1:Int)) U (by first|(simp [hl1,hl2];done)|(simp [hl1,hl2];omega)) U U (Nat.le_of_ble_eq_true U) (fill_end (by rw [List.drop_drop,List.drop_drop,List.drop_of_length_le (by rw [len_hdr zHd_ok];exact Nat.le_refl _)];simp [hdrC,BgH]))))))) ?_
 refine sR (dB (vs:=bC (BgH b) none 0 0) U (built_fields (places:=[(0,65),(65,1)]) tz28 (by kernel_rfl) (by kernel_rfl) (fN (vs:=hdrC (BgH b)) (.agg (hdrC (BgH b)).toArray) U U U (len_hdr hh) (Nat.le_of_ble_eq_true U) (fill_end (by rfl))))) ?_
 refine sf (eal (bC zHd none 0 0) tz28 H ?_)
 clear H;intro gb W H
 refine sf (esk (bC (BgH b) none 0 0) U U U ts28 (lB hh) blk_one H (by rw [lB zHd_ok];decide) (spl_all ((lB hh).trans (lB zHd_ok).symm)) ?_)
 clear H;intro W H
 refine lkR (sAs U (ln (kQ (kR (sMp U (sf (ecl Tryz.func62 U U (prgCount (m:=16) _ (H.get (f:=RdYP 5 134 r A0 b.length c0 (·=b) (BgC b).2)) hok3 (H.gat hG) h0) ?_)))))))
 rintro _ W ⟨rfl,hp_,hf_⟩
 replace H:=H.mut (f:=RdYP 5 134 r A0 b.length c0 (·=b) (BgC b).2) (f':=RdYP 5 134 r A0 b.length c0 (·=b) (Pk.rC 16 (BgC b).2).2) hf_ hp_ (fun _ h=>h)
 clear hp_ hf_
 refine sMi U (ln (kb (kL 25 [6] (fun mm sl W=>∃i:Nat,∃A2:Option Addr,∃c2:Nat,∃ys:List Value,∃S2:Nat->Prop,(Pk.rC 16 (BgC b).2).1 - i=mm∧sl=[(25,.int .i64 (i:Int)),(6,.slice A2 i c2)]∧(i<=(Pk.rC 16 (BgC b).2).1)∧(i<=c2∧c2<=9223372036854775807)∧St nT w W [Fact.row 41 1 (.slice A2 i c2) i ys,Fact.els (RBH A0 b) 1 S2 ys (rMany (Pk.rB 16384) i (Pk.rC 16 (BgC b).2).2).1,Fact.blk gb (bC (BgH b) none 0 0) 28,RdYP 5 134 r A0 b.length c0 (·=b) (rMany (Pk.rB 16384) i (Pk.rC 16 (BgC b).2).2).2,Fact.blk go (bC zHd none 0 0) 28]) _ _ ⟨0,none,0,[],(fun _=>False),U,U,Nat.zero_le _,⟨Nat.le_refl _,by omega⟩,((H.els0 (RBH A0 b) 1).nilrow 41 1)⟩ ⟨U,U,trivial⟩ (fun mm sl ρv W hJ=>?_))))
 clear H;obtain ⟨i,A2,c2,ys,S2,rfl,rfl,hi,hd,H⟩:=hJ
 refine ko (kR (sLt U U (ln (kQ (kC U (fun hc26=>?_) (fun hc26=>?_))))))
 ·replace hc26:=of_decide_eq_true hc26
  have hlt:i<(Pk.rC 16 (BgC b).2).1:=by omega
  have hoki:=(sane_many (sane_blob (m:=16384)) i).2 _ (Pk.ok_rCount (m:=16) hok3)
  refine kS (kQ (kb (kr (sMs U (sMp U (sf (ecl Tryz.func63 U U (prgBlob (m:=16384) _ (H.get (f:=RdYP 5 134 r A0 b.length c0 (·=b) (rMany (Pk.rB 16384) i (Pk.rC 16 (BgC b).2).2).2)) hoki (H.gat hG) h0) ?_)))))))
  rintro _ W ⟨hp_,hf_⟩
  obtain ⟨B1,d1,rfl⟩:=RdB.form hp_
  have hH:=held_of hp_
  replace H:=H.mut (f:=RdYP 5 134 r A0 b.length c0 (·=b) (rMany (Pk.rB 16384) i (Pk.rC 16 (BgC b).2).2).2) (f':=RdYP 5 134 r A0 b.length c0 (·=b) (Pk.rB 16384 (rMany (Pk.rB 16384) i (Pk.rC 16 (BgC b).2).2).2).2) hf_ (RdB.toP hp_) (fun _ h=>h)
  clear hp_ hf_
  replace H:=H.flat (R:=RBH A0 b) (cs:=[.slice B1 (Pk.rB 16384 (rMany (Pk.rB 16384) i (Pk.rC 16 (BgC b).2).2).2).1.length d1]) (a:=(Pk.rB 16384 (rMany (Pk.rB 16384) i (Pk.rC 16 (BgC b).2).2).2).1) ⟨_,rfl,hH⟩
  refine sf (ebs (xs:=[.tmp 29]) (vals:=[.slice _ _ _]) (vs:=[.slice _ _ _]) U U U U tu62 ts41 ty41 U U U H ?_)
  clear H;intro g6_3 W H
  refine sf (eap tu62 tx41 U U U H (rd_blk (m:=1) H.blk U) (U) (by omega) U ?_)
  clear H;intro A1 c1 W hc1 hd1 H
  replace H:=H.drop
  refine sAs U (ln ?_)
  replace H:=(St.elsnoc (H.perm (.cons _ (.swap _ _ _))) rfl).perm (.swap _ _ _)
  refine kn (zE (kr (sAd U U (by omega) (sMi U (ln (kn (kY ?_)))))))
  refine ⟨_,_,_,?_,U,?_,?_,⟨i+1,A1,c1,_,_,U,U,by omega,⟨hc1,hd1⟩,H⟩⟩
  ·omega
  ·with_reducible repeat first|exact .refl|refine .f ?_ ?_ ?_;kernel_rfl;kernel_rfl|refine .u ?_ ?_;kernel_rfl
  ·refine ⟨?_,?_,trivial⟩
   ·exact vi (by omega)
   ·exact U
 ·replace hc26:=of_decide_eq_false hc26
  obtain rfl:i=(Pk.rC 16 (BgC b).2).1:=by omega
  replace H:St nT w W [Fact.row 41 1 (.slice A2 (Pk.rC 16 (BgC b).2).1 c2) (Pk.rC 16 (BgC b).2).1 ys,Fact.els (RBH A0 b) 1 S2 ys (BgL b).1,Fact.blk gb (bC (BgH b) none 0 0) 28,RdYP 5 134 r A0 b.length c0 (·=b) (BgL b).2,Fact.blk go (bC zHd none 0 0) 28]:=H
  have H2:=H.perm (L':=[Fact.blk gb (bC (BgH b) none 0 0) 28,Fact.row 41 1 (.slice A2 (Pk.rC 16 (BgC b).2).1 c2) (Pk.rC 16 (BgC b).2).1 ys,Fact.els (RBH A0 b) 1 S2 ys (BgL b).1,RdYP 5 134 r A0 b.length c0 (·=b) (BgL b).2,Fact.blk go (bC zHd none 0 0) 28]) (List.perm_middle (l₁:=[_,_]))
  clear H
  refine ke (xt (xt ?_))
  refine xH (kQ (kQ ?_))
  have H:=H2
  clear H2
  refine kr (sMp U (sf (eI Tryz.func64 U U (prgEnd _ (H.get (f:=RdYP 5 134 r A0 b.length c0 (·=b) (BgL b).2))) H ?_)))
  clear H;intro W H
  refine sAi U (lkR (sMi U (sNe U U (ln (kC U (fun hc36=>?_) (fun hc36=>?_))))))
  ·have he:Pk.rEnd (BgL b).2≠0:=by simpa using hc36
   refine kR (sR (dB (vs:=bC zHd none 0 0) U (by kernel_rfl)) ?_)
   refine sMi U (sf (esk (bC zHd none 0 0) U U U ts28 (lB zHd_ok) blk_one H (by rw [lB zHd_ok];decide) (spl_all ((lB zHd_ok).trans (lB zHd_ok).symm)) ?_))
   clear H;intro W H
   refine sAi U (ln (kx ?_))
   have hge:Bk.get BTG b=(Bk.zero,Pk.rEnd (BgL b).2):=bget_1 he
   refine q_cell2 U (c:=bC zHd none 0 0) (g:=go) (v:=.int .i64 (Pk.rEnd (BgL b).2)) H U ta28 (by rw [lB zHd_ok];exact ts28) U ⟨_,U,(fun _=>False),none,0,[],by rw [hge];rfl,by rw [hge];rfl,?_⟩
   rw [hge]
   exact zb_nil (H.sub (L':=[]) (List.nil_sublist _))
  ·have he:Pk.rEnd (BgL b).2=0:=by simpa using hc36
   have H2:=H
   refine kS (kQ (kR (sMs U (sLn U tu62 (sMi U (ln (kb (kL 41 [3,9,10,11] (fun mm sl W=>∃i:Nat,∃A3:Option Addr,∃c3:Nat,∃zl:List ZD,∃S3:Nat->Prop,(Pk.rC 16 (BgC b).2).1 - i=mm∧sl=[(41,.int .i64 (i:Int))]∧(i<=(Pk.rC 16 (BgC b).2).1)∧(i<=c3∧c3<=9223372036854775807)∧(Bk.getErr ((BgL b).1.take i)=0)∧(zl.map (fun z:ZD=>z.t)=gots ((BgL b).1.take i))∧St nT w W [Fact.row 34 3 (.slice A3 i c3) i (zcs zl),Fact.zs 64 66 S3 zl,Fact.blk gb (bC (BgH b) A3 i c3) 28,Fact.row 41 1 (.slice A2 (Pk.rC 16 (BgC b).2).1 c2) (Pk.rC 16 (BgC b).2).1 ys,Fact.els (RBH A0 b) 1 S2 ys (BgL b).1,RdYP 5 134 r A0 b.length c0 (·=b) (BgL b).2,Fact.blk go (bC zHd none 0 0) 28]) _ _ ⟨0,none,0,[],(fun _=>False),U,U,Nat.zero_le _,⟨Nat.le_refl _,by omega⟩,U,U,((H2.zs0 64 66).nilrow 34 3)⟩ ⟨U,trivial⟩ (fun mm sl ρv W hJ=>?_)))))))))
   clear H;obtain ⟨i,A3,c3,zl,S3,rfl,rfl,hi,hd3,he3,hzl,H⟩:=hJ
   refine ko (kR (sLt U U (ln (kQ (kC U (fun hc42=>?_) (fun hc42=>?_))))))
   ·have hlt:i<(Pk.rC 16 (BgC b).2).1:=by simp at hc42;omega
    obtain ⟨x,hx⟩:=get_lt (l:=(BgL b).1) (by omega:i<(BgL b).1.length)
    obtain ⟨g2,rfl⟩:=row_own (H.get (f:=Fact.row 41 1 (.slice A2 (Pk.rC 16 (BgC b).2).1 c2) (Pk.rC 16 (BgC b).2).1 ys)) (by omega)
    have hels:=H.get (f:=Fact.els (RBH A0 b) 1 S2 ys (BgL b).1)
    obtain ⟨Ax,cx,hLx,hbx,hxl⟩:=rbh_bs (H.get (f:=RdYP 5 134 r A0 b.length c0 (·=b) (BgL b).2)) (hels.2 i x hx)
    refine kS (kQ (kb (kR (sR (dG (q:=i) U (H.rowrd (A:=some ⟨g2,0,none⟩)) U U U hlt tu62 ts41) (sR (dE (q:=i) (off:=0) U (H.rowrd (A:=some ⟨g2,0,none⟩)) hlt hLx U U U (by omega) ta41) (sAs U (lkR (sMs U (sf (ecl Tryz.func65 U U (getTP _ hbx (by omega) (H.gat hG)) ?_))))))))))
    rintro _ W hs_
    obtain ⟨Sg4,Ag4,cg4,Bg4,dg4,rfl,H1_⟩:=GotTx.z hs_ H (by omega)
    clear H hs_
    have H:=H1_
    clear H1_
    refine sMt U (sEx U U (sEx U U (sf (eal [.slice none 0 0,.slice none 0 0,.int .i64 0] tz34 H ?_))))
    clear H;intro gt W H
    refine sf (esk (txC Ag4 (Tx.get x).1.ins.length cg4 Bg4 (Tx.get x).1.outs.length dg4 (Tx.get x).1.lock) U U U ts34 U U H (by decide) U ?_)
    clear H;intro W H
    refine sAi U (ln (kQ (kR (sMi U (sNe U U (ln (kC U (fun hc51=>?_) (fun hc51=>?_))))))))
    ·have hxe:(Tx.get x).2≠0:=by simpa using hc51
     refine kR (sR (dB (vs:=bC zHd none 0 0) U (by kernel_rfl)) ?_)
     refine sMi U (sf (esk (bC zHd none 0 0) U U U ts28 (lB zHd_ok) blk_one H (by rw [lB zHd_ok];decide) (spl_all ((lB zHd_ok).trans (lB zHd_ok).symm)) ?_))
     clear H;intro W H
     refine sAi U (ln (kx ?_))
     have hxg:=(gerr_at he3 hx hxe).symm
     rw [hxg] at hxe ⊢
     have hge:Bk.get BTG b=(Bk.zero,Bk.getErr (BgL b).1):=bget_2 he hxe
     refine q_cell2 U (c:=bC zHd none 0 0) (g:=go) (v:=.int .i64 (Bk.getErr (BgL b).1)) H U ta28 (by rw [lB zHd_ok];exact ts28) U ⟨_,U,(fun _=>False),none,0,[],by rw [hge];rfl,by rw [hge];rfl,?_⟩
     rw [hge]
     exact zb_nil (H.sub (L':=[]) (List.nil_sublist _))
    ·have hxe:(Tx.get x).2=0:=by simpa using hc51
     refine kS (kr (sFa U tf28_1 (sR (dX (g:=gb) (off:=65) U H (sub_b_txs hh) U U ta22) (sR (dM (g:=gt) (off:=0) U H (sa (a:=txC Ag4 (Tx.get x).1.ins.length cg4 Bg4 (Tx.get x).1.outs.length dg4 (Tx.get x).1.lock) (m:=3) U) U U U U ta34 ts34) (sf (ebs (xs:=[.tmp 56]) (vals:=[.agg (txC Ag4 (Tx.get x).1.ins.length cg4 Bg4 (Tx.get x).1.outs.length dg4 (Tx.get x).1.lock).toArray]) (vs:=(txC Ag4 (Tx.get x).1.ins.length cg4 Bg4 (Tx.get x).1.outs.length dg4 (Tx.get x).1.lock)) U U U U tu22 ts34 ty34 U (by simp [agg_cells,txC]) (by simp [agg_cells]) H ?_))))))
     clear H;intro g17_3 W H
     refine sf (eap tu22 tx34 U U U H (rd_blk (m:=1) H.blk U) (U) (by omega) U ?_)
     clear H;intro A5 c5 W hc5 hd5 H
     replace H:=H.drop
     refine sFa U tf28_1 (sf (esk (v:=.slice A5 (i+1) c5) (vs:=[.slice A5 (i+1) c5]) (bC (BgH b) A5 (i+1) c5) U U U ts22 U U H (by rw [lB hh];decide) (spl_b_txs hh) ?_))
     clear H;intro W H
     refine ln ?_
     replace H:=H.drop
     replace H:=(St.zsnoc (H.perm (.cons _ (.swap _ _ _)))).perm (.swap _ _ _)
     refine kn (zE (kr (sAd U U (by omega) (sMi U (ln (kn (kY ?_)))))))
     have e9:gots ((BgL b).1.take (i+1))=gots ((BgL b).1.take i)++[(Tx.get x).1]:=by rw [take_get hx];simp [gots]
     refine ⟨_,_,_,?_,U,?_,?_,⟨i+1,A5,c5,zl++[⟨Ag4,cg4,Bg4,dg4,(Tx.get x).1⟩],_,U,U,by omega,⟨hc5,hd5⟩,(by rw [take_get hx];exact gerr_snoc he3 hxe),(by rw [List.map_append,hzl,e9];rfl),(by rw [zcs_snoc];exact H)⟩⟩
     ·omega
     ·with_reducible repeat first|exact .refl|refine .f ?_ ?_ ?_;kernel_rfl;kernel_rfl|refine .u ?_ ?_;kernel_rfl
     ·refine ⟨?_,trivial⟩
      ·exact vi (by omega)
   ·obtain rfl:i=(Pk.rC 16 (BgC b).2).1:=by simp at hc42;omega
    refine ke (xt (xt ?_))
    refine xH (kQ (kQ ?_))
    skip
    refine kr (sR (dM (g:=gb) (off:=0) U H (sa (lB hh)) (lB hh) U U U ta28 ts28) ?_)
    have htl:(BgL b).1.take (Pk.rC 16 (BgC b).2).1=(BgL b).1:=by rw [←hlr];exact List.take_length
    rw [htl] at he3 hzl
    have hgl:(gots (BgL b).1).length=(Pk.rC 16 (BgC b).2).1:=by rw [List.length_map];exact hlr
    have hzn:zl.length=(Pk.rC 16 (BgC b).2).1:=by rw [←hgl,←hzl,List.length_map]
    replace H:=H.zbmk
    refine sf (eI Tryz.func18 U U (checkGB _ hgl (zb_rl (e:=34) (eI:=64) (eO:=66) (H.get (f:=Fact.zb 34 64 66 S3 A3 (Pk.rC 16 (BgC b).2).1 c3 zl)) hzn hzl) (H.gat hG) (H.gl hB)) H ?_)
    clear H;intro W H
    refine sAi U (lkR (sMi U (sNe U U (ln (kC U (fun hc64=>?_) (fun hc64=>?_))))))
    ·have hne:Bk.chk BTG (gotB b)≠0:=by simpa using hc64
     refine kR (sR (dB (vs:=bC zHd none 0 0) U (by kernel_rfl)) ?_)
     refine sMi U (sf (esk (bC zHd none 0 0) U U U ts28 (lB zHd_ok) blk_one H (by rw [lB zHd_ok];decide) (spl_all ((lB zHd_ok).trans (lB zHd_ok).symm)) ?_))
     clear H;intro W H
     refine sAi U (ln (kx ?_))
     have hge:Bk.get BTG b=(Bk.zero,Bk.chk BTG (gotB b)):=bget_3 he he3 hne
     refine q_cell2 U (c:=bC zHd none 0 0) (g:=go) (v:=.int .i64 (Bk.chk BTG (gotB b))) H U ta28 (by rw [lB zHd_ok];exact ts28) U ⟨_,U,(fun _=>False),none,0,[],by rw [hge];rfl,by rw [hge];rfl,?_⟩
     rw [hge]
     exact zb_nil (H.sub (L':=[]) (List.nil_sublist _))
    ·have hne:Bk.chk BTG (gotB b)=0:=by simpa using hc64
     refine kS (kR (sR (dM (g:=gb) (off:=0) U H (sa (lB hh)) (lB hh) U U U ta28 ts28) (sf (esk (bC (BgH b) A3 (Pk.rC 16 (BgC b).2).1 c3) U U U ts28 (lB hh) blk_one H (by rw [lB zHd_ok];decide) (spl_all ((lB hh).trans (lB zHd_ok).symm)) ?_))))
     clear H;intro W H
     refine sAi U (ln (kx ?_))
     have hge:=bget_4 he he3 hne
     refine q_cell2 U (c:=bC (BgH b) A3 (Pk.rC 16 (BgC b).2).1 c3) (g:=go) (v:=.int .i64 0) H U ta28 (by rw [lB hh];exact ts28) U ⟨_,U,S3,A3,c3,zl,by rw [hge];show _=Value.tuple #[.agg (bC (BgH b) A3 (gots (BgL b).1).length c3).toArray,_];rw [hgl],by rw [hge];exact hzl,?_⟩
     rw [hge]
     show St nT w W [Fact.zb 34 64 66 S3 A3 (gots (BgL b).1).length c3 zl]
     rw [hgl]
     exact H.sub (L':=[_]) (by repeat (first|exact .refl _|exact List.nil_sublist _|refine .cons_cons _ ?_|refine .cons _ ?_))
end Go.Proofs.YtfhhfhdnhadooaaGreatDoor
