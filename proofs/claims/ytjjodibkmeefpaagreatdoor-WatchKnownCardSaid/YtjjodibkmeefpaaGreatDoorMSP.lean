import Derived.Test.YtjjodibkmeefpaaGreatDoorMWN
import Derived.Test.YtjjodibkmeefpaaGreatDoorMZ
set_option linter.unusedVariables false
set_option linter.unusedSimpArgs false
set_option maxHeartbeats 4000000

namespace Go.Proofs.YtjjodibkmeefpaaGreatDoor
open Go Go.RowKit

def At (W:World) (g i:Nat) (v:Value):Prop:=∃(c:List Value) (t:TypeId),W.heap[g]?=some (.cells c.toArray t (0,0))∧c[i]?=some v
def InB (K:Nat->Nat->Prop) (v:Value):Prop:=∃(A:Option Addr) (m c:Nat),v=.slice A m c∧m<=1000000000000∧(0<m->∃g o,A=some ⟨g,o,none⟩∧∀j,j<m->K g (o+j))
structure Sp (S:Nat->Prop) (KB KN:Nat->Nat->Prop) (W:World):Prop where
 lt:∀g,S g->g<W.heap.size
 b:∀g i,KB g i->S g∧∃x,At W g i (.int .u8 x)
 n:∀g i,KN g i->S g∧∃v,At W g i v∧InB KB v
section
variable {W W':World} {g i g' i':Nat} {u v v':Value} {S:Nat->Prop} {KB KB' KN:Nat->Nat->Prop}
theorem At.cell (h:At W g i v):W.cell? ⟨g,i,none⟩=some v:=by
 obtain ⟨c,t,h1,h2⟩:=h
 rw [blk_cell h1];exact h2
theorem At.keep (h:At W g i v) (hk:W'.heap[g]?=W.heap[g]?):At W' g i v:=by
 obtain ⟨c,t,h1,h2⟩:=h
 exact ⟨c,t,hk.trans h1,h2⟩
theorem At.lt (h:At W g i v):g<W.heap.size:=by
 obtain ⟨c,t,h1,_⟩:=h
 exact (List.getElem?_eq_some_iff.1 (by simpa using h1)).1
theorem InB.mono (h:InB KB v) (hk:∀g i,KB g i->KB' g i):InB KB' v:=by
 obtain ⟨A,m,c,rfl,h1,h2⟩:=h
 refine ⟨A,m,c,rfl,h1,fun hm=>?_⟩
 obtain ⟨g,o,e,h3⟩:=h2 hm
 exact ⟨g,o,e,fun j hj=>hk _ _ (h3 j hj)⟩
theorem sto_at (h:At W g i v) (u:Value):At (W.setCells g i [u]) g i u∧∀g' i' v',At W g' i' v'->¬(g'=g∧i'=i)->At (W.setCells g i [u]) g' i' v':=by
 obtain ⟨c,t,h1,h2⟩:=h
 have hh:=setCells_heap g [u] i W c t h1
 have hi:=(List.getElem?_eq_some_iff.1 h2).1
 have e:spl c i [u]=c.set i u:=by rw [spl_cons,spl_nil]
 rw [e] at hh
 refine ⟨⟨_,t,hh,List.getElem?_set_self hi⟩,fun g' i' v' h' hn=>?_⟩
 by_cases hg:g'=g
 ·subst hg
  obtain ⟨c',t',h1',h2'⟩:=h'
  rw [h1] at h1'
  obtain ⟨rfl,_⟩:c=c'∧True:=by
   have:=Option.some.inj h1'
   injection this with a1 a2 a3
   exact ⟨by simpa using a1,trivial⟩
  exact ⟨_,t,hh,by rw [List.getElem?_set_ne (fun e=>hn ⟨rfl,e.symm⟩)];exact h2'⟩
 ·exact h'.keep ((setCells_fr g [u] i W).block g' h'.lt hg)
theorem Sp.keep (h:Sp S KB KN W) (k:∀g,S g->W'.heap[g]?=W.heap[g]?):Sp S KB KN W':=by
 refine ⟨fun g hg=>lt_of_block (h.lt g hg) (k g hg),fun g i hg=>?_,fun g i hg=>?_⟩
 ·obtain ⟨h1,x,h2⟩:=h.b g i hg
  exact ⟨h1,x,h2.keep (k g h1)⟩
 ·obtain ⟨h1,v,h2,h3⟩:=h.n g i hg
  exact ⟨h1,v,h2.keep (k g h1),h3⟩
theorem Sp.stoB (h:Sp S KB KN W) (hk:KB g i) (z:Int):Sp S KB KN (W.setCells g i [.int .u8 z]):=by
 obtain ⟨h1,x,h2⟩:=h.b g i hk
 obtain ⟨s1,s2⟩:=sto_at h2 (.int .u8 z)
 have hf:=setCells_fr g [.int .u8 z] i W
 refine ⟨fun g' hg=>Nat.lt_of_lt_of_le (h.lt g' hg) hf.size,fun g' i' hg=>?_,fun g' i' hg=>?_⟩
 ·obtain ⟨h3,y,h4⟩:=h.b g' i' hg
  by_cases e:g'=g∧i'=i
  ·obtain ⟨rfl,rfl⟩:=e
   exact ⟨h3,z,s1⟩
  ·exact ⟨h3,y,s2 _ _ _ h4 e⟩
 ·obtain ⟨h3,v,h4,h5⟩:=h.n g' i' hg
  refine ⟨h3,v,s2 _ _ _ h4 (fun e=>?_),h5⟩
  obtain ⟨rfl,rfl⟩:=e
  obtain ⟨A,m,c,rfl,_⟩:=h5
  have:=h4.cell.symm.trans h2.cell
  cases this
theorem Sp.stoN (h:Sp S KB KN W) (hk:KN g i) (hu:InB KB u):Sp S KB KN (W.setCells g i [u]):=by
 obtain ⟨h1,v,h2,h6⟩:=h.n g i hk
 obtain ⟨s1,s2⟩:=sto_at h2 u
 have hf:=setCells_fr g [u] i W
 refine ⟨fun g' hg=>Nat.lt_of_lt_of_le (h.lt g' hg) hf.size,fun g' i' hg=>?_,fun g' i' hg=>?_⟩
 ·obtain ⟨h3,y,h4⟩:=h.b g' i' hg
  refine ⟨h3,y,s2 _ _ _ h4 (fun e=>?_)⟩
  obtain ⟨rfl,rfl⟩:=e
  obtain ⟨A,m,c,rfl,_⟩:=h6
  have:=h4.cell.symm.trans h2.cell
  cases this
 ·obtain ⟨h3,y,h4,h5⟩:=h.n g' i' hg
  by_cases e:g'=g∧i'=i
  ·obtain ⟨rfl,rfl⟩:=e
   exact ⟨h3,u,s1,hu⟩
  ·exact ⟨h3,y,s2 _ _ _ h4 e,h5⟩
end
def Fact.sp (S:Nat->Prop) (KB KN:Nat->Nat->Prop):Fact:=⟨S,Sp S KB KN,fun _ _ h k=>h.keep (fun g hg=>k g hg)⟩
section
variable {P:Program} {ops:Array Oper} {Q:Exit->Act->World->Prop} {o:Oper} {n:Nat} {ρ:Nat->Value} {ds:List Deferred} {W w0:World} {K:Act->World->Prop} {T:Nat->Prop} {L L':List Fact} {t:TypeId} {x y:Operand} {g i:Nat} {v:Value} {S:Nat->Prop} {KB KN:Nat->Nat->Prop}
theorem sto_there (h:At W g i v):W.there g i 1:=by
 obtain ⟨c,t,h1,h2⟩:=h
 exact blk_there h1 (by have:=(List.getElem?_eq_some_iff.1 h2).1;omega)
theorem sto_fr (h:S g) (u:Value):Fr S W (W.setCells g i [u]):=(setCells_fr g [u] i W).mono (fun k _ e=>e ▸ h)
theorem e_stoSB {z:Int} (hw:Region.wanted o (yielded ops (st n ρ ds).tmps)=true) (hd:o.dst=none) (ho:o.op=.store t x y) (hx:ev n ρ x=.pointer (some ⟨g,i,none⟩)) (hk:KB g i) (hy:ev n ρ y=.int .u8 z) (hs:(P.info? t).map (·.size)=some 1) (H:St T w0 W L) [ht:Turn (Fact.sp S KB KN) (Fact.sp S KB KN) L L'] (k:∀W',St T w0 W' L'->K (st n ρ ds) W'):Step P ops Q o (st n ρ ds) W K:=by
 obtain ⟨M,hp1,_⟩:=ht.perm
 have h:Sp S KB KN W:=(H.perm hp1).holds _ (.head _)
 obtain ⟨h1,b,h2⟩:=h.b g i hk
 refine e_do hw hd (W':=W.setCells g i [.int .u8 z]) ?_ (k _ (H.turn (f:=Fact.sp S KB KN) (f':=Fact.sp S KB KN) (sto_fr h1 _) (h.stoB hk z) (fun g hg=>.inl hg)))
 have:=run_storeVar (P:=P) W g i t (.int .u8 z) [.int .u8 z] rfl (sto_there h2) hs rfl
 unfold Does execOp
 simp [ho,hx,hy,Instr.storeAt,Instr.sureAddr,this]
theorem e_stoSN {A:Option Addr} {m c:Nat} (hw:Region.wanted o (yielded ops (st n ρ ds).tmps)=true) (hd:o.dst=none) (ho:o.op=.store t x y) (hx:ev n ρ x=.pointer (some ⟨g,i,none⟩)) (hk:KN g i) (hy:ev n ρ y=.slice A m c) (hu:InB KB (.slice A m c)) (hs:(P.info? t).map (·.size)=some 1) (H:St T w0 W L) [ht:Turn (Fact.sp S KB KN) (Fact.sp S KB KN) L L'] (k:∀W',St T w0 W' L'->K (st n ρ ds) W'):Step P ops Q o (st n ρ ds) W K:=by
 obtain ⟨M,hp1,_⟩:=ht.perm
 have h:Sp S KB KN W:=(H.perm hp1).holds _ (.head _)
 obtain ⟨h1,b,h2,_⟩:=h.n g i hk
 refine e_do hw hd (W':=W.setCells g i [.slice A m c]) ?_ (k _ (H.turn (f:=Fact.sp S KB KN) (f':=Fact.sp S KB KN) (sto_fr h1 _) (h.stoN hk hu) (fun g hg=>.inl hg)))
 have:=run_storeVar (P:=P) W g i t (.slice A m c) [.slice A m c] rfl (sto_there h2) hs rfl
 unfold Does execOp
 simp [ho,hx,hy,Instr.storeAt,Instr.sureAddr,this]
end
section
variable {T:Nat->Prop} {w0 W W':World} {L:List Fact} {S:Nat->Prop} {KB KN:Nat->Nat->Prop}
theorem St.spgrow {e m c:Nat} {A:Option Addr} {l:List UInt8} (H:St T w0 W (Fact.row e 1 (.slice A m c) m (l.map u8v)::Fact.sp S KB KN::L)) (hm:m<=1000000000000):∃S' KB',(∀g i,KB g i->KB' g i)∧InB KB' (.slice A m c)∧(∀g,S' g->(Value.slice A m c).ownBlock=some g∨S g)∧St T w0 W (Fact.sp S' KB' KN::L):=by
 have h1:W.ownsRow 0 e 1 (.slice A m c) m (l.map u8v):=H.holds _ (.head _)
 have h2:Sp S KB KN W:=H.holds _ (.tail _ (.head _))
 have hk:∀g i,KB g i->(KB g i∨(A=some ⟨g,0,none⟩∧i<m)):=fun g i h=>.inl h
 refine ⟨fun g=>(Value.slice A m c).ownBlock=some g∨S g,fun g i=>KB g i∨(A=some ⟨g,0,none⟩∧i<m),hk,⟨A,m,c,rfl,hm,fun h0=>?_⟩,fun g h=>h,H.merge (F:=Fact.sp _ _ KN) ?_ (fun g hg=>hg)⟩
 ·rcases row_addr h1 with rfl|⟨g,rfl⟩
  ·obtain ⟨g,e⟩:=row_own h1 h0
   cases e
  ·exact ⟨g,0,rfl,fun j hj=>.inr ⟨rfl,by omega⟩⟩
 ·refine ⟨fun g hg=>?_,fun g i hg=>?_,fun g i hg=>?_⟩
  ·rcases hg with hg|hg
   ·exact own_lt h1 hg
   ·exact h2.lt g hg
  ·rcases hg with hg|⟨rfl,hi⟩
   ·obtain ⟨h3,x,h4⟩:=h2.b g i hg
    exact ⟨.inr h3,x,h4⟩
   ·refine ⟨.inl rfl,?_⟩
    rcases h1.2 with ⟨h3,_⟩|⟨g',cap,cur,hv,_,hh,h3,h4,h5,h6⟩
    ·cases h3
    ·cases hv
     have hl:l.length=m:=by have:=h1.1;rwa [List.length_map,Nat.mul_one] at this
     have hx:(l.map u8v)[i]?=some (u8v (l[i]'(by omega))):=by rw [List.getElem?_map,List.getElem?_eq_getElem (by omega)];rfl
     refine ⟨((l[i]'(by omega)).toNat:Int),cur.toList,e,by simpa using hh,?_⟩
     rw [←h6,List.getElem?_take_of_lt (by omega)] at hx
     exact hx
  ·obtain ⟨h3,v,h4,h5⟩:=h2.n g i hg
   exact ⟨.inr h3,v,h4,h5.mono hk⟩
theorem St.spoilt {f1 f2 f3:Fact} (H:St T w0 W (f1::f2::f3::L)) (hf:Fr (fun g=>f1.fp g∨f2.fp g∨f3.fp g) W W'):St T w0 W' L:=by
 have h1:=List.pairwise_cons.1 H.apart
 have h2:=List.pairwise_cons.1 h1.2
 have h3:=List.pairwise_cons.1 h2.2
 have hk:∀x∈L,∀g,x.fp g->W'.heap[g]?=W.heap[g]?:=fun x hx g hg=>hf.block g (H.own x (.tail _ (.tail _ (.tail _ hx))) g hg).2 (fun e=>by
  rcases e with e|e|e
  ·exact h1.1 x (.tail _ (.tail _ hx)) g e hg
  ·exact h2.1 x (.tail _ hx) g e hg
  ·exact h3.1 x hx g e hg)
 refine ⟨H.fr.trans hf (fun g hg e=>?_),fun x hx=>x.st W W' (H.holds x (.tail _ (.tail _ (.tail _ hx)))) (fun g hg=>hk x hx g hg),fun x hx g hg=>?_,h3.2⟩
 ·have:(T g∨w0.heap.size<=g):=by
   rcases e with e|e|e
   ·exact (H.own _ (.head _) g e).1
   ·exact (H.own _ (.tail _ (.head _)) g e).1
   ·exact (H.own _ (.tail _ (.tail _ (.head _))) g e).1
  exact this.resolve_right (by omega)
 ·have:=H.own x (.tail _ (.tail _ (.tail _ hx))) g hg
  exact ⟨this.1,Nat.lt_of_lt_of_le this.2 hf.size⟩
end
section
variable {P:Program} {ops:Array Oper} {Q:Exit->Act->World->Prop} {o:Oper} {n:Nat} {ρ:Nat->Value} {ds:List Deferred} {W w w0:World} {K:Act->World->Prop} {T:Nat->Prop} {L L':List Fact} {x y:Operand} {v:Value} {t e:TypeId}
theorem e_stoGM {m c q s g:Nat} {xs vs:List Value} {L'':Fact->List Fact} (hw:Region.wanted o (yielded ops (st n ρ ds).tmps)=true) (hd:o.dst=none) (ho:o.op=.store t x y) (hx:ev n ρ x=.pointer (some ⟨g,q,none⟩)) (hy:ev n ρ y=v) (hv:v.cells=vs.toArray) (hs:(P.info? t).map (·.size)=some vs.length) (h1:vs.all (·.oneCell')=true) (H:St T w0 W L) [ht:RowTo e s (.slice (some ⟨g,0,none⟩) m c) m L xs L''] (hk:q+vs.length<=m*s)
  (kk:∀W' xs',St T w0 W' (L'' (Fact.row e s (.slice (some ⟨g,0,none⟩) m c) m xs'))->K (st n ρ ds) W'):Step P ops Q o (st n ρ ds) W K:=by
 obtain ⟨M,hp1,hp2⟩:=ht.perm
 have H1:=H.perm hp1
 have h:W.ownsRow 0 e s (.slice (some ⟨g,0,none⟩) m c) m xs:=H1.holds _ (.head _)
 rcases h.2 with ⟨h2,h3⟩|⟨g',cap,cur,hv',hb,hh,h2,h3,h4,h5⟩
 ·cases h2
 ·cases hv'
  have hcur:W.heap[g]?=some (.cells cur.toList.toArray e (0,0)):=by simpa using hh
  have hlen:cur.toList.length=c*s:=by simpa using h4
  have hmc:=Nat.mul_le_mul_right s h2
  have hrun:=run_storeVar (P:=P) W g q t v vs hv (blk_there hcur (by omega)) hs h1
  refine e_do hw hd (W':=W.setCells g q vs) (by
   unfold Does execOp
   simp [ho,hx,hy,Instr.storeAt,Instr.sureAddr,hrun]) ?_
  have hset:=setCells_heap g vs q W cur.toList e hcur
  refine kk _ ((spl cur.toList q vs).take (m*s)) ((H1.turn0 (f':=Fact.row e s (.slice (some ⟨g,0,none⟩) m c) m ((spl cur.toList q vs).take (m*s))) (Fr.mono' (setCells_fr g vs q W) (fun g' hg'=>by subst hg';rfl)) ?_ (fun g hg=>.inl hg)).perm (hp2 _).symm)
  have hl:=len_spl vs cur.toList q
  refine ⟨by rw [List.length_take,hl];omega,.inr ⟨g,c,_,rfl,hb,hset,h2,h3,by simp only [List.size_toArray];omega,rfl⟩⟩
end
end Go.Proofs.YtjjodibkmeefpaaGreatDoor

namespace Go.Proofs.YtjjodibkmeefpaaGreatDoor
open Go Go.RowKit
attribute [local irreducible] wpList
theorem d_iaP {P:Program} {o:Oper} {n:Nat} {ρ:Nat->Value} {W:World} {t e:TypeId} {x y:Operand} {k:IntKind} {a:Int} {g i m c q s:Nat} (ho:o.op=.indexAddr t x y) (hx:ev n ρ x=.slice (some ⟨g,i,none⟩) m c) (hy:ev n ρ y=.int k a) (ha:a=(q:Int)) (hq:q<m) (hu:P.underlying t=some (.slice e)) (hs:(P.info? e).map (·.size)=some s) :
  Runs P n ρ o W (.pointer (some ⟨g,i+q*s,none⟩)) W:=by
 subst ha
 cases hi:P.info? e with
 | none=>rw [hi] at hs;cases hs
 | some ie =>
  have hs':ie.size=s:=by simpa [hi] using hs
  unfold Runs execOp
  simp [ho,hx,hy,Instr.indexAt,asIntOf,run_underlying hu,sizeOf,typeInfo,hi,hs',hq,Addr.add_mid]

theorem spoilB {S:Nat->Prop} {KB KN:Nat->Nat->Prop} {v:Value} (w:World) (hs:Sp S KB KN w) (hv:InB KB v):Calls Tryz.prog 12 [v].toArray w (Ret (fun v' w'=>v'=.tuple #[]∧Sp S KB KN w'∧Fr S w w')):=by
 obtain ⟨A,m,c,rfl,hm,hK⟩:=hv
 have H0:=St.begin (f:=Fact.sp S KB KN) hs hs.lt
 refine kE (l:=[_]) Tryz.func12 U U ?_
 have H:=H0
 refine kR (sAi U (ln (kb (kL 2 [] (fun mm sl W=>∃i:Nat,m - i=mm∧sl=[(2,.int .i64 (i:Int))]∧(i<=m)∧St S w W [Fact.sp S KB KN]) _ _ ⟨0,U,U,Nat.zero_le _,H⟩ ⟨U,trivial⟩ (fun mm sl ρv W hJ=>?_)))))
 clear H;obtain ⟨i,rfl,rfl,hi,H⟩:=hJ
 refine ko (kQ (kR (sMi U (sMs U (sLn U tu23 (sLt U U (ln (kC U (fun hc6=>?_) (fun hc6=>?_)))))))))
 ·replace hc6:=of_decide_eq_true hc6
  have hlt:i<m:=by omega
  obtain ⟨g0,o0,rfl,hKj⟩:=hK (by omega)
  have hKi:=hKj i hlt
  refine kS (kQ (kb (kr (sMs U (sMi U (sMi U (sAd U U (by omega) (sf (eI Tryz.func31 U U (markBytes (i+7) _ _ (by omega) (by omega)) H ?_)))))))))
  clear H;intro W H
  refine sR (d_iaP (q:=i) U U U U hlt tu23 ts5) (sf (e_stoSB (g:=g0) (i:=o0+i*1) (S:=S) (KB:=KB) (KN:=KN) (wn U) U U U (by rw [Nat.mul_one];exact hKi) U ts5 H ?_))
  clear H;intro W H
  refine ln (kn (zE (kI U U U (by omega) U (kn (kY ?_)))))
  refine ⟨_,_,_,?_,U,?_,?_,⟨i+1,U,U,by omega,H⟩⟩
  ·omega
  ·with_reducible repeat first|exact .refl|refine .f ?_ ?_ ?_;kernel_rfl;kernel_rfl|refine .u ?_ ?_;kernel_rfl
  ·refine ⟨?_,trivial⟩
   ·exact vi (by omega)
 ·skip
  refine ke (xQ (xQ ?_))
  exact xH (kn (q_end0 U ⟨_,U,U,H.get (f:=Fact.sp S KB KN),H.fr⟩))

theorem markN (i:Nat) (z:Int) (w:World) (hz:z=(i:Int)) (h1:i<=1000000000000000):Calls Tryz.prog 57 [.int .i64 z].toArray w (Ret (fun v' w'=>∃A c,v'=.slice A 1 c∧St nT w w' [Fact.row 5 1 (.slice A 1 c) 1 (List.map u8v [UInt8.ofNat (99+i)])])):=by
 subst hz
 refine kE (l:=[_]) Tryz.func57 U U ?_
 have H:=St.start nT w
 refine kR (sAs U (lkR (sMi U (sAd U U (by omega) (sR (d_conv U U (by rw [tu3];rfl) tu5 (u8_eq (n:=99+i) (by omega))) ?_)))))
 refine sf (ebs (xs:=[.tmp 5]) (vals:=[.int .u8 _]) (vs:=[.int .u8 _]) U U U U tu23 ts5 ty5 U U U H ?_)
 clear H;intro g6 W H
 refine sAs U (ln (kx ?_))
 exact qr (v:=.slice _ _ _) U U ⟨_,U,some ⟨g6,0,none⟩,1,U,H.torow (s:=1) 1 U (by decide)⟩

theorem spoilN {S:Nat->Prop} {KB KN:Nat->Nat->Prop} {v:Value} (w:World) (hs:Sp S KB KN w) (hv:InB KN v):Calls Tryz.prog 43 [v].toArray w (Ret (fun v' w'=>v'=.tuple #[]∧∃S' KB',(∀g i,KB g i->KB' g i)∧St S w w' [Fact.sp S' KB' KN])):=by
 obtain ⟨A,m,c,rfl,hm,hK⟩:=hv
 have H0:=St.begin (f:=Fact.sp S KB KN) hs hs.lt
 refine kE (l:=[_]) Tryz.func43 U U ?_
 have H:=H0
 refine kR (sAi U (ln (kb (kL 2 [] (fun mm sl W=>∃i:Nat,∃S2:Nat->Prop,∃K2:Nat->Nat->Prop,m - i=mm∧sl=[(2,.int .i64 (i:Int))]∧(i<=m)∧(∀g i,KB g i->K2 g i)∧St S w W [Fact.sp S2 K2 KN]) _ _ ⟨0,S,KB,U,U,Nat.zero_le _,fun _ _ h=>h,H⟩ ⟨U,trivial⟩ (fun mm sl ρv W hJ=>?_)))))
 clear H;obtain ⟨i,S2,K2,rfl,rfl,hi,hk2,H⟩:=hJ
 refine ko (kQ (kR (sMi U (sMs U (sLn U tu66 (sLt U U (ln (kC U (fun hc6=>?_) (fun hc6=>?_)))))))))
 ·replace hc6:=of_decide_eq_true hc6
  have hlt:i<m:=by omega
  obtain ⟨g0,o0,rfl,hKj⟩:=hK (by omega)
  have hKi:=hKj i hlt
  refine kS (kQ (kb (kr (sMs U (sMi U (sMi U (sAd U U (by omega) (sf (ecl Tryz.func57 U U (markN (i+7) _ _ (by omega) (by omega)) ?_)))))))))
  rintro _ W ⟨A9,c9,rfl,hn_⟩
  replace H:=H.add1 hn_
  clear hn_
  obtain ⟨S3,K3,hk3,hin3,_,H3⟩:=H.spgrow (by decide)
  clear H
  have H:=H3
  clear H3
  refine sR (d_iaP (q:=i) U U U U hlt tu66 ts23) (sf (e_stoSN (g:=g0) (i:=o0+i*1) (S:=S3) (KB:=K3) (KN:=KN) (wn U) U U U (by rw [Nat.mul_one];exact hKi) U hin3 ts23 H ?_))
  clear H;intro W H
  refine ln (kn (zE (kI U U U (by omega) U (kn (kY ?_)))))
  refine ⟨_,_,_,?_,U,?_,?_,⟨i+1,S3,K3,U,U,by omega,fun a b h=>hk3 a b (hk2 a b h),H⟩⟩
  ·omega
  ·with_reducible repeat first|exact .refl|refine .f ?_ ?_ ?_;kernel_rfl;kernel_rfl|refine .u ?_ ?_;kernel_rfl
  ·refine ⟨?_,trivial⟩
   ·exact vi (by omega)
 ·skip
  refine ke (xQ (xQ ?_))
  exact xH (kn (q_end0 U ⟨_,U,U,S2,K2,hk2,H⟩))

theorem markI (i:Int) (w:World) (h1:0<=i∧i<=1000000000000000):Calls Tryz.prog 58 [.int .i64 i].toArray w (Ret (Is w (.agg (inC ⟨List.replicate 32 0,-9 - i⟩ none 0 0).toArray))):=by
 refine kE (l:=[_]) Tryz.func58 U U ?_
 have H:=St.start nT w
 refine kR (sf (eal (inC zPt none 0 0) tzIn H ?_))
 clear H;intro go W H
 refine lkR (sMi U (sR (d_sub U U U (by omega)) (sR (dB (vs:=pointC ⟨List.replicate 32 0,-9 - i⟩) U (built_fields (places:=[(0,32),(32,1)]) tz27 (by kernel_rfl) (by kernel_rfl) (fill_skip 32 (fN (vs:=[.int .i64 (-9 - i)]) (.int .i64 (-9 - i)) U (by rfl) U U (Nat.le_of_ble_eq_true U) (fill_end (by rfl)))))) ?_)))
 refine sR (dB (vs:=inC ⟨List.replicate 32 0,-9 - i⟩ none 0 0) U (built_fields (places:=[(0,33),(33,1)]) tz71 (by kernel_rfl) (by kernel_rfl) (fN (vs:=pointC ⟨List.replicate 32 0,-9 - i⟩) (.agg (pointC ⟨List.replicate 32 0,-9 - i⟩).toArray) U U U U (Nat.le_of_ble_eq_true U) (fill_end (by rfl))))) ?_
 refine sf (esk (inC ⟨List.replicate 32 0,-9 - i⟩ none 0 0) U U U ts71 (len_in (p:=⟨List.replicate 32 0,-9 - i⟩) U) in_one H (by rw [len_in (p:=zPt) U];decide) (spl_all ((len_in (p:=⟨List.replicate 32 0,-9 - i⟩) U).trans (len_in (p:=zPt) U).symm)) ?_)
 clear H;intro W H
 refine ln (kx ?_)
 exact q_retc U (c:=inC ⟨List.replicate 32 0,-9 - i⟩ none 0 0) (g:=go) H U ta71 (by rw [len_in (p:=⟨List.replicate 32 0,-9 - i⟩) U];exact ts71) ⟨_,U,U,H.under⟩

theorem markO (i:Int) (w:World) (h1:0<=i∧i<=1000000000000000):Calls Tryz.prog 59 [.int .i64 i].toArray w (Ret (Is w (.agg (outC (-9 - i) none 0 0).toArray))):=by
 refine kE (l:=[_]) Tryz.func59 U U ?_
 have H:=St.start nT w
 refine kR (sf (eal [.int .i64 0,.slice none 0 0] tz41 H ?_))
 clear H;intro go W H
 refine lkR (sMi U (sR (d_sub U U U (by omega)) (sR (dB (vs:=outC (-9 - i) none 0 0) U (built_fields (places:=[(0,1),(1,1)]) tz41 (by kernel_rfl) (by kernel_rfl) (fN (vs:=[.int .i64 (-9 - i)]) (.int .i64 (-9 - i)) U U U U (Nat.le_of_ble_eq_true U) (fill_end (by rfl))))) ?_)))
 refine sf (esk (outC (-9 - i) none 0 0) U U U ts41 U U H (by decide) U ?_)
 clear H;intro W H
 refine ln (kx ?_)
 exact q_retc U (c:=outC (-9 - i) none 0 0) (g:=go) H U ta41 (by rw [show (outC (-9 - i) none 0 0).length=2 from U];exact ts41) ⟨_,U,U,H.under⟩

theorem spoilI {A:Option Addr} {m c:Nat} {xs:List Value} (w:World) (hR:w.ownsRow 0 71 34 (.slice A m c) m xs) (hm:m<=1000000000000):Calls Tryz.prog 44 [.slice A m c].toArray w (Ret (fun v' w'=>v'=.tuple #[]∧Fr (fun g=>(Value.slice A m c).ownBlock=some g) w w')):=by
 have H0:=St.begin (f:=Fact.row 71 34 (.slice A m c) m xs) hR (fun g hg=>own_lt hR hg)
 refine kE (l:=[_]) Tryz.func44 U U ?_
 have H:=H0
 refine kR (sAi U (ln (kb (kL 2 [] (fun mm sl W=>∃i:Nat,∃ys:List Value,m - i=mm∧sl=[(2,.int .i64 (i:Int))]∧(i<=m)∧St (fun g=>(Value.slice A m c).ownBlock=some g) w W [Fact.row 71 34 (.slice A m c) m ys]) _ _ ⟨0,xs,U,U,Nat.zero_le _,H⟩ ⟨U,trivial⟩ (fun mm sl ρv W hJ=>?_)))))
 clear H;obtain ⟨i,ys,rfl,rfl,hi,H⟩:=hJ
 refine ko (kQ (kR (sMi U (sMs U (sLn U tu44 (sLt U U (ln (kC U (fun hc6=>?_) (fun hc6=>?_)))))))))
 ·replace hc6:=of_decide_eq_true hc6
  have hlt:i<m:=by omega
  obtain ⟨g0,rfl⟩:=row_own (H.get (f:=Fact.row 71 34 (.slice A m c) m ys)) (by omega)
  have hmul:=Nat.mul_le_mul_right 34 (show i+1<=m by omega)
  rw [Nat.add_mul] at hmul
  refine kS (kQ (kb (kr (sMs U (sMi U (sMi U (sAd U U (by omega) (sf (eI Tryz.func58 U U (markI _ _ ⟨by omega,by omega⟩) H ?_)))))))))
  clear H;intro W H
  refine sR (d_iaP (q:=i) U U U U hlt tu44 ts71) (sf (e_stoGM (g:=g0) (q:=0+i*34) (e:=71) (s:=34) (m:=m) (c:=c) (vs:=inC ⟨List.replicate 32 0,-9 - ((i:Int)+7)⟩ none 0 0) (wn U) U U U U U (by rw [len_in (p:=⟨List.replicate 32 0,-9 - ((i:Int)+7)⟩) U];exact ts71) in_one H (by rw [len_in (p:=⟨List.replicate 32 0,-9 - ((i:Int)+7)⟩) U];omega) ?_))
  clear H;intro W ys2 H
  refine ln (kn (zE (kI U U U (by omega) U (kn (kY ?_)))))
  refine ⟨_,_,_,?_,U,?_,?_,⟨i+1,_,U,U,by omega,H⟩⟩
  ·omega
  ·with_reducible repeat first|exact .refl|refine .f ?_ ?_ ?_;kernel_rfl;kernel_rfl|refine .u ?_ ?_;kernel_rfl
  ·refine ⟨?_,trivial⟩
   ·exact vi (by omega)
 ·skip
  refine ke (xQ (xQ ?_))
  exact xH (kn (q_end0 U ⟨_,U,U,H.fr⟩))

theorem spoilO {A:Option Addr} {m c:Nat} {xs:List Value} (w:World) (hR:w.ownsRow 0 41 2 (.slice A m c) m xs) (hm:m<=1000000000000):Calls Tryz.prog 45 [.slice A m c].toArray w (Ret (fun v' w'=>v'=.tuple #[]∧Fr (fun g=>(Value.slice A m c).ownBlock=some g) w w')):=by
 have H0:=St.begin (f:=Fact.row 41 2 (.slice A m c) m xs) hR (fun g hg=>own_lt hR hg)
 refine kE (l:=[_]) Tryz.func45 U U ?_
 have H:=H0
 refine kR (sAi U (ln (kb (kL 2 [] (fun mm sl W=>∃i:Nat,∃ys:List Value,m - i=mm∧sl=[(2,.int .i64 (i:Int))]∧(i<=m)∧St (fun g=>(Value.slice A m c).ownBlock=some g) w W [Fact.row 41 2 (.slice A m c) m ys]) _ _ ⟨0,xs,U,U,Nat.zero_le _,H⟩ ⟨U,trivial⟩ (fun mm sl ρv W hJ=>?_)))))
 clear H;obtain ⟨i,ys,rfl,rfl,hi,H⟩:=hJ
 refine ko (kQ (kR (sMi U (sMs U (sLn U tu45 (sLt U U (ln (kC U (fun hc6=>?_) (fun hc6=>?_)))))))))
 ·replace hc6:=of_decide_eq_true hc6
  have hlt:i<m:=by omega
  obtain ⟨g0,rfl⟩:=row_own (H.get (f:=Fact.row 41 2 (.slice A m c) m ys)) (by omega)
  have hmul:=Nat.mul_le_mul_right 2 (show i+1<=m by omega)
  rw [Nat.add_mul] at hmul
  refine kS (kQ (kb (kr (sMs U (sMi U (sMi U (sAd U U (by omega) (sf (eI Tryz.func59 U U (markO _ _ ⟨by omega,by omega⟩) H ?_)))))))))
  clear H;intro W H
  refine sR (d_iaP (q:=i) U U U U hlt tu45 ts41) (sf (e_stoGM (g:=g0) (q:=0+i*2) (e:=41) (s:=2) (m:=m) (c:=c) (vs:=outC (-9 - ((i:Int)+7)) none 0 0) (wn U) U U U U U (by rw [show (outC (-9 - ((i:Int)+7)) none 0 0).length=2 from U];exact ts41) U H (by rw [show (outC (-9 - ((i:Int)+7)) none 0 0).length=2 from U];omega) ?_))
  clear H;intro W ys2 H
  refine ln (kn (zE (kI U U U (by omega) U (kn (kY ?_)))))
  refine ⟨_,_,_,?_,U,?_,?_,⟨i+1,_,U,U,by omega,H⟩⟩
  ·omega
  ·with_reducible repeat first|exact .refl|refine .f ?_ ?_ ?_;kernel_rfl;kernel_rfl|refine .u ?_ ?_;kernel_rfl
  ·refine ⟨?_,trivial⟩
   ·exact vi (by omega)
 ·skip
  refine ke (xQ (xQ ?_))
  exact xH (kn (q_end0 U ⟨_,U,U,H.fr⟩))
end Go.Proofs.YtjjodibkmeefpaaGreatDoor

namespace Go.Proofs.YtjjodibkmeefpaaGreatDoor
open Go Go.RowKit

def ShI (KN:Nat->Nat->Prop) (xs:List Value) (n:Nat):Prop:=∀i,i<n->∃p A m c,sub xs (i*34) 34=inC p A m c∧p.tx.length=32∧InB KN (.slice A m c)
def ShO (KB:Nat->Nat->Prop) (ys:List Value) (n:Nat):Prop:=∀i,i<n->∃v A m c,sub ys (i*2) 2=outC v A m c∧InB KB (.slice A m c)
abbrev ownB (A:Option Addr) (n c g:Nat):Prop:=(Value.slice A n c).ownBlock=some g
structure Zp (eI eO:Nat) (S:Nat->Prop) (A:Option Addr) (c:Nat) (B:Option Addr) (d:Nat) (t:DTx) (W:World):Prop where
 r:RTx W S (txC A t.ins.length c B t.outs.length d t.lock) t
 n:t.ins.length<=1000000∧t.outs.length<=1000000
 z:∃xs ys S3 KB KN,W.ownsRow 0 eI 34 (.slice A t.ins.length c) t.ins.length xs∧W.ownsRow 0 eO 2 (.slice B t.outs.length d) t.outs.length ys∧Sp S3 KB KN W∧ShI KN xs t.ins.length∧ShO KB ys t.outs.length
  ∧ (∀g,ownB A t.ins.length c g->S g∧¬ownB B t.outs.length d g∧¬S3 g)∧(∀g,ownB B t.outs.length d g->S g∧¬S3 g)∧∀g,S3 g->S g
theorem Zp.keep {eI eO:Nat} {S:Nat->Prop} {A:Option Addr} {c:Nat} {B:Option Addr} {d:Nat} {t:DTx} {W W':World} (h:Zp eI eO S A c B d t W) (k:∀g,S g->W'.heap[g]?=W.heap[g]?):Zp eI eO S A c B d t W':=by
 obtain ⟨xs,ys,S3,KB,KN,h1,h2,h3,h4,h5,h6,h7,h8⟩:=h.z
 exact ⟨keeps_Tx _ _ _ _ _ h.r (fun g _ hg=>k g hg),h.n,xs,ys,S3,KB,KN,ownsRow_keep h1 (fun g hg=>k g (h6 g hg).1),ownsRow_keep h2 (fun g hg=>k g (h7 g hg).1),h3.keep (fun g hg=>k g (h8 g hg)),h4,h5,h6,h7,h8⟩
def Fact.z (eI eO:Nat) (S:Nat->Prop) (A:Option Addr) (c:Nat) (B:Option Addr) (d:Nat) (t:DTx):Fact:=⟨S,Zp eI eO S A c B d t,fun _ _ h k=>h.keep (fun g hg=>k g hg)⟩
def Fact.gone:Fact:=⟨fun _=>False,fun _=>True,fun _ _ _ _=>trivial⟩
section
variable {T:Nat->Prop} {w0 W W':World} {L:List Fact}
theorem St.split3 {F f1 f2 f3:Fact} (H:St T w0 W (F::L)) (p1:f1.p W) (p2:f2.p W) (p3:f3.p W) (a1:∀g,f1.fp g->F.fp g∧¬f2.fp g∧¬f3.fp g) (a2:∀g,f2.fp g->F.fp g∧¬f3.fp g) (a3:∀g,f3.fp g->F.fp g):St T w0 W (f1::f2::f3::L):=by
 have h1:=List.pairwise_cons.1 H.apart
 refine ⟨H.fr,fun x hx=>?_,fun x hx g hg=>?_,List.pairwise_cons.2 ⟨fun x hx g hg=>?_,List.pairwise_cons.2 ⟨fun x hx g hg=>?_,List.pairwise_cons.2 ⟨fun x hx g hg=>h1.1 x hx g (a3 g hg),h1.2⟩⟩⟩⟩
 ·simp only [List.mem_cons] at hx
  rcases hx with rfl|rfl|rfl|hx
  ·exact p1
  ·exact p2
  ·exact p3
  ·exact H.holds x (.tail _ hx)
 ·simp only [List.mem_cons] at hx
  rcases hx with rfl|rfl|rfl|hx
  ·exact H.own _ (.head _) g (a1 g hg).1
  ·exact H.own _ (.head _) g (a2 g hg).1
  ·exact H.own _ (.head _) g (a3 g hg)
  ·exact H.own x (.tail _ hx) g hg
 ·simp only [List.mem_cons] at hx
  rcases hx with rfl|rfl|hx
  ·exact (a1 g hg).2.1
  ·exact (a1 g hg).2.2
  ·exact h1.1 x hx g (a1 g hg).1
 ·simp only [List.mem_cons] at hx
  rcases hx with rfl|hx
  ·exact (a2 g hg).2
  ·exact h1.1 x hx g (a2 g hg).1
end
section
variable {T:Nat->Prop} {w W:World} {b:List UInt8} {t:DTx} {eI eO u tR:Nat} {A B:Option Addr} {c d:Nat} {L:List Fact}
theorem zero_z {S:Nat->Prop} {eI eO:Nat}:Zp eI eO (fun _=>False) none 0 none 0 Tx.zero W :=
 ⟨⟨_,_,_,rfl,rl_nil,rl_nil,rfl,by decide,by decide⟩,⟨by decide,by decide⟩,[],[],fun _=>False,fun _ _=>False,fun _ _=>False,⟨rfl,.inl ⟨rfl,rfl⟩⟩,⟨rfl,.inl ⟨rfl,rfl⟩⟩,⟨fun _ h=>h.elim,fun _ _ h=>h.elim,fun _ _ h=>h.elim⟩,fun i hi=>absurd hi (by simp [Tx.zero]),fun i hi=>absurd hi (by simp [Tx.zero]),fun g hg=>(by cases hg),fun g hg=>(by cases hg),fun _ h=>h⟩
theorem St.addz (H:St T w W L) {eI eO:Nat}:St T w W (Fact.z eI eO (fun _=>False) none 0 none 0 Tx.zero::L):=by
 refine ⟨H.fr,fun x hx=>?_,fun x hx g hg=>?_,List.pairwise_cons.2 ⟨fun x _ g hg=>(hg:False).elim,H.apart⟩⟩
 ·rcases List.mem_cons.1 hx with rfl|hx
  ·exact zero_z (S:=nT)
  ·exact H.holds x hx
 ·rcases List.mem_cons.1 hx with rfl|hx
  ·exact (hg:False).elim
  ·exact H.own x hx g hg
end
end Go.Proofs.YtjjodibkmeefpaaGreatDoor

namespace Go.Proofs.YtjjodibkmeefpaaGreatDoor
open Go Go.RowKit
attribute [local irreducible] wpList

theorem spoilTx {S:Nat->Prop} {A:Option Addr} {c:Nat} {B:Option Addr} {d:Nat} {t:DTx} (w:World) (hz:Zp 71 41 S A c B d t w) (hlt:∀g,S g->g<w.heap.size):Calls Tryz.prog 16 [.agg (txC A t.ins.length c B t.outs.length d t.lock).toArray].toArray w (Ret (fun v' w'=>v'=.tuple #[]∧Fr S w w')):=by
 obtain ⟨xs,ys,S3,KB,KN,h1,h2,h3,hI,hO,h6,h7,h8⟩:=hz.z
 have hn:=hz.n
 have H9:=St.begin (f:=Fact.z 71 41 S A c B d t) hz hlt
 have H0:St S w w [Fact.row 71 34 (.slice A t.ins.length c) t.ins.length xs,Fact.row 41 2 (.slice B t.outs.length d) t.outs.length ys,Fact.sp S3 KB KN]:=H9.split3 (f1:=Fact.row 71 34 (.slice A t.ins.length c) t.ins.length xs) (f2:=Fact.row 41 2 (.slice B t.outs.length d) t.outs.length ys) (f3:=Fact.sp S3 KB KN) h1 h2 h3 h6 h7 h8
 clear H9
 refine kE (l:=[_]) Tryz.func16 U U ?_
 have H:=H0
 refine kR (sf (ebx (vs:=(txC A t.ins.length c B t.outs.length d t.lock)) U U H ?_))
 clear H;intro gm W H
 refine ln (kQ (kR (sAi U (ln (kb (kL 5 [2,3] (fun mm sl W=>∃i:Nat,∃S2:Nat->Prop,∃K2:Nat->Nat->Prop,t.ins.length - i=mm∧sl=[(2,.int .i64 (i:Int))]∧(i<=t.ins.length)∧(∀g i,KB g i->K2 g i)∧St S w W [Fact.blk gm (txC A t.ins.length c B t.outs.length d t.lock) 47,Fact.row 71 34 (.slice A t.ins.length c) t.ins.length xs,Fact.row 41 2 (.slice B t.outs.length d) t.outs.length ys,Fact.sp S2 K2 KN]) _ _ ⟨0,S3,KB,U,U,Nat.zero_le _,fun _ _ h=>h,H⟩ ⟨U,trivial⟩ (fun mm sl ρv W hJ=>?_)))))))
 clear H;obtain ⟨i,S2,K2,rfl,rfl,hi,hk2,H⟩:=hJ
 refine ko (kQ (kR (sMi U (sFa U tf47_0 (sR (d_ld U H U ta44 U) (sLn U tu44 (sLt U U (ln (kC U (fun hc9=>?_) (fun hc9=>?_))))))))))
 ·replace hc9:=of_decide_eq_true hc9
  have hlt:i<t.ins.length:=by omega
  obtain ⟨g1,rfl⟩:=row_own (H.get (f:=Fact.row 71 34 (.slice A t.ins.length c) t.ins.length xs)) (by omega)
  obtain ⟨p,A1,n1,c1,hL,hp,hin⟩:=hI i hlt
  refine kS (kQ (kb (kQ (kR (sAi U (ln (kb (kL 12 [3] (fun mm sl W=>∃k:Nat,n1 - k=mm∧sl=[(3,.int .i64 (k:Int))]∧(k<=n1)∧St S w W [Fact.blk gm (txC (some ⟨g1,0,none⟩) t.ins.length c B t.outs.length d t.lock) 47,Fact.row 71 34 (.slice (some ⟨g1,0,none⟩) t.ins.length c) t.ins.length xs,Fact.row 41 2 (.slice B t.outs.length d) t.outs.length ys,Fact.sp S2 K2 KN]) _ _ ⟨0,U,U,Nat.zero_le _,H⟩ ⟨U,trivial⟩ (fun mm sl ρv W hJ=>?_)))))))))
  clear H;obtain ⟨k,rfl,rfl,hk,H⟩:=hJ
  refine ko (kQ (kR (sMi U (sFa U tf47_0 (sR (d_ld U H U ta44 U) (sMi U (sR (dG U ((Rd.of_own (H.get (f:=Fact.row 71 34 (.slice (some ⟨g1,0,none⟩) t.ins.length c) t.ins.length xs)))) U U (q:=i) U hlt tu44 ts71) (sFa U tf71_1 (sR (dE (off:=33) U ((Rd.of_own (H.get (f:=Fact.row 71 34 (.slice (some ⟨g1,0,none⟩) t.ins.length c) t.ins.length xs)))) hlt hL (sub_in_w hp) U U (by omega) ta66) (sLn U tu66 (sLt U U (ln ?_))))))))))))
  refine kC U (fun hc20=>?_) (fun hc20=>?_)
  ·replace hc20:=of_decide_eq_true hc20
   have hltk:k<n1:=by omega
   obtain ⟨_,_,_,hv_,hm1,hK1⟩:=hin
   cases hv_
   obtain ⟨g2,o2,rfl,hKj⟩:=hK1 (by omega)
   obtain ⟨_,u,hu,huB⟩:=(H.get (f:=Fact.sp S2 K2 KN)).n g2 (o2+k*1) (by rw [Nat.mul_one];exact hKj k hltk)
   obtain ⟨A3,m3,c3,rfl,hm3,hK3⟩:=id huB
   refine kS (kQ (kb (kr (sFa U tf47_0 (sR (d_ld U H U ta44 U) (sMi U (sR (dG U ((Rd.of_own (H.get (f:=Fact.row 71 34 (.slice (some ⟨g1,0,none⟩) t.ins.length c) t.ins.length xs)))) U U (q:=i) U hlt tu44 ts71) (sFa U tf71_1 (sR (dE (off:=33) U ((Rd.of_own (H.get (f:=Fact.row 71 34 (.slice (some ⟨g1,0,none⟩) t.ins.length c) t.ins.length xs)))) hlt hL (sub_in_w hp) U U (by omega) ta66) (sMi U (sR (d_iaP (q:=k) U U U U hltk tu66 ts23) (sR (d_ldC U U ta23 hu.cell) ?_))))))))))))
   refine sf (ecl Tryz.func12 U U (spoilB _ (H.get (f:=Fact.sp S2 K2 KN)) huB) ?_)
   rintro _ W ⟨rfl,hp_,hf_⟩
   replace H:=H.mut (f:=Fact.sp S2 K2 KN) (f':=Fact.sp S2 K2 KN) hf_ hp_ (fun _ h=>h)
   clear hp_ hf_
   refine ln (kn (zE (kI U U U (by omega) U (kn (kY ?_)))))
   refine ⟨_,_,_,?_,U,?_,?_,⟨k+1,U,U,by omega,H⟩⟩
   ·omega
   ·with_reducible repeat first|exact .refl|refine .f ?_ ?_ ?_;kernel_rfl;kernel_rfl|refine .u ?_ ?_;kernel_rfl
   ·refine ⟨?_,trivial⟩
    ·exact vi (by omega)
  ·skip
   refine ke (xQ (xQ ?_))
   refine xH (kr (sFa U tf47_0 (sR (d_ld U H U ta44 U) (sMi U (sR (dG U ((Rd.of_own (H.get (f:=Fact.row 71 34 (.slice (some ⟨g1,0,none⟩) t.ins.length c) t.ins.length xs)))) U U (q:=i) U hlt tu44 ts71) (sFa U tf71_1 (sR (dE (off:=33) U ((Rd.of_own (H.get (f:=Fact.row 71 34 (.slice (some ⟨g1,0,none⟩) t.ins.length c) t.ins.length xs)))) hlt hL (sub_in_w hp) U U (by omega) ta66) (sf (ecl Tryz.func43 U U (spoilN _ (H.get (f:=Fact.sp S2 K2 KN)) hin) ?_)))))))))
   rintro _ W ⟨rfl,S4,K4,hk4,hn_⟩
   replace H:=H.turn (f:=Fact.sp S2 K2 KN) (f':=Fact.sp S4 K4 KN) hn_.fr (hn_.holds _ (.head _)) (fun g hg=>(hn_.own _ (.head _) g hg).1.imp_right (fun h=>⟨h,(hn_.own _ (.head _) g hg).2⟩))
   clear hn_
   refine ln (kn (zE (kI U U U (by omega) U (kn (kY ?_)))))
   refine ⟨_,_,_,?_,U,?_,?_,⟨i+1,S4,K4,U,U,by omega,fun a b h=>hk4 a b (hk2 a b h),H⟩⟩
   ·omega
   ·with_reducible repeat first|exact .refl|refine .f ?_ ?_ ?_;kernel_rfl;kernel_rfl|refine .u ?_ ?_;kernel_rfl
   ·refine ⟨?_,trivial⟩
    ·exact vi (by omega)
 ·skip
  refine ke (xQ (xQ ?_))
  refine xH (kQ (kR (sAi U (ln (kb (kL 40 [4] (fun mm sl W=>∃j:Nat,t.outs.length - j=mm∧sl=[(4,.int .i64 (j:Int))]∧(j<=t.outs.length)∧St S w W [Fact.blk gm (txC A t.ins.length c B t.outs.length d t.lock) 47,Fact.row 71 34 (.slice A t.ins.length c) t.ins.length xs,Fact.row 41 2 (.slice B t.outs.length d) t.outs.length ys,Fact.sp S2 K2 KN]) _ _ ⟨0,U,U,Nat.zero_le _,H⟩ ⟨U,trivial⟩ (fun mm sl ρv W hJ=>?_)))))))
  clear H;obtain ⟨j,rfl,rfl,hj,H⟩:=hJ
  refine ko (kQ (kR (sMi U (sFa U tf47_1 (sR (d_ld U H U ta45 U) (sLn U tu45 (sLt U U (ln (kC U (fun hc44=>?_) (fun hc44=>?_))))))))))
  ·replace hc44:=of_decide_eq_true hc44
   have hltj:j<t.outs.length:=by omega
   obtain ⟨g5,rfl⟩:=row_own (H.get (f:=Fact.row 41 2 (.slice B t.outs.length d) t.outs.length ys)) (by omega)
   obtain ⟨v2,A2,n2,c2,hL2,hin2⟩:=hO j hltj
   replace hin2:=hin2.mono hk2
   refine kS (kQ (kb (kr (sFa U tf47_1 (sR (d_ld U H U ta45 U) (sMi U (sR (dG U ((Rd.of_own (H.get (f:=Fact.row 41 2 (.slice (some ⟨g5,0,none⟩) t.outs.length d) t.outs.length ys)))) U U (q:=j) U hltj tu45 ts41) (sFa U tf41_1 (sR (dE (off:=1) U ((Rd.of_own (H.get (f:=Fact.row 41 2 (.slice (some ⟨g5,0,none⟩) t.outs.length d) t.outs.length ys)))) hltj hL2 U U U (by omega) ta23) (sf (ecl Tryz.func12 U U (spoilB _ (H.get (f:=Fact.sp S2 K2 KN)) hin2) ?_)))))))))))
   rintro _ W ⟨rfl,hp_,hf_⟩
   replace H:=H.mut (f:=Fact.sp S2 K2 KN) (f':=Fact.sp S2 K2 KN) hf_ hp_ (fun _ h=>h)
   clear hp_ hf_
   refine ln (kn (zE (kI U U U (by omega) U (kn (kY ?_)))))
   refine ⟨_,_,_,?_,U,?_,?_,⟨j+1,U,U,by omega,H⟩⟩
   ·omega
   ·with_reducible repeat first|exact .refl|refine .f ?_ ?_ ?_;kernel_rfl;kernel_rfl|refine .u ?_ ?_;kernel_rfl
   ·refine ⟨?_,trivial⟩
    ·exact vi (by omega)
  ·skip
   refine ke (xQ (xQ ?_))
   refine xH (kR (sFa U tf47_0 (sR (d_ld U H U ta44 U) (sf (ecl Tryz.func44 U U (spoilI _ (H.get (f:=Fact.row 71 34 (.slice A t.ins.length c) t.ins.length xs)) (by omega)) ?_)))))
   rintro _ W ⟨rfl,hf_⟩
   replace H:=H.mut (f:=Fact.row 71 34 (.slice A t.ins.length c) t.ins.length xs) (f':=Fact.gone) hf_ trivial (fun _ h=>h.elim)
   clear hf_
   refine ln (kr (sFa U tf47_1 (sR (d_ld U H U ta45 U) (sf (ecl Tryz.func45 U U (spoilO _ (H.get (f:=Fact.row 41 2 (.slice B t.outs.length d) t.outs.length ys)) (by omega)) ?_)))))
   rintro _ W ⟨rfl,hf_⟩
   replace H:=H.mut (f:=Fact.row 41 2 (.slice B t.outs.length d) t.outs.length ys) (f':=Fact.gone) hf_ trivial (fun _ h=>h.elim)
   clear hf_
   exact ln (kn (q_end0 U ⟨_,U,U,H.fr⟩))
end Go.Proofs.YtjjodibkmeefpaaGreatDoor
