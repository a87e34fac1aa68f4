import Derived.Test.YtjjodibkmeefpaaDoorMWN
set_option linter.unusedVariables false
set_option linter.unusedSimpArgs false

namespace Go.Proofs.YtjjodibkmeefpaaDoor
open Go Go.RowKit

def At (W:World) (g i:Nat) (v:Value):Prop:=∃(c:List Value) (t:TypeId),W.heap[g]?=some (.cells c.toArray t (0,0))∧c[i]?=some v
def InB (K:Nat->Nat->Prop) (v:Value):Prop:=∃(A:Option Addr) (m c:Nat),v=.slice A m c∧m<=1000000000000∧(0<m->∃g o,A=some ⟨g,o,none⟩∧∀j,j<m->K g (o+j))
structure Sp (S:Nat->Prop) (KB KN:Nat->Nat->Prop) (W:World):Prop where
 lt:∀g,S g->g<W.heap.size
 b:∀g i,KB g i->S g∧∃x,At W g i (.int .u8 x)
 n:∀g i,KN g i->S g∧∃v,At W g i v∧InB KB v
section
variable {W W':World} {g i g' i':Nat} {u v v':Value} {S:Nat->Prop} {KB KB' KN:Nat->Nat->Prop}
theorem At.cell (h:At W g i v):W.cell? ⟨g,i,none⟩=some v:=by
 obtain ⟨c,t,h1,h2⟩:=h
 rw [blk_cell h1];exact h2
theorem At.keep (h:At W g i v) (hk:W'.heap[g]?=W.heap[g]?):At W' g i v:=by
 obtain ⟨c,t,h1,h2⟩:=h
 exact ⟨c,t,hk.trans h1,h2⟩
theorem At.lt (h:At W g i v):g<W.heap.size:=by
 obtain ⟨c,t,h1,_⟩:=h
 exact (List.getElem?_eq_some_iff.1 (by simpa using h1)).1
theorem InB.mono (h:InB KB v) (hk:∀g i,KB g i->KB' g i):InB KB' v:=by
 obtain ⟨A,m,c,rfl,h1,h2⟩:=h
 refine ⟨A,m,c,rfl,h1,fun hm=>?_⟩
 obtain ⟨g,o,e,h3⟩:=h2 hm
 exact ⟨g,o,e,fun j hj=>hk _ _ (h3 j hj)⟩
theorem Sp.keep (h:Sp S KB KN W) (k:∀g,S g->W'.heap[g]?=W.heap[g]?):Sp S KB KN W':=by
 refine ⟨fun g hg=>lt_of_block (h.lt g hg) (k g hg),fun g i hg=>?_,fun g i hg=>?_⟩
 ·obtain ⟨h1,x,h2⟩:=h.b g i hg
  exact ⟨h1,x,h2.keep (k g h1)⟩
 ·obtain ⟨h1,v,h2,h3⟩:=h.n g i hg
  exact ⟨h1,v,h2.keep (k g h1),h3⟩
end
def Fact.sp (S:Nat->Prop) (KB KN:Nat->Nat->Prop):Fact:=⟨S,Sp S KB KN,fun _ _ h k=>h.keep (fun g hg=>k g hg)⟩
section
variable {P:Program} {ops:Array Oper} {Q:Exit->Act->World->Prop} {o:Oper} {n:Nat} {ρ:Nat->Value} {ds:List Deferred} {W w0:World} {K:Act->World->Prop} {T:Nat->Prop} {L L':List Fact} {t:TypeId} {x y:Operand} {g i:Nat} {v:Value} {S:Nat->Prop} {KB KN:Nat->Nat->Prop}
end
section
variable {T:Nat->Prop} {w0 W W':World} {L:List Fact} {S:Nat->Prop} {KB KN:Nat->Nat->Prop}
theorem St.spoilt {f1 f2 f3:Fact} (H:St T w0 W (f1::f2::f3::L)) (hf:Fr (fun g=>f1.fp g∨f2.fp g∨f3.fp g) W W'):St T w0 W' L:=by
 have h1:=List.pairwise_cons.1 H.apart
 have h2:=List.pairwise_cons.1 h1.2
 have h3:=List.pairwise_cons.1 h2.2
 have hk:∀x∈L,∀g,x.fp g->W'.heap[g]?=W.heap[g]?:=fun x hx g hg=>hf.block g (H.own x (.tail _ (.tail _ (.tail _ hx))) g hg).2 (fun e=>by
  rcases e with e|e|e
  ·exact h1.1 x (.tail _ (.tail _ hx)) g e hg
  ·exact h2.1 x (.tail _ hx) g e hg
  ·exact h3.1 x hx g e hg)
 refine ⟨H.fr.trans hf (fun g hg e=>?_),fun x hx=>x.st W W' (H.holds x (.tail _ (.tail _ (.tail _ hx)))) (fun g hg=>hk x hx g hg),fun x hx g hg=>?_,h3.2⟩
 ·have:(T g∨w0.heap.size<=g):=by
   rcases e with e|e|e
   ·exact (H.own _ (.head _) g e).1
   ·exact (H.own _ (.tail _ (.head _)) g e).1
   ·exact (H.own _ (.tail _ (.tail _ (.head _))) g e).1
  exact this.resolve_right (by omega)
 ·have:=H.own x (.tail _ (.tail _ (.tail _ hx))) g hg
  exact ⟨this.1,Nat.lt_of_lt_of_le this.2 hf.size⟩
end
section
variable {P:Program} {ops:Array Oper} {Q:Exit->Act->World->Prop} {o:Oper} {n:Nat} {ρ:Nat->Value} {ds:List Deferred} {W w w0:World} {K:Act->World->Prop} {T:Nat->Prop} {L L':List Fact} {x y:Operand} {v:Value} {t e:TypeId}
end
end Go.Proofs.YtjjodibkmeefpaaDoor

namespace Go.Proofs.YtjjodibkmeefpaaDoor
open Go Go.RowKit

def ShI (KN:Nat->Nat->Prop) (xs:List Value) (n:Nat):Prop:=∀i,i<n->∃p A m c,sub xs (i*34) 34=inC p A m c∧p.tx.length=32∧InB KN (.slice A m c)
def ShO (KB:Nat->Nat->Prop) (ys:List Value) (n:Nat):Prop:=∀i,i<n->∃v A m c,sub ys (i*2) 2=outC v A m c∧InB KB (.slice A m c)
abbrev ownB (A:Option Addr) (n c g:Nat):Prop:=(Value.slice A n c).ownBlock=some g
structure Zp (eI eO:Nat) (S:Nat->Prop) (A:Option Addr) (c:Nat) (B:Option Addr) (d:Nat) (t:DTx) (W:World):Prop where
 r:RTx W S (txC A t.ins.length c B t.outs.length d t.lock) t
 n:t.ins.length<=1000000∧t.outs.length<=1000000
 z:∃xs ys S3 KB KN,W.ownsRow 0 eI 34 (.slice A t.ins.length c) t.ins.length xs∧W.ownsRow 0 eO 2 (.slice B t.outs.length d) t.outs.length ys∧Sp S3 KB KN W∧ShI KN xs t.ins.length∧ShO KB ys t.outs.length
  ∧ (∀g,ownB A t.ins.length c g->S g∧¬ownB B t.outs.length d g∧¬S3 g)∧(∀g,ownB B t.outs.length d g->S g∧¬S3 g)∧∀g,S3 g->S g
theorem Zp.keep {eI eO:Nat} {S:Nat->Prop} {A:Option Addr} {c:Nat} {B:Option Addr} {d:Nat} {t:DTx} {W W':World} (h:Zp eI eO S A c B d t W) (k:∀g,S g->W'.heap[g]?=W.heap[g]?):Zp eI eO S A c B d t W':=by
 obtain ⟨xs,ys,S3,KB,KN,h1,h2,h3,h4,h5,h6,h7,h8⟩:=h.z
 exact ⟨keeps_Tx _ _ _ _ _ h.r (fun g _ hg=>k g hg),h.n,xs,ys,S3,KB,KN,ownsRow_keep h1 (fun g hg=>k g (h6 g hg).1),ownsRow_keep h2 (fun g hg=>k g (h7 g hg).1),h3.keep (fun g hg=>k g (h8 g hg)),h4,h5,h6,h7,h8⟩
def Fact.z (eI eO:Nat) (S:Nat->Prop) (A:Option Addr) (c:Nat) (B:Option Addr) (d:Nat) (t:DTx):Fact:=⟨S,Zp eI eO S A c B d t,fun _ _ h k=>h.keep (fun g hg=>k g hg)⟩
def Fact.gone:Fact:=⟨fun _=>False,fun _=>True,fun _ _ _ _=>trivial⟩
section
variable {T:Nat->Prop} {w0 W W':World} {L:List Fact}
end
section
variable {T:Nat->Prop} {w W:World} {b:List UInt8} {t:DTx} {eI eO u tR:Nat} {A B:Option Addr} {c d:Nat} {L:List Fact}
theorem zero_z {S:Nat->Prop} {eI eO:Nat}:Zp eI eO (fun _=>False) none 0 none 0 Tx.zero W :=
 ⟨⟨_,_,_,rfl,rl_nil,rl_nil,rfl,by decide,by decide⟩,⟨by decide,by decide⟩,[],[],fun _=>False,fun _ _=>False,fun _ _=>False,⟨rfl,.inl ⟨rfl,rfl⟩⟩,⟨rfl,.inl ⟨rfl,rfl⟩⟩,⟨fun _ h=>h.elim,fun _ _ h=>h.elim,fun _ _ h=>h.elim⟩,fun i hi=>absurd hi (by simp [Tx.zero]),fun i hi=>absurd hi (by simp [Tx.zero]),fun g hg=>(by cases hg),fun g hg=>(by cases hg),fun _ h=>h⟩
theorem St.addz (H:St T w W L) {eI eO:Nat}:St T w W (Fact.z eI eO (fun _=>False) none 0 none 0 Tx.zero::L):=by
 refine ⟨H.fr,fun x hx=>?_,fun x hx g hg=>?_,List.pairwise_cons.2 ⟨fun x _ g hg=>(hg:False).elim,H.apart⟩⟩
 ·rcases List.mem_cons.1 hx with rfl|hx
  ·exact zero_z (S:=nT)
  ·exact H.holds x hx
 ·rcases List.mem_cons.1 hx with rfl|hx
  ·exact (hg:False).elim
  ·exact H.own x hx g hg
end
end Go.Proofs.YtjjodibkmeefpaaDoor
