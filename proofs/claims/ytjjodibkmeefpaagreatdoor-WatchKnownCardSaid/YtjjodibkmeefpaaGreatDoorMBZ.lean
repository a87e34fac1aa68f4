import Derived.Test.YtjjodibkmeefpaaGreatDoorMSP
import Derived.Test.YtjjodibkmeefpaaGreatDoorMBL
set_option linter.unusedVariables false
set_option linter.unusedSimpArgs false

namespace Go.Proofs.YtjjodibkmeefpaaGreatDoor
open Go Go.RowKit

structure ZD where
 A:Option Addr
 c:Nat
 B:Option Addr
 d:Nat
 t:DTx
def ZD.cs (z:ZD):List Value:=txC z.A z.t.ins.length z.c z.B z.t.outs.length z.d z.t.lock
def Zs (eI eO:Nat):List ZD->(Nat->Prop)->World->Prop
 | [],_,_=>True
 | z::l,S,W=>∃S1 S2,Zp eI eO S1 z.A z.c z.B z.d z.t W∧Zs eI eO l S2 W∧(∀g,S1 g->S g∧¬S2 g)∧∀g,S2 g->S g
section
variable {eI eO:Nat} {W W':World}
theorem Zs.keep:∀{l:List ZD} {S:Nat->Prop},Zs eI eO l S W->(∀g,S g->W'.heap[g]?=W.heap[g]?)->Zs eI eO l S W'
 | [],_,_,_=>trivial
 | z::l,S,⟨S1,S2,h1,h2,h3,h4⟩,k=>⟨S1,S2,h1.keep (fun g hg=>k g (h3 g hg).1),h2.keep (fun g hg=>k g (h4 g hg)),h3,h4⟩
theorem Zs.rep:∀{l:List ZD} {S:Nat->Prop} {i:Nat} {z:ZD},Zs eI eO l S W->l[i]?=some z->RTx W (0<=·) z.cs z.t
 | [],_,_,_,_,h=>by simp at h
 | x::l,S,0,z,⟨S1,S2,h1,_⟩,h=>by
  obtain rfl:x=z:=by simpa using h
  exact mono_Tx _ _ _ _ _ h1.r (fun g _ _=>Nat.zero_le _)
 | x::l,S,i+1,z,⟨S1,S2,_,h2,_⟩,h=>Zs.rep h2 (by simpa using h)
end
def Fact.zs (eI eO:Nat) (S:Nat->Prop) (l:List ZD):Fact:=⟨S,Zs eI eO l S,fun _ _ h k=>h.keep (fun g hg=>k g hg)⟩
abbrev zcs (l:List ZD):List Value:=(l.map ZD.cs).flatten
def Zb (e eI eO:Nat) (S:Nat->Prop) (A:Option Addr) (n c:Nat) (l:List ZD) (W:World):Prop:=W.ownsRow 0 e 3 (.slice A n c) n (zcs l)∧Zs eI eO l S W∧∀g,ownB A n c g->¬S g
def Fact.zb (e eI eO:Nat) (S:Nat->Prop) (A:Option Addr) (n c:Nat) (l:List ZD):Fact :=
 ⟨fun g=>ownB A n c g∨S g,Zb e eI eO S A n c l,fun _ _ h k=>⟨ownsRow_keep h.1 (fun g hg=>k g (.inl hg)),h.2.1.keep (fun g hg=>k g (.inr hg)),h.2.2⟩⟩
section
variable {T:Nat->Prop} {w0 W:World} {L:List Fact} {eI eO e:Nat}
end
end Go.Proofs.YtjjodibkmeefpaaGreatDoor
