import Derived.Test.YtjjodibkmeefpaaGreatDoorMBL
import Derived.Test.YtjjodibkmeefpaaGreatDoorMV
import Derived.Laws.BytesArg
import Derived.Test.YtjjodibkmeefpaaGreatDoorMBN
set_option linter.unusedVariables false
set_option linter.unusedSimpArgs false

namespace Go.Proofs.YtjjodibkmeefpaaGreatDoor
open Go Go.RowKit

structure WHit where
 point:DPoint
 out:DOut
 depth:Int
namespace Wt
section
variable (ID:DTx->List UInt8) (SUM:List UInt8->List UInt8)
def hitsO (t:DTx) (d:Int) (s:List UInt8):List DOut->Nat->List WHit
 | [],_=>[]
 | o::l,n=>if o.script=s then ⟨⟨ID t,n⟩,⟨o.value,s⟩,d⟩::hitsO t d s l (n+1) else hitsO t d s l (n+1)
def hitsT (t:DTx) (d:Int) (s:List UInt8):List WHit:=hitsO ID t d s t.outs 0
def hitsB (s:List UInt8) (d:Int) (l:List DTx):List WHit:=l.flatMap (fun t=>hitsT ID t d s)
def foundN (s:List UInt8) (N:Nat):List DBlock->Nat->List WHit
 | [],_=>[]
 | b::l,i=>hitsB ID s ((N:Int) - i) b.txs++foundN s N l (i+1)
def found (p:List DBlock) (s:List UInt8):List WHit:=foundN ID s p.length p 0
def inAt (p:DPoint):List DIn->Nat->Option Nat
 | [],_=>none
 | x::l,n=>if beqPoint x.point p=true then some n else inAt p l (n+1)
def spentB (p:DPoint) (d:Int):List DTx->Option (DTx × Nat × Int)
 | []=>none
 | t::l=>match inAt p t.ins 0 with
  | some n=>some (t,n,d)
  | none=>spentB p d l
def spentN (p:DPoint) (N:Nat):List DBlock->Nat->Option (DTx × Nat × Int)
 | [],_=>none
 | b::l,i=>match spentB p ((N:Int) - i) b.txs with
  | some x=>some x
  | none=>spentN p N l (i+1)
def spent (l:List DBlock) (p:DPoint):Option (DTx × Nat × Int):=spentN p l.length l 0
def secretW (h:List UInt8):List (List UInt8)->Option (List UInt8)
 | []=>none
 | x::l=>if x.length=32∧SUM x=h then some x else secretW h l
def secretS (h:List UInt8):Option (DTx × Nat × Int)->Option (List UInt8)
 | none=>none
 | some (t,n,_)=>match t.ins[n]? with
  | some x=>secretW SUM h x.wit
  | none=>none
def secret (l:List DBlock) (p:DPoint) (h:List UInt8):Option (List UInt8):=secretS SUM h (spent l p)
def hasId (id:List UInt8) (l:List DTx):Bool:=l.any (fun t=>ID t == id)
def depthN (id:List UInt8) (N:Nat):List DBlock->Nat->Int
 | [],_=>0
 | b::l,i=>if hasId ID id b.txs=true then (N:Int) - i else depthN id N l (i+1)
def depth (l:List DBlock) (id:List UInt8):Int:=depthN ID id l.length l 0
end
variable {ID:DTx->List UInt8} {SUM:List UInt8->List UInt8}
theorem hitsO_app {t:DTx} {d:Int} {s:List UInt8}:∀(a b:List DOut) (n:Nat),hitsO ID t d s (a++b) n=hitsO ID t d s a n++hitsO ID t d s b (n+a.length)
 | [],b,n=>rfl
 | o::a,b,n=>by
  have ih:=hitsO_app (t:=t) (d:=d) (s:=s) a b (n+1)
  rw [List.cons_append,hitsO,hitsO,ih,List.length_cons,show n+(a.length+1)=n+1+a.length by omega]
  split <;> rfl
theorem foundN_app {s:List UInt8} {N:Nat}:∀(a b:List DBlock) (i:Nat),foundN ID s N (a++b) i=foundN ID s N a i++foundN ID s N b (i+a.length)
 | [],b,i=>rfl
 | x::a,b,i=>by
  have ih:=foundN_app (s:=s) (N:=N) a b (i+1)
  rw [List.cons_append,foundN,foundN,ih,List.length_cons,show i+(a.length+1)=i+1+a.length by omega,List.append_assoc]
def deeper (m:Nat) (h:WHit):WHit:=⟨h.point,h.out,h.depth+m⟩
theorem hitsO_deep {t:DTx} {d:Int} {s:List UInt8} {m:Nat}:∀(l:List DOut) (n:Nat),hitsO ID t (d+m) s l n=(hitsO ID t d s l n).map (deeper m)
 | [],n=>rfl
 | o::l,n=>by
  have ih:=hitsO_deep (t:=t) (d:=d) (s:=s) (m:=m) l (n+1)
  rw [hitsO,hitsO,ih]
  split <;> rfl
theorem hitsB_deep {s:List UInt8} {d:Int} {m:Nat}:∀(l:List DTx),hitsB ID s (d+m) l=(hitsB ID s d l).map (deeper m)
 | []=>rfl
 | t::l=>by
  have ih:=hitsB_deep (s:=s) (d:=d) (m:=m) l
  unfold hitsB at ih ⊢
  rw [List.flatMap_cons,List.flatMap_cons,List.map_append,ih]
  congr 1
  exact hitsO_deep _ _
theorem foundN_deep {s:List UInt8} {N m:Nat}:∀(l:List DBlock) (i:Nat),foundN ID s (N+m) l i=(foundN ID s N l i).map (deeper m)
 | [],i=>rfl
 | b::l,i=>by
  have ih:=foundN_deep (s:=s) (N:=N) (m:=m) l (i+1)
  rw [foundN,foundN,ih,List.map_append,←hitsB_deep]
  congr 2
  omega
theorem hitsO_of {t:DTx} {d:Int} {s:List UInt8} {h:WHit}:∀{l:List DOut} {n:Nat},h∈hitsO ID t d s l n->h.point.tx=ID t∧h.out.script=s∧h.depth=d
 | [],n,hh=>by cases hh
 | o::l,n,hh=>by
  rw [hitsO] at hh
  split at hh
  ·rcases List.mem_cons.1 hh with rfl|hh
   ·exact ⟨rfl,rfl,rfl⟩
   ·exact hitsO_of hh
  ·exact hitsO_of hh
theorem foundN_of {s:List UInt8} {N:Nat} {h:WHit}:∀{l:List DBlock} {i:Nat},h∈foundN ID s N l i->h.out.script=s∧∃j:Nat,j<l.length∧h.depth=(N:Int) - (i+j:Nat)∧∃b,l[j]?=some b∧hasId ID h.point.tx b.txs=true
 | [],i,hh=>by cases hh
 | b::l,i,hh=>by
  rw [foundN] at hh
  rcases List.mem_append.1 hh with hh|hh
  ·unfold hitsB at hh
   obtain ⟨t,ht,h1⟩:=List.mem_flatMap.1 hh
   obtain ⟨h2,h3,h4⟩:=hitsO_of h1
   refine ⟨h3,0,by simp,by rw [h4];simp,b,rfl,?_⟩
   unfold hasId
   exact List.any_eq_true.2 ⟨t,ht,by rw [h2];simp⟩
  ·obtain ⟨h1,j,h2,h3,b',h4,h5⟩:=foundN_of hh
   exact ⟨h1,j+1,by simpa using h2,by rw [h3];omega,b',by simpa using h4,h5⟩
theorem depthN_ge {id:List UInt8} {N:Nat}:∀{l:List DBlock} {i j:Nat} {b:DBlock},l[j]?=some b->hasId ID id b.txs=true->(N:Int) - (i+j:Nat)<=depthN ID id N l i
 | [],i,j,b,h,_=>by simp at h
 | x::l,i,0,b,h,hb=>by
  obtain rfl:x=b:=by simpa using h
  rw [depthN,if_pos hb];simp
 | x::l,i,j+1,b,h,hb=>by
  rw [depthN]
  split
  ·omega
  ·have:=depthN_ge (id:=id) (N:=N) (l:=l) (i:=i+1) (j:=j) (b:=b) (by simpa using h) hb
   omega
theorem depthN_app {id:List UInt8} {N:Nat}:∀(a b:List DBlock) (i:Nat),i+a.length<=N->(depthN ID id N a i≠0->depthN ID id N (a++b) i=depthN ID id N a i)∧(depthN ID id N a i=0->depthN ID id N (a++b) i=depthN ID id N b (i+a.length))
 | [],b,i,_=>⟨fun h=>absurd rfl h,fun _=>rfl⟩
 | x::a,b,i,hN=>by
  rw [List.length_cons] at hN
  obtain ⟨h1,h2⟩:=depthN_app (id:=id) (N:=N) a b (i+1) (by omega)
  rw [List.cons_append,depthN,depthN]
  split
  ·exact ⟨fun _=>rfl,fun h=>absurd h (by omega)⟩
  ·exact ⟨h1,fun h=>by rw [h2 h,List.length_cons,show i+(a.length+1)=i+1+a.length by omega]⟩
theorem depthN_deep {id:List UInt8} {N m:Nat}:∀(l:List DBlock) (i:Nat),i+l.length<=N->depthN ID id (N+m) l i=if depthN ID id N l i=0 then 0 else depthN ID id N l i+m
 | [],i,_=>rfl
 | b::l,i,hN=>by
  rw [List.length_cons] at hN
  have ih:=depthN_deep (id:=id) (N:=N) (m:=m) l (i+1) (by omega)
  rw [depthN,depthN,ih]
  by_cases hb:hasId ID id b.txs=true
  ·rw [if_pos hb,if_pos hb,if_neg (by omega)];omega
  ·rw [if_neg hb,if_neg hb]
theorem depthN_le {id:List UInt8} {N:Nat}:∀(l:List DBlock) (i:Nat),i+l.length<=N->0<=depthN ID id N l i∧depthN ID id N l i<=(N:Int) - i
 | [],i,h=>by rw [depthN];simp at h;omega
 | b::l,i,hN=>by
  rw [List.length_cons] at hN
  have ih:=depthN_le (id:=id) (N:=N) l (i+1) (by omega)
  rw [depthN]
  split
  ·omega
  ·omega
theorem spentN_app {p:DPoint} {N:Nat}:∀(a b:List DBlock) (i:Nat),spentN p N (a++b) i=match spentN p N a i with
  | some x=>some x
  | none=>spentN p N b (i+a.length)
 | [],b,i=>rfl
 | x::a,b,i=>by
  have ih:=spentN_app (p:=p) (N:=N) a b (i+1)
  rw [List.cons_append,spentN,spentN,ih,List.length_cons,show i+(a.length+1)=i+1+a.length by omega]
  cases spentB p ((N:Int) - i) x.txs <;> rfl
def deepS (m:Nat):DTx × Nat × Int->DTx × Nat × Int:=fun x=>(x.1,x.2.1,x.2.2+m)
theorem spentB_deep {p:DPoint} {d:Int} {m:Nat}:∀(l:List DTx),spentB p (d+m) l=(spentB p d l).map (deepS m)
 | []=>rfl
 | t::l=>by
  have ih:=spentB_deep (p:=p) (d:=d) (m:=m) l
  rw [spentB,spentB,ih]
  cases inAt p t.ins 0 <;> rfl
theorem spentN_deep {p:DPoint} {N m:Nat}:∀(l:List DBlock) (i:Nat),spentN p (N+m) l i=(spentN p N l i).map (deepS m)
 | [],i=>rfl
 | b::l,i=>by
  have ih:=spentN_deep (p:=p) (N:=N) (m:=m) l (i+1)
  have e:(((N+m:Nat):Int) - (i:Int))=((N:Int) - i)+m:=by omega
  rw [spentN,spentN,ih,e,spentB_deep]
  cases spentB p ((N:Int) - i) b.txs <;> rfl
theorem spentB_of {p:DPoint} {d:Int} {x:DTx × Nat × Int}:∀{l:List DTx},spentB p d l=some x->x.2.2=d∧x.1∈l∧inAt p x.1.ins 0=some x.2.1
 | [],h=>by cases h
 | t::l,h=>by
  rw [spentB] at h
  cases hi:inAt p t.ins 0 with
  | some n =>
   rw [hi] at h
   obtain rfl:(t,n,d)=x:=by simpa using h
   exact ⟨rfl,.head _,hi⟩
  | none =>
   rw [hi] at h
   obtain ⟨h1,h2,h3⟩:=spentB_of (l:=l) h
   exact ⟨h1,.tail _ h2,h3⟩
theorem spentN_le {p:DPoint} {N:Nat} {x:DTx × Nat × Int}:∀{l:List DBlock} {i:Nat},spentN p N l i=some x->x.2.2<=(N:Int) - i∧(N:Int) - (i+l.length:Nat)<x.2.2
 | [],i,h=>by cases h
 | b::l,i,h=>by
  rw [spentN] at h
  cases hb:spentB p ((N:Int) - i) b.txs with
  | some y =>
   rw [hb] at h
   obtain rfl:y=x:=by simpa using h
   have:=(spentB_of hb).1
   rw [List.length_cons]
   omega
  | none =>
   rw [hb] at h
   have:=spentN_le (l:=l) h
   rw [List.length_cons]
   omega
theorem secretW_of {h x:List UInt8}:∀{l:List (List UInt8)},secretW SUM h l=some x->x.length=32∧SUM x=h
 | [],hx=>by cases hx
 | y::l,hx=>by
  rw [secretW] at hx
  split at hx
  ·rename_i hy
   obtain rfl:y=x:=by simpa using hx
   exact hy
  ·exact secretW_of hx
end Wt
end Go.Proofs.YtjjodibkmeefpaaGreatDoor

namespace Go.Proofs.YtjjodibkmeefpaaGreatDoor
open Go Go.RowKit

namespace Wt
def flat (N:Nat):List DBlock->Nat->List (Int × DTx)
 | [],_=>[]
 | b::l,i=>b.txs.map (fun t=>((N:Int) - i,t))++flat N l (i+1)
section
variable (ID:DTx->List UInt8)
def hitsF (s:List UInt8) (l:List (Int × DTx)):List WHit:=l.flatMap (fun x=>hitsT ID x.2 x.1 s)
def spentF (p:DPoint):List (Int × DTx)->Option (DTx × Nat × Int)
 | []=>none
 | x::l=>match inAt p x.2.ins 0 with
  | some n=>some (x.2,n,x.1)
  | none=>spentF p l
def depthF (id:List UInt8):List (Int × DTx)->Int
 | []=>0
 | x::l=>if ID x.2=id then x.1 else depthF id l
end
variable {ID:DTx->List UInt8} {N:Nat}
theorem flat_app:∀(a b:List DBlock) (i:Nat),flat N (a++b) i=flat N a i++flat N b (i+a.length)
 | [],_,_=>rfl
 | x::a,b,i=>by
  rw [List.cons_append,flat,flat,flat_app a b (i+1),List.length_cons,show i+(a.length+1)=i+1+a.length by omega,List.append_assoc]
theorem take_cons {α:Type} {l:List α} {i:Nat} {x:α} (h:l[i]?=some x):l=l.take i++x::l.drop (i+1):=by
 have hlt:=(List.getElem?_eq_some_iff.1 h).1
 have hx:=(List.getElem?_eq_some_iff.1 h).2
 rw [←hx,←List.drop_eq_getElem_cons hlt,List.take_append_drop]
theorem flat_step {p:List DBlock} {i:Nat} {b:DBlock} (h:p[i]?=some b):flat N (p.take (i+1)) 0=flat N (p.take i) 0++b.txs.map (fun t=>((N:Int) - i,t)):=by
 have hlt:=(List.getElem?_eq_some_iff.1 h).1
 have e:p.take (i+1)=p.take i++[b]:=take_get h
 rw [e,flat_app,List.length_take,show 0+min i p.length=i by omega]
 simp [flat]
theorem flat_at {p:List DBlock} {i k:Nat} {b:DBlock} {t:DTx} (hi:p[i]?=some b) (hk:b.txs[k]?=some t) :
  ∃rest,flat N p 0=flat N (p.take i) 0++((b.txs.take k).map (fun t=>((N:Int) - i,t))++(((N:Int) - i,t)::rest)):=by
 have hlt:=(List.getElem?_eq_some_iff.1 hi).1
 have e1:=take_cons hi
 have e2:=take_cons hk
 refine ⟨(b.txs.drop (k+1)).map (fun t=>((N:Int) - i,t))++flat N (p.drop (i+1)) (i+1),?_⟩
 have e3:b.txs.map (fun t=>((N:Int) - i,t))=(b.txs.take k).map (fun t=>((N:Int) - i,t))++(((N:Int) - i,t)::(b.txs.drop (k+1)).map (fun t=>((N:Int) - i,t))):=by
  conv=>lhs;rw [e2]
  rw [List.map_append,List.map_cons]
 conv=>lhs;rw [e1]
 rw [flat_app,List.length_take,show 0+min i p.length=i by omega,flat,e3]
 simp only [List.append_assoc,List.cons_append]
theorem found_flat {s:List UInt8}:∀(l:List DBlock) (i:Nat),foundN ID s N l i=hitsF ID s (flat N l i)
 | [],_=>rfl
 | b::l,i=>by
  rw [foundN,flat,found_flat l (i+1)]
  unfold hitsF hitsB
  rw [List.flatMap_append,List.flatMap_map]
theorem spentF_app {p:DPoint}:∀(a b:List (Int × DTx)),spentF p (a++b)=match spentF p a with
  | some x=>some x
  | none=>spentF p b
 | [],_=>rfl
 | x::a,b=>by
  rw [List.cons_append,spentF,spentF,spentF_app a b]
  cases inAt p x.2.ins 0 <;> rfl
theorem spentB_flat {p:DPoint} {d:Int}:∀(l:List DTx),spentB p d l=spentF p (l.map (fun t=>(d,t)))
 | []=>rfl
 | t::l=>by
  rw [spentB,List.map_cons,spentF,spentB_flat l] <;> rfl
theorem spent_flat {p:DPoint}:∀(l:List DBlock) (i:Nat),spentN p N l i=spentF p (flat N l i)
 | [],_=>rfl
 | b::l,i=>by
  rw [spentN,flat,spentF_app,spentB_flat,spent_flat l (i+1)] <;> rfl
theorem depthF_app {id:List UInt8}:∀(a b:List (Int × DTx)),depthF ID id (a++b)=if a.any (fun x=>ID x.2 == id)=true then depthF ID id a else depthF ID id b
 | [],_=>rfl
 | x::a,b=>by
  rw [List.cons_append,depthF,depthF,depthF_app a b,List.any_cons]
  by_cases h:ID x.2=id
  ·simp [h]
  ·have:(ID x.2 == id)=false:=by simpa using h
   rw [if_neg h,if_neg h,this,Bool.false_or]
theorem depth_flat {id:List UInt8}:∀(l:List DBlock) (i:Nat),depthN ID id N l i=depthF ID id (flat N l i)
 | [],_=>rfl
 | b::l,i=>by
  rw [depthN,flat,depthF_app,←depth_flat l (i+1),List.any_map]
  unfold hasId
  by_cases h:(b.txs.any fun t=>ID t == id)=true
  ·rw [if_pos h,if_pos (by exact h)]
   have key:∀l:List DTx,(l.any fun t=>ID t == id)=true->depthF ID id (l.map fun t=>((N:Int) - i,t))=(N:Int) - i:=by
    intro l
    induction l with
    | nil=>intro h;cases h
    | cons t l ih =>
     intro h
     rw [List.map_cons,depthF]
     by_cases ht:ID t=id
     ·rw [if_pos ht]
     ·rw [if_neg ht]
      refine ih ?_
      rw [List.any_cons] at h
      have:(ID t == id)=false:=by simpa using ht
      rwa [this,Bool.false_or] at h
   exact (key _ h).symm
  ·rw [if_neg h,if_neg (by exact h)]
theorem spentF_snoc {p:DPoint} {a:List (Int × DTx)} {x:Int × DTx} (h:spentF p a=none) (hx:inAt p x.2.ins 0=none):spentF p (a++[x])=none:=by rw [spentF_app,h];simp [spentF,hx]
theorem spentF_hit {p:DPoint} {a rest:List (Int × DTx)} {x:Int × DTx} {n:Nat} (h:spentF p a=none) (hx:inAt p x.2.ins 0=some n):spentF p (a++x::rest)=some (x.2,n,x.1):=by rw [spentF_app,h];simp [spentF,hx]
theorem depthF_snoc {id:List UInt8} {a:List (Int × DTx)} {x:Int × DTx} (h:∀y∈a,ID y.2≠id) (hx:ID x.2≠id):∀y∈a++[x],ID y.2≠id:=fun y hy=>by
 rcases List.mem_append.1 hy with hy|hy
 ·exact h y hy
 ·obtain rfl:=List.mem_singleton.1 hy;exact hx
theorem depthF_none {id:List UInt8}:∀{a:List (Int × DTx)},(∀y∈a,ID y.2≠id)->depthF ID id a=0
 | [],_=>rfl
 | x::a,h=>by rw [depthF,if_neg (h x (.head _)),depthF_none (fun y hy=>h y (.tail _ hy))]
theorem depthF_hit {id:List UInt8} {x:Int × DTx} {rest:List (Int × DTx)}:∀{a:List (Int × DTx)},(∀y∈a,ID y.2≠id)->ID x.2=id->depthF ID id (a++x::rest)=x.1
 | [],_,hx=>by rw [List.nil_append,depthF,if_pos hx]
 | y::a,h,hx=>by rw [List.cons_append,depthF,if_neg (h y (.head _)),depthF_hit (fun z hz=>h z (.tail _ hz)) hx]
end Wt
end Go.Proofs.YtjjodibkmeefpaaGreatDoor

namespace Go.Proofs.YtjjodibkmeefpaaGreatDoor
open Go Go.RowKit

def strB (l:List UInt8):ByteArray:=⟨l.toArray⟩
section
variable {P:Program} {o:Oper} {n:Nat} {ρ:Nat->Value} {W:World} {x y:Operand} {t t' e:TypeId} {v:Value} {S:Nat->Prop} {l:List UInt8}
theorem d_str (ho:o.op=.convert t t' x) (hb:Bs W S v l) (hx:ev n ρ x=v) (hs:P.underlying t=some (.slice e)) (he:P.underlying e=some (.int .u8)) (hd:P.underlying t'=some .string):Runs P n ρ o W (.string (strB l)) W:=by
 obtain ⟨A,c,rfl,h1,h2,h3⟩:=hb.op
 have key:(convert t t' (.slice A l.length c)).run P W=.ok (.string (strB l)) W:=by
  rcases Nat.eq_zero_or_pos l.length with h0|h0
  ·obtain rfl:l=[]:=List.eq_nil_of_length_eq_zero h0
   cases A with
   | none=>exact run_convert_bytes_nil W t e hs he _ c t' hd
   | some a =>
    have hl:(loadCells a 0).run P W=.ok (([]:List Int).map (Value.int .u8)).toArray W:=by
     have:=run_loadCells_list (P:=P) W a ([]:List Value) (fun j v hj=>by simp at hj)
     simpa using this
    rw [List.length_nil,run_convert_bytes_string W t t' e _ 0 c hs he hd,run_bytesToString W _ 0 c [] hl]
    rfl
  ·obtain ⟨g,o',rfl,_,h4⟩:=h3.2 h0
   have:=run_convert_bytes_arg (P:=P) W t e hs he g o' l.length c (l.map (fun b=>(b.toNat:Int))) (by rw [List.length_map]) (fun i hi=>by
    have:=h4 i (u8v l[i]) (by rw [List.getElem?_map,List.getElem?_eq_getElem hi];rfl)
    rw [this]
    simp [List.getD,List.getElem?_eq_getElem hi]) t' hd
   rw [this]
   have e1:strOfNums (l.map (fun b=>(b.toNat:Int)))=strB l:=by
    unfold strOfNums strB
    congr 2
    rw [List.map_map]
    conv=>rhs;rw [←List.map_id l]
    apply List.map_congr_left
    intro b _
    simp
   rw [e1]
 unfold Runs execOp
 simp [ho,hx,key]
theorem toList_strB (l:List UInt8):(strB l).toList=l:=by
 have h:∀(n:Nat) (i:Nat) (r:List UInt8),l.length - i=n->i<=l.length->ByteArray.toList.loop (strB l) i r=r.reverse++l.drop i:=by
  intro n
  induction n with
  | zero =>
   intro i r h1 h2
   rw [ByteArray.toList.loop]
   have:¬i<(strB l).size:=by show ¬i<l.toArray.size;simp;omega
   rw [if_neg this,List.drop_of_length_le (by omega)];simp
  | succ n ih =>
   intro i r h1 h2
   rw [ByteArray.toList.loop]
   have h3:i<l.length:=by omega
   have:i<(strB l).size:=by show i<l.toArray.size;simp;omega
   rw [if_pos this,ih (i+1) _ (by omega) (by omega)]
   have e:(strB l).get! i=l[i]:=by
    unfold strB ByteArray.get!
    simp [h3]
    rfl
   rw [e];simp
   first|done|exact (List.drop_eq_getElem_cons h3).symm
 have:=h l.length 0 [] rfl (Nat.zero_le _)
 simpa [ByteArray.toList] using this
theorem strB_eq {a b:List UInt8}:((strB a).toList == (strB b).toList)=decide (a=b):=by
 rw [toList_strB,toList_strB]
 by_cases h:a=b
 ·simp [h]
 ·rw [decide_eq_false h];simpa using h
end
end Go.Proofs.YtjjodibkmeefpaaGreatDoor

namespace Go.Proofs.YtjjodibkmeefpaaGreatDoor
open Go Go.RowKit

structure Tx.FitZ (t:DTx):Prop where
 fits:(∀x∈t.ins,x.wit.length<=1000000∧∀b∈x.wit,b.length<=1000000000000)∧(∀o∈t.outs,o.script.length<=1000000000000)
 n:t.ins.length<=1000000∧t.outs.length<=1000000
def Fact.zc (eI eO:Nat) (S:Nat->Prop) (A:Option Addr) (c:Nat) (B:Option Addr) (d:Nat) (t:DTx):Fact:=⟨S,fun W=>Zp eI eO S A c B d t W∧∀g,S g->isC W g,fun _ _ h k=>⟨h.1.keep (fun g hg=>k g hg),fun g hg=>(h.2 g hg).keep (k g hg)⟩⟩
section
variable {T:Nat->Prop} {w0 W:World} {L:List Fact}
theorem St.elscel {α:Type} {R:Rep α} {s:Nat} {S:Nat->Prop} {xs:List Value} {l:List α} [h:RepK R] (hR:∀(S:Nat->Prop) (cs:List Value) (a:α),R W S cs a->R W (celS W S) cs a) (H:St T w0 W (Fact.els R s S xs l::L)):St T w0 W (Fact.els R s (celS W S) xs l::L):=by
 have h2:=H.holds _ (.head _)
 exact H.turn0 (f':=Fact.els R s (celS W S) xs l) Fr.refl ⟨h2.1,fun i x hx=>hR _ _ _ (h2.2 i x hx)⟩ (fun g hg=>.inl hg.1)
theorem St.newzc {A B:Option Addr} {c d:Nat} {t:DTx} {xs ys:List Value} {S0 S1:Nat->Prop} {eI eO:Nat} (H:St T w0 W (Fact.row eI 34 (.slice A t.ins.length c) t.ins.length xs::Fact.els RInO 34 S0 xs t.ins::Fact.row eO 2 (.slice B t.outs.length d) t.outs.length ys::Fact.els ROutO 2 S1 ys t.outs::L)) (hk:I64 t.lock) (hf:Tx.FitZ t) :
  ∃S,St T w0 W (Fact.zc eI eO S A c B d t::L):=by
 have hI:W.ownsRow 0 eI 34 (.slice A t.ins.length c) t.ins.length xs:=H.holds _ (.head _)
 have hO:W.ownsRow 0 eO 2 (.slice B t.outs.length d) t.outs.length ys:=H.holds _ (.tail _ (.tail _ (.head _)))
 have H1:=(H.perm (.swap _ _ _)).elscel (fun _ _ _ h=>in_cel h)
 have H2:=(H1.perm (List.perm_append_comm (l₁:=[_,_,_]) (l₂:=[Fact.els ROutO 2 S1 ys t.outs]) |>.append_right L)).elscel (fun _ _ _ h=>out_cel h)
 have H3:St T w0 W (Fact.row eI 34 (.slice A t.ins.length c) t.ins.length xs::Fact.els RInO 34 (celS W S0) xs t.ins::Fact.row eO 2 (.slice B t.outs.length d) t.outs.length ys::Fact.els ROutO 2 (celS W S1) ys t.outs::L) :=
  (H2.perm (List.perm_append_comm (l₁:=[Fact.els ROutO 2 (celS W S1) ys t.outs]) (l₂:=[_,_,_]) |>.append_right L)).perm (.swap _ _ _)
 obtain ⟨S,hS,H4⟩:=H3.newz' hk hf.n hf.fits.1 hf.fits.2
 exact ⟨S,H4.turn0 (f':=Fact.zc eI eO S A c B d t) Fr.refl ⟨H4.holds _ (.head _),fun g hg=>by
  rcases hS g hg with h|h|h|h
  ·exact own_isC hI h
  ·exact own_isC hO h
  ·exact h.2
  ·exact h.2⟩ (fun g hg=>.inl hg)⟩
theorem St.zcrep {eI eO:Nat} {S:Nat->Prop} {A B:Option Addr} {c d:Nat} {t:DTx} (H:St T w0 W L) [h:In (Fact.zc eI eO S A c B d t) L]:RTx W (0<=·) (txC A t.ins.length c B t.outs.length d t.lock) t:=mono_Tx _ _ _ _ _ (H.get (f:=Fact.zc eI eO S A c B d t)).1.r (fun g _ _=>Nat.zero_le _)
theorem St.zc0 {T:Nat->Prop} {w0 W:World} {L:List Fact} (H:St T w0 W L) (eI eO:Nat):St T w0 W (Fact.zc eI eO (fun _=>False) none 0 none 0 Tx.zero::L):=by
 have H4:=H.addz (eI:=eI) (eO:=eO)
 exact H4.turn0 (f':=Fact.zc eI eO _ none 0 none 0 Tx.zero) Fr.refl ⟨H4.holds _ (.head _),fun g hg=>hg.elim⟩ (fun g hg=>.inl hg)
end
end Go.Proofs.YtjjodibkmeefpaaGreatDoor

namespace Go.Proofs.YtjjodibkmeefpaaGreatDoor
open Go Go.RowKit

def hitC (h:WHit) (A:Option Addr) (m c:Nat):List Value:=pointC h.point++(outC h.out.value A m c++[.int .i64 h.depth])
def OkHit (h:WHit):Prop:=h.point.tx.length=32∧I64 h.point.n∧I64 h.out.value
section
variable {h:WHit} {A:Option Addr} {m c:Nat}
theorem len_hit (k:OkHit h):(hitC h A m c).length=36:=by unfold hitC;rw [List.length_append,len_point k.1];rfl
theorem sub_hit_p (k:OkHit h):sub (hitC h A m c) 0 33=pointC h.point:=sub_head (len_point k.1)
theorem sub_hit_v (k:OkHit h):sub (hitC h A m c) 33 1=[.int .i64 h.out.value]:=(sub_skip (k:=0) (m:=1) (len_point k.1)).trans rfl
theorem sub_hit_s (k:OkHit h):sub (hitC h A m c) 34 1=[.slice A m c]:=(sub_skip (k:=1) (m:=1) (len_point k.1)).trans rfl
theorem sub_hit_d (k:OkHit h):sub (hitC h A m c) 35 1=[.int .i64 h.depth]:=(sub_skip (k:=2) (m:=1) (len_point k.1)).trans rfl
theorem sub_hit_tx (k:OkHit h):sub (hitC h A m c) 0 32=h.point.tx.map u8v:=by
 have:=sub_sub (c:=hitC h A m c) (a:=0) (m:=33) (b:=0) (k:=32) (by decide)
 rw [sub_hit_p k,sub_pt_tx k.1] at this
 exact this.symm
theorem hit_one:(hitC h A m c).all (·.oneCell')=true:=by unfold hitC pointC;simp [List.all_append,all_u8L,Value.oneCell',outC]
end
def named (xs:List Value) (g:Nat):Prop:=∃v∈xs,v.ownBlock=some g
theorem named_app {xs ys:List Value} {g:Nat}:named (xs++ys) g↔named xs g∨named ys g:=by
 constructor
 ·rintro ⟨v,hv,h⟩
  rcases List.mem_append.1 hv with hv|hv
  ·exact .inl ⟨v,hv,h⟩
  ·exact .inr ⟨v,hv,h⟩
 ·rintro (⟨v,hv,h⟩|⟨v,hv,h⟩)
  ·exact ⟨v,List.mem_append_left _ hv,h⟩
  ·exact ⟨v,List.mem_append_right _ hv,h⟩
theorem not_named {g:Nat}:¬named [] g:=fun h=>by
 obtain ⟨v,hv,_⟩:=h
 cases hv
theorem named_u8 {l:List UInt8} {g:Nat}:¬named (l.map u8v) g:=fun ⟨v,hv,h⟩=>by
 obtain ⟨b,_,rfl⟩:=List.mem_map.1 hv
 cases h
theorem named_hit {h:WHit} {A:Option Addr} {m c g:Nat}:named (hitC h A m c) g↔(Value.slice A m c).ownBlock=some g:=by
 constructor
 ·rintro ⟨v,hv,e⟩
  unfold hitC pointC outC at hv
  simp only [List.mem_append,List.mem_singleton,List.mem_cons,List.not_mem_nil,or_false] at hv
  rcases hv with (hv|rfl)|(rfl|rfl)|rfl
  ·exact absurd ⟨v,hv,e⟩ named_u8
  ·cases e
  ·cases e
  ·exact e
  ·cases e
 ·intro e
  exact ⟨_,by unfold hitC outC;simp,e⟩
theorem named_sub {xs:List Value} {a n g:Nat} (h:named (sub xs a n) g):named xs g:=by
 obtain ⟨v,hv,e⟩:=h
 exact ⟨v,List.mem_of_mem_drop (List.mem_of_mem_take hv),e⟩
def HitAt (W:World) (ys:List Value) (h:WHit):Prop:=∃A c,ys=hitC h A h.out.script.length c∧OkHit h∧W.ownsRow 0 5 1 (.slice A h.out.script.length c) h.out.script.length (h.out.script.map u8v)
theorem HitAt.keep {W W':World} {ys:List Value} {h:WHit} (k:HitAt W ys h) (hk:∀g,named ys g->W'.heap[g]?=W.heap[g]?):HitAt W' ys h:=by
 obtain ⟨A,c,rfl,h1,h2⟩:=k
 exact ⟨A,c,rfl,h1,ownsRow_keep h2 (fun g hg=>hk g (named_hit.2 hg))⟩
def Hits (xs:List Value) (l:List WHit) (W:World):Prop:=xs.length=l.length*36∧(∀(i:Nat) (h:WHit),l[i]?=some h->HitAt W (sub xs (i*36) 36) h)∧∀g,named xs g->isC W g
def Fact.hits (xs:List Value) (l:List WHit):Fact:=⟨named xs,Hits xs l,fun _ _ h k=>⟨h.1,fun i x hx=>(h.2.1 i x hx).keep (fun g hg=>k g (named_sub hg)),fun g hg=>(h.2.2 g hg).keep (k g hg)⟩⟩
section
variable {T:Nat->Prop} {w0 W:World} {L:List Fact}
theorem St.hits0 (H:St T w0 W L):St T w0 W (Fact.hits [] []::L) :=
 ⟨H.fr,fun f hf=>by
  rcases List.mem_cons.1 hf with rfl|hf
  ·exact ⟨rfl,fun i x hx=>absurd hx (by simp),fun g hg=>absurd hg not_named⟩
  ·exact H.holds f hf,fun f hf g hg=>by
  rcases List.mem_cons.1 hf with rfl|hf
  ·exact absurd hg not_named
  ·exact H.own f hf g hg,List.pairwise_cons.2 ⟨fun f _ g hg=>absurd hg not_named,H.apart⟩⟩
theorem St.hitsnoc {A:Option Addr} {m c:Nat} {s:List UInt8} {xs:List Value} {l:List WHit} {h:WHit} (H:St T w0 W (Fact.row 5 1 (.slice A m c) m (s.map u8v)::Fact.hits xs l::L)) (hs:h.out.script=s) (hm:s.length=m) (ho:OkHit h):St T w0 W (Fact.hits (xs++hitC h A m c) (l++[h])::L):=by
 subst hs hm
 have h1:W.ownsRow 0 5 1 (.slice A h.out.script.length c) h.out.script.length (h.out.script.map u8v):=H.holds _ (.head _)
 have h2:Hits xs l W:=H.holds _ (.tail _ (.head _))
 refine H.merge ⟨by rw [List.length_append,List.length_append,h2.1,len_hit ho,List.length_singleton,Nat.add_mul],fun i x hx=>?_,fun g hg=>?_⟩ (fun g hg=>?_)
 ·rcases Nat.lt_or_ge i l.length with hi|hi
  ·rw [List.getElem?_append_left hi] at hx
   rw [sub_app h2.1 hi]
   exact h2.2.1 i x hx
  ·rw [List.getElem?_append_right hi] at hx
   have hj:i - l.length=0:=by
    have:=(List.getElem?_eq_some_iff.1 hx).1
    simp at this;omega
   rw [hj] at hx
   obtain rfl:h=x:=by simpa using hx
   obtain rfl:i=l.length:=by omega
   rw [sub_end h2.1 (len_hit ho)]
   exact ⟨A,c,rfl,ho,h1⟩
 ·rcases named_app.1 hg with hg|hg
  ·exact h2.2.2 g hg
  ·exact own_isC h1 (named_hit.1 hg)
 ·rcases named_app.1 hg with hg|hg
  ·exact .inr hg
  ·exact .inl (named_hit.1 hg)
end
def SnHits (g2 t e s:Nat):World->(Nat->Prop)->Prop:=fun W u=>∃A m c xs,W.heap[g2]?=some (.cells [.slice A m c].toArray t (0,0))∧W.ownsRow 0 e s (.slice A m c) m xs∧(∀g,u g↔((Value.slice A m c).ownBlock=some g∨named xs g))∧∀g,u g->isC W g
theorem own_eq {W:World} {e s m c:Nat} {A:Option Addr} {xs ys:List Value} (h:W.ownsRow 0 e s (.slice A m c) m xs) (k:W.ownsRow 0 e s (.slice A m c) m ys):xs=ys:=by
 rcases Nat.eq_zero_or_pos m with h0|h0
 ·have h1:=h.1;have h2:=k.1
  rw [h0,Nat.zero_mul] at h1 h2
  rw [List.eq_nil_of_length_eq_zero h1,List.eq_nil_of_length_eq_zero h2]
 ·exact rd_eq (Rd.of_own h) (Rd.of_own k) h0
theorem snapHits {B g2 t e s:Nat} (hB:g2<B):Snap B (SnHits g2 t e s):=by
 refine ⟨fun W u u' h h' g hg=>?_,fun W W' u h k=>?_,fun W u h g hg=>?_⟩
 ·obtain ⟨A,m,c,xs,h1,h2,h3,_⟩:=h
  obtain ⟨A',m',c',xs',h1',h2',h3',_⟩:=h'
  rw [h1] at h1'
  simp only [Option.some.injEq,Obj.cells.injEq,List.toArray_inj,List.cons.injEq,Value.slice.injEq,and_true] at h1'
  obtain ⟨rfl,rfl,rfl⟩:=h1'
  obtain rfl:=own_eq h2 h2'
  exact (h3' g).2 ((h3 g).1 hg)
 ·obtain ⟨A,m,c,xs,h1,h2,h3,h4⟩:=h
  exact ⟨A,m,c,xs,(k g2 (.inl hB)).trans h1,ownsRow_keep h2 (fun g hg=>k g (.inr ((h3 g).2 (.inl hg)))),h3,fun g hg=>(h4 g hg).keep (k g (.inr hg))⟩
 ·obtain ⟨A,m,c,xs,h1,h2,h3,h4⟩:=h
  exact h4 g hg
theorem s1_hits {w0 W:World} {B g2 t e s m c:Nat} {A:Option Addr} {xs:List Value} {l:List WHit} {L:List Fact} (hB:g2<B) (H:St nT w0 W (Fact.row e s (.slice A m c) m xs::Fact.hits xs l::Fact.blk g2 [.slice A m c] t::L)) (hL:∀f∈L,∀g,f.fp g->g<B):∃u,SnHits g2 t e s W u∧∀f∈(Fact.row e s (.slice A m c) m xs::Fact.hits xs l::Fact.blk g2 [.slice A m c] t::L),∀g,f.fp g->g<B∨u g:=by
 have h1:W.ownsRow 0 e s (.slice A m c) m xs:=H.holds _ (.head _)
 have h2:Hits xs l W:=H.holds _ (.tail _ (.head _))
 refine ⟨fun g=>(Value.slice A m c).ownBlock=some g∨named xs g,⟨A,m,c,xs,H.holds _ (.tail _ (.tail _ (.head _))),h1,fun _=>Iff.rfl,fun g hg=>hg.elim (own_isC h1) (h2.2.2 g)⟩,fun f hf g hg=>?_⟩
 rcases List.mem_cons.1 hf with rfl|hf
 ·exact .inr (.inl hg)
 rcases List.mem_cons.1 hf with rfl|hf
 ·exact .inr (.inr hg)
 rcases List.mem_cons.1 hf with rfl|hf
 ·have:g=g2:=hg
  exact .inl (by omega)
 ·exact .inl (hL f hf g hg)
namespace Wt
section
variable {ID:DTx->List UInt8}
theorem hitsF_snoc {s:List UInt8} {l:List (Int × DTx)} {x:Int × DTx}:hitsF ID s (l++[x])=hitsF ID s l++hitsT ID x.2 x.1 s:=by unfold hitsF;rw [List.flatMap_append];simp
theorem hitsO_take {t:DTx} {d:Int} {s:List UInt8} {l:List DOut} {i:Nat} {o:DOut} (h:l[i]?=some o):hitsO ID t d s (l.take (i+1)) 0=hitsO ID t d s (l.take i) 0++(if o.script=s then [⟨⟨ID t,(i:Int)⟩,⟨o.value,s⟩,d⟩] else []):=by
 have hi:=(List.getElem?_eq_some_iff.1 h).1
 rw [take_get h,hitsO_app,List.length_take,show 0+min i l.length=i by omega]
 rfl
end
end Wt
end Go.Proofs.YtjjodibkmeefpaaGreatDoor
