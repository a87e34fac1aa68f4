import Derived.Test.YtjjodibkmeefpaaGreatDoorMV
import Derived.Test.YtjjodibkmeefpaaGreatDoorMT
import Derived.Test.YtjjodibkmeefpaaGreatDoorProg
import Derived.KernelRfl
import Derived.Test.YtjjodibkmeefpaaGreatDoorML
import Derived.Test.YtjjodibkmeefpaaGreatDoorMA
set_option linter.unusedVariables false
set_option linter.unusedSimpArgs false

namespace Go.Proofs.YtjjodibkmeefpaaGreatDoor
open Go Go.RowKit
attribute [local irreducible] wpList
theorem ce3:Tryz.prog.cellsOf 3=1:=by kernel_rfl
theorem ce5:Tryz.prog.cellsOf 5=1:=by kernel_rfl
theorem ce25:Tryz.prog.cellsOf 25=32:=by kernel_rfl
theorem ce27:Tryz.prog.cellsOf 27=33:=by kernel_rfl
structure DPoint where
 tx:List UInt8
 n:Int
def zeroPoint:DPoint:=⟨(List.replicate 32 0),0⟩
def RPoint:Rep DPoint:=fun W S cs x=>∃c0 c1,cs=c0++(c1)∧(RA 32) W S c0 x.tx∧RI W S c1 x.n
theorem keeps_Point:Keeps RPoint:=fun W W' S cs a h k=>by
 obtain ⟨c0,c1,h0,e0,e1⟩:=h
 exact ⟨c0,c1,h0,keeps_A _ _ _ _ _ e0 k,keeps_I _ _ _ _ _ e1 k⟩
theorem sub_Point_0 {c0 c1:List Value} (h0:c0.length=32):sub (c0++(c1)) 0 32=c0:=by
 exact sub_head h0
theorem sub_Point_1 {c0 c1:List Value} (h0:c0.length=32) (h1:c1.length=1):sub (c0++(c1)) 32 1=c1:=by
 refine (sub_skip (k:=0) (m:=1) h0).trans ?_
 exact sa h1
structure DIn where
 point:DPoint
 wit:List (List UInt8)
def zeroIn:DIn:=⟨zeroPoint,[]⟩
def RIn:Rep DIn:=fun W S cs x=>∃c0 c1,cs=c0++(c1)∧RPoint W S c0 x.point∧(RL 1 RB) W S c1 x.wit
theorem keeps_In:Keeps RIn:=fun W W' S cs a h k=>by
 obtain ⟨c0,c1,h0,e0,e1⟩:=h
 exact ⟨c0,c1,h0,keeps_Point _ _ _ _ _ e0 k,(keeps_L keeps_B) _ _ _ _ _ e1 k⟩
structure DOut where
 value:Int
 script:List UInt8
def zeroOut:DOut:=⟨0,[]⟩
def ROut:Rep DOut:=fun W S cs x=>∃c0 c1,cs=c0++(c1)∧RI W S c0 x.value∧RB W S c1 x.script
theorem keeps_Out:Keeps ROut:=fun W W' S cs a h k=>by
 obtain ⟨c0,c1,h0,e0,e1⟩:=h
 exact ⟨c0,c1,h0,keeps_I _ _ _ _ _ e0 k,keeps_B _ _ _ _ _ e1 k⟩
structure DTx where
 ins:List (DIn)
 outs:List (DOut)
 lock:Int
def zeroTx:DTx:=⟨[],[],0⟩
def RTx:Rep DTx:=fun W S cs x=>∃c0 c1 c2,cs=c0++(c1++(c2))∧(RL 34 RIn) W S c0 x.ins∧(RL 2 ROut) W S c1 x.outs∧RI W S c2 x.lock
theorem keeps_Tx:Keeps RTx:=fun W W' S cs a h k=>by
 obtain ⟨c0,c1,c2,h0,e0,e1,e2⟩:=h
 exact ⟨c0,c1,c2,h0,(keeps_L keeps_In) _ _ _ _ _ e0 k,(keeps_L keeps_Out) _ _ _ _ _ e1 k,keeps_I _ _ _ _ _ e2 k⟩
structure DHeader where
 prev:List UInt8
 root:List UInt8
 nonce:Int
def zeroHeader:DHeader:=⟨(List.replicate 32 0),(List.replicate 32 0),0⟩
def RHeader:Rep DHeader:=fun W S cs x=>∃c0 c1 c2,cs=c0++(c1++(c2))∧(RA 32) W S c0 x.prev∧(RA 32) W S c1 x.root∧RI W S c2 x.nonce
theorem keeps_Header:Keeps RHeader:=fun W W' S cs a h k=>by
 obtain ⟨c0,c1,c2,h0,e0,e1,e2⟩:=h
 exact ⟨c0,c1,c2,h0,keeps_A _ _ _ _ _ e0 k,keeps_A _ _ _ _ _ e1 k,keeps_I _ _ _ _ _ e2 k⟩
theorem sub_Header_0 {c0 c1 c2:List Value} (h0:c0.length=32):sub (c0++(c1++(c2))) 0 32=c0:=by
 exact sub_head h0
theorem sub_Header_1 {c0 c1 c2:List Value} (h0:c0.length=32) (h1:c1.length=32):sub (c0++(c1++(c2))) 32 32=c1:=by
 refine (sub_skip (k:=0) (m:=32) h0).trans ?_
 exact sub_head h1
theorem sub_Header_2 {c0 c1 c2:List Value} (h0:c0.length=32) (h1:c1.length=32) (h2:c2.length=1):sub (c0++(c1++(c2))) 64 1=c2:=by
 refine (sub_skip (k:=32) (m:=1) h0).trans ?_
 refine (sub_skip (k:=0) (m:=1) h1).trans ?_
 exact sa h2
structure DBlock where
 header:DHeader
 txs:List (DTx)
def zeroBlock:DBlock:=⟨zeroHeader,[]⟩
def RBlock:Rep DBlock:=fun W S cs x=>∃c0 c1,cs=c0++(c1)∧RHeader W S c0 x.header∧(RL 3 RTx) W S c1 x.txs
theorem keeps_Block:Keeps RBlock:=fun W W' S cs a h k=>by
 obtain ⟨c0,c1,h0,e0,e1⟩:=h
 exact ⟨c0,c1,h0,keeps_Header _ _ _ _ _ e0 k,(keeps_L keeps_Tx) _ _ _ _ _ e1 k⟩
theorem sub_Block_0 {c0 c1:List Value} (h0:c0.length=65):sub (c0++(c1)) 0 65=c0:=by
 exact sub_head h0
theorem sub_Block_1 {c0 c1:List Value} (h0:c0.length=65) (h1:c1.length=1):sub (c0++(c1)) 65 1=c1:=by
 refine (sub_skip (k:=0) (m:=1) h0).trans ?_
 exact sa h1
structure DQuestion where
 script:List UInt8
 p:DPoint
 h:List UInt8
 id:List UInt8
def zeroQuestion:DQuestion:=⟨[],zeroPoint,(List.replicate 32 0),(List.replicate 32 0)⟩
def RQuestion:Rep DQuestion:=fun W S cs x=>∃c0 c1 c2 c3,cs=c0++(c1++(c2++(c3)))∧RB W S c0 x.script∧RPoint W S c1 x.p∧(RA 32) W S c2 x.h∧(RA 32) W S c3 x.id
theorem keeps_Question:Keeps RQuestion:=fun W W' S cs a h k=>by
 obtain ⟨c0,c1,c2,c3,h0,e0,e1,e2,e3⟩:=h
 exact ⟨c0,c1,c2,c3,h0,keeps_B _ _ _ _ _ e0 k,keeps_Point _ _ _ _ _ e1 k,keeps_A _ _ _ _ _ e2 k,keeps_A _ _ _ _ _ e3 k⟩
theorem sub_Question_1 {c0 c1 c2 c3:List Value} (h0:c0.length=1) (h1:c1.length=33):sub (c0++(c1++(c2++(c3)))) 1 33=c1:=by
 refine (sub_skip (k:=0) (m:=33) h0).trans ?_
 exact sub_head h1
theorem sub_Question_2 {c0 c1 c2 c3:List Value} (h0:c0.length=1) (h1:c1.length=33) (h2:c2.length=32):sub (c0++(c1++(c2++(c3)))) 34 32=c2:=by
 refine (sub_skip (k:=33) (m:=32) h0).trans ?_
 refine (sub_skip (k:=0) (m:=32) h1).trans ?_
 exact sub_head h2
theorem sub_Question_3 {c0 c1 c2 c3:List Value} (h0:c0.length=1) (h1:c1.length=33) (h2:c2.length=32) (h3:c3.length=32):sub (c0++(c1++(c2++(c3)))) 66 32=c3:=by
 refine (sub_skip (k:=65) (m:=32) h0).trans ?_
 refine (sub_skip (k:=32) (m:=32) h1).trans ?_
 refine (sub_skip (k:=0) (m:=32) h2).trans ?_
 exact sa h3
structure DHit where
 point:DPoint
 out:DOut
 depth:Int
def zeroHit:DHit:=⟨zeroPoint,zeroOut,0⟩
def RHit:Rep DHit:=fun W S cs x=>∃c0 c1 c2,cs=c0++(c1++(c2))∧RPoint W S c0 x.point∧ROut W S c1 x.out∧RI W S c2 x.depth
theorem keeps_Hit:Keeps RHit:=fun W W' S cs a h k=>by
 obtain ⟨c0,c1,c2,h0,e0,e1,e2⟩:=h
 exact ⟨c0,c1,c2,h0,keeps_Point _ _ _ _ _ e0 k,keeps_Out _ _ _ _ _ e1 k,keeps_I _ _ _ _ _ e2 k⟩
structure DSpend where
 tx:DTx
 inA:Int
 depth:Int
def zeroSpend:DSpend:=⟨zeroTx,0,0⟩
def RSpend:Rep DSpend:=fun W S cs x=>∃c0 c1 c2,cs=c0++(c1++(c2))∧RTx W S c0 x.tx∧RI W S c1 x.inA∧RI W S c2 x.depth
theorem keeps_Spend:Keeps RSpend:=fun W W' S cs a h k=>by
 obtain ⟨c0,c1,c2,h0,e0,e1,e2⟩:=h
 exact ⟨c0,c1,c2,h0,keeps_Tx _ _ _ _ _ e0 k,keeps_I _ _ _ _ _ e1 k,keeps_I _ _ _ _ _ e2 k⟩
theorem mono_Point:Monos RPoint:=fun W S S' cs a h k=>by
 obtain ⟨c0,c1,h0,e0,e1⟩:=h
 exact ⟨c0,c1,h0,mono_A _ _ _ _ _ e0 k,mono_I _ _ _ _ _ e1 k⟩
instance repk_Point:RepK RPoint:=⟨keeps_Point,mono_Point⟩
theorem mono_In:Monos RIn:=fun W S S' cs a h k=>by
 obtain ⟨c0,c1,h0,e0,e1⟩:=h
 exact ⟨c0,c1,h0,mono_Point _ _ _ _ _ e0 k,(mono_L mono_B) _ _ _ _ _ e1 k⟩
instance repk_In:RepK RIn:=⟨keeps_In,mono_In⟩
theorem mono_Out:Monos ROut:=fun W S S' cs a h k=>by
 obtain ⟨c0,c1,h0,e0,e1⟩:=h
 exact ⟨c0,c1,h0,mono_I _ _ _ _ _ e0 k,mono_B _ _ _ _ _ e1 k⟩
instance repk_Out:RepK ROut:=⟨keeps_Out,mono_Out⟩
theorem mono_Tx:Monos RTx:=fun W S S' cs a h k=>by
 obtain ⟨c0,c1,c2,h0,e0,e1,e2⟩:=h
 exact ⟨c0,c1,c2,h0,(mono_L mono_In) _ _ _ _ _ e0 k,(mono_L mono_Out) _ _ _ _ _ e1 k,mono_I _ _ _ _ _ e2 k⟩
instance repk_Tx:RepK RTx:=⟨keeps_Tx,mono_Tx⟩
theorem mono_Header:Monos RHeader:=fun W S S' cs a h k=>by
 obtain ⟨c0,c1,c2,h0,e0,e1,e2⟩:=h
 exact ⟨c0,c1,c2,h0,mono_A _ _ _ _ _ e0 k,mono_A _ _ _ _ _ e1 k,mono_I _ _ _ _ _ e2 k⟩
instance repk_Header:RepK RHeader:=⟨keeps_Header,mono_Header⟩
theorem mono_Block:Monos RBlock:=fun W S S' cs a h k=>by
 obtain ⟨c0,c1,h0,e0,e1⟩:=h
 exact ⟨c0,c1,h0,mono_Header _ _ _ _ _ e0 k,(mono_L mono_Tx) _ _ _ _ _ e1 k⟩
instance repk_Block:RepK RBlock:=⟨keeps_Block,mono_Block⟩
theorem mono_Question:Monos RQuestion:=fun W S S' cs a h k=>by
 obtain ⟨c0,c1,c2,c3,h0,e0,e1,e2,e3⟩:=h
 exact ⟨c0,c1,c2,c3,h0,mono_B _ _ _ _ _ e0 k,mono_Point _ _ _ _ _ e1 k,mono_A _ _ _ _ _ e2 k,mono_A _ _ _ _ _ e3 k⟩
instance repk_Question:RepK RQuestion:=⟨keeps_Question,mono_Question⟩
theorem mono_Hit:Monos RHit:=fun W S S' cs a h k=>by
 obtain ⟨c0,c1,c2,h0,e0,e1,e2⟩:=h
 exact ⟨c0,c1,c2,h0,mono_Point _ _ _ _ _ e0 k,mono_Out _ _ _ _ _ e1 k,mono_I _ _ _ _ _ e2 k⟩
instance repk_Hit:RepK RHit:=⟨keeps_Hit,mono_Hit⟩
theorem mono_Spend:Monos RSpend:=fun W S S' cs a h k=>by
 obtain ⟨c0,c1,c2,h0,e0,e1,e2⟩:=h
 exact ⟨c0,c1,c2,h0,mono_Tx _ _ _ _ _ e0 k,mono_I _ _ _ _ _ e1 k,mono_I _ _ _ _ _ e2 k⟩
instance repk_Spend:RepK RSpend:=⟨keeps_Spend,mono_Spend⟩
def beqPoint (x y:DPoint):Bool:=((x.tx == y.tx) && ((x.n == y.n) && true))
theorem beqPoint_iff {x y:DPoint}:beqPoint x y=true↔x=y:=by
 cases x;cases y
 simp [beqPoint]
theorem eq_Point {d:Nat} {W W':World} {S S':Nat->Prop} {cx cy:List Value} {x y:DPoint} (hx:RPoint W S cx x) (hy:RPoint W' S' cy y):EqT Tryz.prog (d+3) 27 (.agg cx.toArray) (.agg cy.toArray) (beqPoint x y):=by
 obtain ⟨c0,c1,rfl,e0,e1⟩:=hx
 obtain ⟨b0,b1,rfl,q0,q1⟩:=hy
 have l0:=lens_A _ _ _ _ e0
 have k0:=lens_A _ _ _ _ q0
 have l1:=lens_I _ _ _ _ e1
 have k1:=lens_I _ _ _ _ q1
 refine eq_st (by kernel_rfl) (by unfold Program.fieldsOf;rw [Tryz.underlying27]) (by kernel_rfl) ?_
 have z0:=e0.2
 have y0:=q0.2
 obtain ⟨rfl,_⟩:=e0
 obtain ⟨rfl,_⟩:=q0
 refine eqf_cons rfl (part_Me ta25 ts25 (sub_Point_0 l0)) (part_Me ta25 ts25 (sub_Point_0 k0)) (eq_u8s tu25 tu5 ts5 z0 y0) ?_
 obtain ⟨rfl,_⟩:=e1
 obtain ⟨rfl,_⟩:=q1
 refine eqf_cons rfl (part_1 ta3 (sub_Point_1 l0 l1)) (part_1 ta3 (sub_Point_1 k0 k1)) (eq_i tu3) ?_
 exact eqf_nil
end Go.Proofs.YtjjodibkmeefpaaGreatDoor

namespace Go.Proofs.YtjjodibkmeefpaaGreatDoor
open Go Go.RowKit

def I64 (x:Int):Prop := -9223372036854775808<=x∧x<=9223372036854775807
namespace Tx
def far (x:DIn):Bool:=decide (x.point.n<0) || decide (8<x.point.n)
def twice:List DPoint->Bool
 | []=>false
 | p::l=>l.any (beqPoint p) || twice l
def sum:List DOut->Int
 | []=>0
 | o::l=>o.value+sum l
def valOk (l:List DOut):Bool:=l.all (fun o=>decide (1<=o.value) && decide (o.value<=1125899906842624)) && decide (sum l<=1125899906842624)
def longX (x:DIn):Bool:=decide (16<x.wit.length) || x.wit.any (fun b=>decide (64<b.length))
def long (t:DTx):Bool:=t.outs.any (fun o=>decide (256<o.script.length)) || t.ins.any longX
def chk (t:DTx):Int :=
 if t.ins.length<1∨8<t.ins.length∨t.outs.length<1∨8<t.outs.length then 3
 else if t.ins.any far=true∨t.lock<0∨1073741824<t.lock then 1
 else if twice (t.ins.map (·.point))=true then 13
 else if valOk t.outs=false then 15
 else if long t=true then 5 else 0
def encP (p:DPoint):List UInt8:=p.tx++Pk.int (Pk.toU p.n)
def encI (x:DIn):List UInt8:=encP x.point
def encO (o:DOut):List UInt8:=Pk.int (Pk.toU o.value)++Pk.blob o.script
def encW (w:List (List UInt8)):List UInt8:=encL Pk.blob w
def encWI (x:DIn):List UInt8:=encW x.wit
def bareB (t:DTx):List UInt8:=encL encI t.ins++(encL encO t.outs++Pk.int (Pk.toU t.lock))
def putB (t:DTx):List UInt8:=bareB t++(t.ins.map encWI).flatten
def bare (t:DTx):List UInt8:=if chk t=0 then bareB t else []
def put (t:DTx):List UInt8:=if chk t=0 then putB t else []
def zero:DTx:=⟨[],[],0⟩
abbrev rI:Rdr Int:=rMap Pk.rInt (fun n=>(n:Int))
def rIn:Rdr DIn:=rMap (rPair (Pk.rBytes 32) rI) (fun x=>⟨⟨x.1,x.2⟩,[]⟩)
def rOut:Rdr DOut:=rMap (rPair rI (Pk.rB 256)) (fun x=>⟨x.1,x.2⟩)
def rWit:Rdr (List (List UInt8)):=rList 16 (Pk.rB 64)
def setW (x:DIn) (w:List (List UInt8)):DIn:=⟨x.point,w⟩
abbrev Raw:=((List DIn × (List DOut × Int)) × List (List (List UInt8)))
def mk (x:Raw):DTx:=⟨List.zipWith setW x.1.1 x.2,x.1.2.1,x.1.2.2⟩
def rBare:Rdr (List DIn × (List DOut × Int)):=rPair (rList 8 rIn) (rPair (rList 8 rOut) rI)
def rRaw:Rdr Raw:=rDep rBare (fun a=>rMany rWit a.1.length)
def read:Rdr DTx:=rMap rRaw mk
def fin (r:DTx × RS):DTx × Int:=if Pk.rEnd r.2=0 then (if chk r.1=0 then (r.1,0) else (zero,chk r.1)) else (zero,Pk.rEnd r.2)
def get (b:List UInt8):DTx × Int:=fin (read (b,0))
def Ok (t:DTx):Prop:=(∀x∈t.ins,x.point.tx.length=32∧I64 x.point.n)∧(∀o∈t.outs,I64 o.value)∧I64 t.lock

theorem chk_of {t:DTx} (h:chk t=0):(1<=t.ins.length∧t.ins.length<=8∧1<=t.outs.length∧t.outs.length<=8)∧(∀x∈t.ins,0<=x.point.n∧x.point.n<=8)∧(0<=t.lock∧t.lock<=1073741824)∧twice (t.ins.map (·.point))=false∧(∀o∈t.outs,1<=o.value∧o.value<=1125899906842624)∧sum t.outs<=1125899906842624∧(∀o∈t.outs,o.script.length<=256)∧(∀x∈t.ins,x.wit.length<=16∧∀b∈x.wit,b.length<=64):=by
 unfold chk at h
 split at h
 ·cases h
 ·split at h
  ·cases h
  ·rename_i h1 h2
   split at h
   ·cases h
   ·rename_i h3
    split at h
    ·cases h
    ·rename_i h4
     split at h
     ·cases h
     ·rename_i h5
      have h5':long t=false:=by simpa using h5
      have h4':valOk t.outs=true:=by simpa using h4
      have h2':t.ins.any far=false∧0<=t.lock∧t.lock<=1073741824:=by
       refine ⟨?_,by omega,by omega⟩
       cases hf:t.ins.any far with
       | false=>rfl
       | true=>exact absurd (.inl hf) h2
      unfold long at h5'
      rw [Bool.or_eq_false_iff] at h5'
      unfold valOk at h4'
      rw [Bool.and_eq_true] at h4'
      refine ⟨by omega,fun x hx=>?_,h2'.2,by simpa using h3,fun o ho=>?_,by simpa using h4'.2,fun o ho=>?_,fun x hx=>?_⟩
      ·have:=List.any_eq_false.1 h2'.1 x hx
       unfold far at this
       simp at this
       omega
      ·have:=List.all_eq_true.1 h4'.1 o ho
       simpa using this
      ·have:=List.any_eq_false.1 h5'.1 o ho
       simpa using this
      ·have:=List.any_eq_false.1 h5'.2 x hx
       unfold longX at this
       simp at this
       exact this
end Tx
end Go.Proofs.YtjjodibkmeefpaaGreatDoor

namespace Go.Proofs.YtjjodibkmeefpaaGreatDoor
open Go Go.RowKit

namespace Tx
theorem sum_app:∀(a b:List DOut),sum (a++b)=sum a+sum b
 | [],b=>by simp [sum]
 | o::a,b=>by rw [List.cons_append,sum,sum,sum_app a b];omega
theorem sum_pos:∀{l:List DOut},(∀o∈l,1<=o.value)->0<=sum l
 | [],_=>by simp [sum]
 | o::l,h=>by
  have h1:=h o (.head _)
  have h2:=sum_pos (l:=l) (fun x hx=>h x (.tail _ hx))
  rw [sum];omega
theorem sum_step {l:List DOut} {i:Nat} {o:DOut} (hx:l[i]?=some o):sum (l.take (i+1))=sum (l.take i)+o.value:=by
 rw [take_get hx,sum_app];simp [sum]
theorem sum_le:∀{l:List DOut} {m:Int},(∀o∈l,o.value<=m)->sum l<=l.length*m
 | [],m,_=>by simp [sum]
 | o::l,m,h=>by
  have h1:=h o (.head _)
  have h2:=sum_le (l:=l) (m:=m) (fun x hx=>h x (.tail _ hx))
  rw [sum,List.length_cons]
  have:((l.length+1:Nat):Int)*m=(l.length:Int)*m+m:=by
   rw [Int.natCast_add,Int.add_mul];simp
  rw [this];omega
theorem val_of {l:List DOut} (h:valOk l=true):(∀o∈l,1<=o.value∧o.value<=1125899906842624)∧sum l<=1125899906842624:=by
 unfold valOk at h
 rw [Bool.and_eq_true] at h
 refine ⟨fun o ho=>?_,by simpa using h.2⟩
 have:=List.all_eq_true.1 h.1 o ho
 simpa using this
theorem val_good {l:List DOut} (h1:∀o∈l,1<=o.value) (h2:sum l<=1125899906842624):valOk l=true:=by
 unfold valOk
 rw [Bool.and_eq_true]
 refine ⟨List.all_eq_true.2 fun o ho=>?_,by simpa using h2⟩
 obtain ⟨i,hi⟩:=List.getElem?_of_mem ho
 have e:l=l.take (i+1)++l.drop (i+1):=(List.take_append_drop _ _).symm
 have hs:sum l=sum (l.take i)+o.value+sum (l.drop (i+1)):=by rw [←sum_step hi,←sum_app,←e]
 have p1:=sum_pos (l:=l.take i) (fun x hx=>h1 x (List.mem_of_mem_take hx))
 have p2:=sum_pos (l:=l.drop (i+1)) (fun x hx=>h1 x (List.mem_of_mem_drop hx))
 have:=h1 o ho
 simp only [Bool.and_eq_true,decide_eq_true_eq]
 omega
theorem val_bad {l:List DOut} {i:Nat} {o:DOut} (hx:l[i]?=some o) (h:o.value<1∨1125899906842624 - sum (l.take i)<o.value):valOk l=false:=by
 cases hv:valOk l with
 | false=>rfl
 | true =>
  obtain ⟨h1,h2⟩:=val_of hv
  have ho:=h1 o (List.mem_of_getElem? hx)
  have e:l=l.take (i+1)++l.drop (i+1):=(List.take_append_drop _ _).symm
  have hs:sum l=sum (l.take i)+o.value+sum (l.drop (i+1)):=by rw [←sum_step hx,←sum_app,←e]
  have p2:=sum_pos (l:=l.drop (i+1)) (fun x hx=>(h1 x (List.mem_of_mem_drop hx)).1)
  omega
theorem val_out {l:List DOut} {i:Nat} {o:DOut} (hx:l[i]?=some o) (h:o.value<1∨1125899906842624<o.value):valOk l=false:=by
 cases hv:valOk l with
 | false=>rfl
 | true=>have:=(val_of hv).1 o (List.mem_of_getElem? hx);omega
theorem val_sum {l:List DOut} (h:∀o∈l,1<=o.value∧o.value<=1125899906842624):valOk l=decide (sum l<=1125899906842624):=by
 by_cases hs:sum l<=1125899906842624
 ·rw [val_good (fun o ho=>(h o ho).1) hs,decide_eq_true hs]
 ·cases hv:valOk l with
  | false=>rw [decide_eq_false hs]
  | true=>exact absurd (val_of hv).2 hs
theorem twice_iff:∀{l:List DPoint},twice l=true↔∃k i:Nat,∃p:DPoint,k<i∧l[k]?=some p∧l[i]?=some p
 | []=>by simp [twice]
 | q::l=>by
  unfold twice
  rw [Bool.or_eq_true,twice_iff (l:=l)]
  constructor
  ·rintro (h|⟨k,i,p,h1,h2,h3⟩)
   ·obtain ⟨p,hp,hb⟩:=List.any_eq_true.1 h
    obtain ⟨i,hi⟩:=List.getElem?_of_mem hp
    have hb':q=p:=beqPoint_iff.1 hb
    exact ⟨0,i+1,p,by omega,by rw [←hb'];rfl,by simpa using hi⟩
   ·exact ⟨k+1,i+1,p,by omega,by simpa using h2,by simpa using h3⟩
  ·rintro ⟨k,i,p,h1,h2,h3⟩
   obtain ⟨i,rfl⟩:∃j,i=j+1:=⟨i - 1,by omega⟩
   rw [List.getElem?_cons_succ] at h3
   cases k with
   | zero =>
    left
    have hq:q=p:=by simpa using h2
    exact List.any_eq_true.2 ⟨p,List.mem_of_getElem? h3,beqPoint_iff.2 hq⟩
   | succ k =>
    right
    rw [List.getElem?_cons_succ] at h2
    exact ⟨k,i,p,by omega,h2,h3⟩
def putP (s:List DPoint) (p:DPoint):List DPoint:=if s.any (beqPoint p)=true then s else s++[p]
def setP (l:List DPoint):List DPoint:=l.foldl putP []
theorem mem_any {s:List DPoint} {p:DPoint}:s.any (beqPoint p)=true↔p∈s:=by
 rw [List.any_eq_true]
 constructor
 ·rintro ⟨q,hq,hb⟩
  rw [beqPoint_iff.1 hb];exact hq
 ·intro h
  exact ⟨p,h,beqPoint_iff.2 rfl⟩
theorem len_fold:∀(l s:List DPoint),(l.foldl putP s).length<=s.length+l.length∧((l.foldl putP s).length=s.length+l.length↔twice l=false∧∀p∈l,p ∉ s)
 | [],s=>by simp [twice]
 | p::l,s=>by
  rw [List.foldl_cons]
  obtain ⟨h1,h2⟩:=len_fold l (putP s p)
  by_cases hp:p∈s
  ·have hs:putP s p=s:=by unfold putP;rw [if_pos (mem_any.2 hp)]
   rw [hs] at h1 h2 ⊢
   refine ⟨by rw [List.length_cons];omega,fun h=>?_,fun h=>absurd hp (h.2 p (.head _))⟩
   rw [List.length_cons] at h;omega
  ·have hs:putP s p=s++[p]:=by unfold putP;rw [if_neg (fun h=>hp (mem_any.1 h))]
   rw [hs,List.length_append,List.length_singleton] at h1 h2
   rw [hs]
   refine ⟨by rw [List.length_cons];omega,?_⟩
   rw [List.length_cons,show s.length+(l.length+1)=s.length+1+l.length by omega,h2]
   rw [show twice (p::l)=(l.any (beqPoint p) || twice l) from rfl,Bool.or_eq_false_iff]
   constructor
   ·rintro ⟨h3,h4⟩
    refine ⟨⟨?_,h3⟩,fun q hq=>?_⟩
    ·cases ha:l.any (beqPoint p) with
     | false=>rfl
     | true=>exact absurd (List.mem_append.2 (.inr (.head _))) (h4 p (mem_any.1 ha))
    ·rcases List.mem_cons.1 hq with rfl|hq
     ·exact hp
     ·exact fun h=>h4 q hq (List.mem_append.2 (.inl h))
   ·rintro ⟨⟨h3,h4⟩,h5⟩
    refine ⟨h4,fun q hq h=>?_⟩
    rcases List.mem_append.1 h with h|h
    ·exact h5 q (.tail _ hq) h
    ·obtain rfl:q=p:=by simpa using h
     rw [mem_any.2 hq] at h3
     cases h3
theorem len_set {l:List DPoint}:decide ((setP l).length=l.length)=!twice l:=by
 have h:=(len_fold l []).2
 simp only [List.length_nil,Nat.zero_add] at h
 unfold setP
 by_cases ht:twice l=false
 ·rw [decide_eq_true (h.2 ⟨ht,fun _ _=>by simp⟩),ht];rfl
 ·have ht':twice l=true:=by simpa using ht
  rw [decide_eq_false (fun e=>ht (h.1 e).1),ht'];rfl
def weight (t:DTx):Int:=3*((bare t).length:Int)+((put t).length:Int)
def setWit (t:DTx) (k:Nat) (w:List (List UInt8)):DTx:=⟨t.ins.modify k (fun x=>⟨x.point,w⟩),t.outs,t.lock⟩
theorem any_map {α β:Type} {f:α->β} {p:β->Bool} (l:List α):l.any (fun x=>p (f x))=(l.map f).any p:=by rw [List.any_map];rfl
def setScr (t:DTx) (s:List UInt8):DTx:=⟨t.ins,t.outs.modify 0 (fun o=>⟨o.value,s⟩),t.lock⟩
end Tx
end Go.Proofs.YtjjodibkmeefpaaGreatDoor

namespace Go.Proofs.YtjjodibkmeefpaaGreatDoor
open Go Go.RowKit

deriving instance DecidableEq for DPoint
deriving instance DecidableEq for DIn
deriving instance DecidableEq for DOut
deriving instance DecidableEq for DTx
def pointC (p:DPoint):List Value:=p.tx.map u8v++[.int .i64 p.n]
def inC (p:DPoint) (A:Option Addr) (m c:Nat):List Value:=pointC p++[.slice A m c]
def outC (n:Int) (A:Option Addr) (m c:Nat):List Value:=[.int .i64 n,.slice A m c]
def txC (A:Option Addr) (n c:Nat) (B:Option Addr) (m d:Nat) (k:Int):List Value:=[.slice A n c,.slice B m d,.int .i64 k]
section
variable {W:World} {S:Nat->Prop} {cs:List Value} {A B:Option Addr} {n m c d:Nat} {k:Int} {p:DPoint} {x:DIn} {o:DOut} {t:DTx}
theorem point_of (h:RPoint W S cs p):cs=pointC p∧p.tx.length=32∧I64 p.n:=by
 obtain ⟨c0,c1,rfl,⟨rfl,h1⟩,rfl,h2⟩:=h
 exact ⟨rfl,h1,h2⟩
theorem point_rep (h:p.tx.length=32) (hn:I64 p.n):RPoint W S (pointC p) p:=⟨_,_,rfl,⟨rfl,h⟩,rfl,hn⟩
theorem len_point (h:p.tx.length=32):(pointC p).length=33:=by unfold pointC;simp [h]
theorem sub_pt_tx (h:p.tx.length=32):sub (pointC p) 0 32=p.tx.map u8v:=by unfold pointC;exact sub_head (by rw [List.length_map];exact h)
theorem sub_pt_n (h:p.tx.length=32):sub (pointC p) 32 1=[.int .i64 p.n]:=by
 unfold pointC
 exact (sub_skip (k:=0) (m:=1) (by rw [List.length_map];exact h)).trans rfl
theorem len_in (h:p.tx.length=32):(inC p A m c).length=34:=by unfold inC;rw [List.length_append,len_point h];rfl
theorem sub_in_p (h:p.tx.length=32):sub (inC p A m c) 0 33=pointC p:=by unfold inC;exact sub_head (len_point h)
theorem sub_in_w (h:p.tx.length=32):sub (inC p A m c) 33 1=[.slice A m c]:=by
 unfold inC
 exact (sub_skip (k:=0) (m:=1) (len_point h)).trans rfl
theorem sub_in_tx (h:p.tx.length=32):sub (inC p A m c) 0 32=p.tx.map u8v:=by
 have e:=sub_sub (c:=inC p A m c) (a:=0) (m:=33) (b:=0) (k:=32) (by omega)
 rw [sub_in_p h,sub_pt_tx h] at e
 exact e.symm
theorem sub_in_n (h:p.tx.length=32):sub (inC p A m c) 32 1=[.int .i64 p.n]:=by
 have e:=sub_sub (c:=inC p A m c) (a:=0) (m:=33) (b:=32) (k:=1) (by omega)
 rw [sub_in_p h,sub_pt_n h] at e
 exact e.symm
theorem in_of (h:RIn W S cs x):∃A c,cs=inC x.point A x.wit.length c∧RL 1 RB W S [.slice A x.wit.length c] x.wit∧x.point.tx.length=32∧I64 x.point.n:=by
 obtain ⟨c0,c1,rfl,h0,h1⟩:=h
 obtain ⟨rfl,h2,h3⟩:=point_of h0
 have h1':=h1
 obtain ⟨A,c,xs,rfl,_⟩:=h1
 exact ⟨A,c,rfl,h1',h2,h3⟩
theorem in_rep {w:List (List UInt8)} (h:p.tx.length=32) (hn:I64 p.n) (hw:RL 1 RB W S [.slice A w.length c] w):RIn W S (inC p A w.length c) ⟨p,w⟩:=⟨_,_,rfl,point_rep h hn,hw⟩
theorem out_of (h:ROut W S cs o):∃A c,cs=outC o.value A o.script.length c∧Bs W S (.slice A o.script.length c) o.script∧I64 o.value:=by
 obtain ⟨c0,c1,rfl,⟨rfl,h0⟩,⟨v,rfl,hb⟩⟩:=h
 obtain ⟨A,c,rfl,_⟩:=hb.op
 exact ⟨A,c,rfl,hb,h0⟩
theorem out_rep {s:List UInt8} {v:Int} (hn:I64 v) (hb:Bs W S (.slice A s.length c) s):ROut W S (outC v A s.length c) ⟨v,s⟩:=⟨_,_,rfl,⟨rfl,hn⟩,_,rfl,hb⟩
theorem tx_of (h:RTx W S cs t):∃A c B d,cs=txC A t.ins.length c B t.outs.length d t.lock∧RL 34 RIn W S [.slice A t.ins.length c] t.ins∧RL 2 ROut W S [.slice B t.outs.length d] t.outs∧I64 t.lock:=by
 obtain ⟨c0,c1,c2,rfl,h0,h1,⟨rfl,h2⟩⟩:=h
 have h0':=h0
 have h1':=h1
 obtain ⟨A,c,xs,rfl,_⟩:=h0
 obtain ⟨B,d,ys,rfl,_⟩:=h1
 exact ⟨A,c,B,d,rfl,h0',h1',h2⟩
theorem tx_rep {l:List DIn} {r:List DOut} (h0:RL 34 RIn W S [.slice A l.length c] l) (h1:RL 2 ROut W S [.slice B r.length d] r) (h2:I64 k):RTx W S (txC A l.length c B r.length d k) ⟨l,r,k⟩:=⟨_,_,_,rfl,h0,h1,rfl,h2⟩
theorem tx_ok (h:RTx W S cs t):Tx.Ok t:=by
 obtain ⟨A,c,B,d,rfl,h0,h1,h2⟩:=tx_of h
 obtain ⟨_,_,xs,_,_,_,_,e0⟩:=h0
 obtain ⟨_,_,ys,_,_,_,_,e1⟩:=h1
 refine ⟨fun x hx=>?_,fun o ho=>?_,h2⟩
 ·obtain ⟨i,hi⟩:=List.getElem?_of_mem hx
  obtain ⟨_,_,_,_,h3,h4⟩:=in_of (e0 i x hi)
  exact ⟨h3,h4⟩
 ·obtain ⟨i,hi⟩:=List.getElem?_of_mem ho
  obtain ⟨_,_,_,_,h3⟩:=out_of (e1 i o hi)
  exact h3
end
theorem take_eq_step {α:Type} {l r:List α} {i:Nat} {x:α} (h:l.take i=r.take i) (hx:l[i]?=some x) (hy:r[i]?=some x):l.take (i+1)=r.take (i+1):=by rw [take_get hx,take_get hy,h]
theorem ne_at {α:Type} {l r:List α} {i:Nat} {x y:α} (hx:l[i]?=some x) (hy:r[i]?=some y) (h:¬x=y):¬l=r:=fun e=>by
 subst e
 rw [hx] at hy
 exact h (Option.some.inj hy)
theorem all_take {α:Type} {l r:List α} (hl:l.length=r.length) (h:l.take l.length=r.take l.length):l=r:=by
 rw [List.take_length,List.take_of_length_le (by omega)] at h
 exact h
theorem rl_len {α:Type} {R:Rep α} {W:World} {S:Nat->Prop} {s:Nat} {cs:List Value} {l:List α} (h:RL s R W S cs l):l.length<=9223372036854775807:=by
 obtain ⟨_,c,_,_,h1,h2,_⟩:=h
 omega
def allS (l:List (List UInt8)):Nat:=(l.map (fun b=>b.length+1)).sum
theorem sum_at {α:Type} {f:α->Nat} {l:List α} {i:Nat} {x:α} (h:l[i]?=some x):((l.take (i+1)).map f).sum=((l.take i).map f).sum+f x:=by rw [take_get h];simp
theorem allS_at {l:List (List UInt8)} {i:Nat} {b:List UInt8} (h:l[i]?=some b):allS (l.take (i+1))=allS (l.take i)+(b.length+1):=sum_at h
theorem sum_mem {α:Type} {f:α->Nat} {x:α}:∀{l:List α},x∈l->f x<=(l.map f).sum
 | y::l,h=>by
  rw [List.map_cons,List.sum_cons]
  rcases List.mem_cons.1 h with rfl|h
  ·omega
  ·have:=sum_mem (f:=f) h;omega
theorem sum_len {α:Type} {f:α->Nat}:∀{l:List α},(∀x∈l,1<=f x)->l.length<=(l.map f).sum
 | [],_=>by simp
 | y::l,h=>by
  rw [List.map_cons,List.sum_cons,List.length_cons]
  have h1:=h y (.head _)
  have h2:=sum_len (f:=f) (l:=l) (fun x hx=>h x (.tail _ hx))
  omega
theorem len_flat_le {α:Type} {f:α->List UInt8} {k:Nat}:∀{l:List α},(∀x∈l,(f x).length<=k)->(l.map f).flatten.length<=l.length*k
 | [],_=>by simp
 | y::l,h=>by
  rw [List.map_cons,List.flatten_cons,List.length_append,List.length_cons,Nat.add_mul]
  have h1:=h y (.head _)
  have h2:=len_flat_le (f:=f) (l:=l) (fun x hx=>h x (.tail _ hx))
  omega
namespace Tx
def size (t:DTx):Nat:=(t.ins.map (fun x=>allS x.wit)).sum+(t.outs.map (fun o=>o.script.length)).sum
def big (rows bytes:Nat) (t:DTx):Bool:=decide (rows<t.ins.length) || decide (rows<t.outs.length) || decide (bytes<min (size t) 1099511627776)
def Szd (t:DTx):Prop:=(∀x∈t.ins,∀b∈x.wit,b.length<=140737488355328)∧∀o∈t.outs,o.script.length<=140737488355328
structure Small (rows bytes:Nat) (t:DTx):Prop where
 ins:t.ins.length<=rows
 outs:t.outs.length<=rows
 wit:∀x∈t.ins,x.wit.length<=bytes∧∀b∈x.wit,b.length<=bytes
 scr:∀o∈t.outs,o.script.length<=bytes
theorem not_big {rows bytes:Nat} {t:DTx} (h:big rows bytes t=false) (hb:bytes<1099511627776):Small rows bytes t:=by
 unfold big at h
 rw [Bool.or_eq_false_iff,Bool.or_eq_false_iff] at h
 obtain ⟨⟨h1,h2⟩,h3⟩:=h
 simp only [decide_eq_false_iff_not] at h1 h2 h3
 have hs:size t<=bytes:=by omega
 unfold size at hs
 refine ⟨by omega,by omega,fun x hx=>?_,fun o ho=>?_⟩
 ·have g1:=sum_mem (f:=fun x:DIn=>allS x.wit) hx
  have g2:x.wit.length<=allS x.wit:=sum_len (f:=fun b:List UInt8=>b.length+1) (fun b _=>by omega)
  refine ⟨by omega,fun b hb=>?_⟩
  have g3:b.length+1<=allS x.wit:=sum_mem (f:=fun b:List UInt8=>b.length+1) hb
  omega
 ·have g1:=sum_mem (f:=fun o:DOut=>o.script.length) ho
  omega
theorem len_encP {p:DPoint} (h:p.tx.length=32):(encP p).length<=41:=by
 have:=Pk.len_int (Pk.toU p.n)
 unfold encP;rw [List.length_append];omega
theorem len_encO {o:DOut} (h:o.script.length<=256):(encO o).length<=274:=by
 have h1:=Pk.len_int (Pk.toU o.value)
 have h2:=Pk.len_int o.script.length
 unfold encO Pk.blob;rw [List.length_append,List.length_append];omega
theorem len_bareB {t:DTx} (hc:chk t=0) (ht:Ok t):(bareB t).length<=2547:=by
 obtain ⟨h1,h2,h3,h4,h5,h6,h7,h8⟩:=chk_of hc
 have a1:=Pk.len_int t.ins.length
 have a2:=Pk.len_int t.outs.length
 have a3:=Pk.len_int (Pk.toU t.lock)
 have a4:=len_flat_le (f:=encI) (k:=41) (l:=t.ins) (fun x hx=>len_encP (ht.1 x hx).1)
 have a5:=len_flat_le (f:=encO) (k:=274) (l:=t.outs) (fun x hx=>len_encO (h7 x hx))
 unfold bareB encL
 simp only [List.length_append]
 omega
end Tx
end Go.Proofs.YtjjodibkmeefpaaGreatDoor
