import Derived.WalkKit
import Derived.WalkSpells
import Derived.KernelRfl
import Derived.Deep.QuietTactic
import Derived.BigQuiet
import Derived.Deep.Draws
import Derived.Lib.Hide
import Derived.Maps.AppendAt
import Derived.StillTailTactics
import Derived.Laws.CopyOwn
import Derived.Test.YtjjodibkmeefpaaGreatDoorProg
import Derived.StillTail
import Derived.Lib.AppendZerosOnto
import Derived.Laws.CopyRow
import Derived.Outline
import Derived.IntWalk
import Derived.Deep.DeepCutAuto
import Derived.Laws.Tables
import Derived.Laws.MakeOwn
import Derived.Deep.CutBlock
import Derived.Lib.ConvBytes
import Derived.Deep.AppendSrc
set_option linter.unusedVariables false
set_option linter.unusedSimpArgs false

namespace Go.Proofs.YtjjodibkmeefpaaGreatDoor.Old
open Go Go.RowKit

abbrev u8v (b:UInt8):Value:=.int .u8 (b.toNat:Int)
abbrev u32v (b:UInt32):Value:=.int .u32 (b.toNat:Int)
abbrev i64v (b:Int):Value:=.int .i64 b

def Rd (w:World) (S:Nat->Prop) (size:Nat) (A:Option Addr) (n:Nat) (xs:List Value):Prop :=
 xs.length=n*size∧(0<n->∃g o,A=some ⟨g,o,none⟩∧(g<w.heap.size∧S g)∧∀j u,xs[j]?=some u->w.cell? ⟨g,o+j,none⟩=some u)

def Bs (w:World) (S:Nat->Prop) (v:Value) (l:List UInt8):Prop :=
 ∃A c,v=.slice A l.length c∧l.length<=c∧c<=maxLen∧Rd w S 1 A l.length (l.map u8v)

structure Fr (T:Nat->Prop) (w w':World):Prop where
 os:w'.os=w.os
 tape:w'.tape=w.tape
 output:w'.output=w.output
 size:w.heap.size<=w'.heap.size
 block:∀k,k<w.heap.size->¬T k->w'.heap[k]?=w.heap[k]?

theorem lt_of_block {w w':World} {g:Nat} (hg:g<w.heap.size) (h:w'.heap[g]?=w.heap[g]?):g<w'.heap.size:=by
 rcases Nat.lt_or_ge g w'.heap.size with h1|h1
 ·exact h1
 ·rw [Array.getElem?_eq_none h1,Array.getElem?_eq_getElem hg] at h
  cases h

section
variable {w w' w'':World} {T T' S S':Nat->Prop} {A:Option Addr} {n size:Nat} {xs:List Value} {l:List UInt8} {v:Value}

theorem Fr.refl:Fr T w w:=⟨rfl,rfl,rfl,Nat.le_refl _,fun _ _ _=>rfl⟩
theorem Fr.trans (h:Fr T w w') (k:Fr T' w' w'') (ht:∀g,g<w.heap.size->T' g->T g):Fr T w w'' :=
 ⟨k.os.trans h.os,k.tape.trans h.tape,k.output.trans h.output,Nat.le_trans h.size k.size,
  fun i hi hn=>(k.block i (Nat.lt_of_lt_of_le hi h.size) (fun e=>hn (ht i hi e))).trans (h.block i hi hn)⟩
theorem Fr.mono (h:Fr T w w') (ht:∀g,g<w.heap.size->T g->T' g):Fr T' w w' :=
 ⟨h.os,h.tape,h.output,h.size,fun i hi hn=>h.block i hi (fun e=>hn (ht i hi e))⟩
theorem Fr.below {B:Nat} (h:Fr T w w') (hB:B<=w.heap.size) (ht:∀g,T g->B<=g):Below B w w' :=
 ⟨h.os,h.tape,h.output,h.size,fun i hi=>h.block i (by omega) (fun e=>by have:=ht i e;omega)⟩
theorem Rd.keep (h:Rd w S size A n xs) (hk:∀g,g<w.heap.size->S g->w'.heap[g]?=w.heap[g]?):Rd w' S size A n xs :=
 ⟨h.1,fun hn=>by
  obtain ⟨g,o,e,⟨hlt,hb⟩,hc⟩:=h.2 hn
  exact ⟨g,o,e,⟨lt_of_block hlt (hk g hlt hb),hb⟩,fun j u hu=>(World.cell?_of_block (a:=⟨g,o+j,none⟩) (hk g hlt hb)).trans (hc j u hu)⟩⟩
theorem Rd.mono (h:Rd w S size A n xs) (hk:∀g,g<w.heap.size->S g->S' g):Rd w S' size A n xs :=
 ⟨h.1,fun hn=>by
  obtain ⟨g,o,e,⟨hlt,hb⟩,hc⟩:=h.2 hn
  exact ⟨g,o,e,⟨hlt,hk g hlt hb⟩,hc⟩⟩
theorem Rd.below {B:Nat} (h:Rd w S size A n xs) (hb:Below B w w') (hB:w.heap.size<=B):Rd w' S size A n xs :=
 h.keep fun g hg _=>hb.block g (by omega)
theorem Rd.drewN (h:Rd w S size A n xs) (k:Nat):Rd (w.drewN k) S size A n xs:=h
theorem Rd.nil:Rd w S size A 0 []:=⟨by simp,fun h=>absurd h (by omega)⟩
theorem Rd.cell (h:Rd w S size A n xs) {k:Nat} (hn:0<n) (hk:k<n*size):∃g o u,A=some ⟨g,o,none⟩∧(g<w.heap.size∧S g)∧xs[k]?=some u∧w.cell? ⟨g,o+k,none⟩=some u:=by
 obtain ⟨g,o,e,hb,hc⟩:=h.2 hn
 have hl:k<xs.length:=by rw [h.1];exact hk
 exact ⟨g,o,xs[k],e,hb,List.getElem?_eq_getElem hl,hc k _ (List.getElem?_eq_getElem hl)⟩
theorem Rd.byte (h:Rd w S 1 A n (l.map u8v)) {k:Nat} (hk:k<n):∃g o b,A=some ⟨g,o,none⟩∧(g<w.heap.size∧S g)∧l[k]?=some b∧w.cell? ⟨g,o+k,none⟩=some (.int .u8 (b.toNat:Int)):=by
 obtain ⟨g,o,u,e,hb,hu,hc⟩:=h.cell (k:=k) (by omega) (by omega)
 rw [List.getElem?_map] at hu
 cases hx:l[k]? with
 | none=>rw [hx] at hu;cases hu
 | some b=>rw [hx] at hu;cases hu;exact ⟨g,o,b,e,hb,rfl,hc⟩
theorem Rd.cut (h:Rd w S size A n xs) {a b c:Nat} (hab:a<=b) (hb:b<=n) (hc:n<=c) :
  Rd w S size (if c=a then A else A.map (·.add (a*size))) (b - a) ((xs.drop (a*size)).take ((b - a)*size)):=by
 have hle:a*size<=n*size:=Nat.mul_le_mul_right _ (by omega)
 have hle2:(b - a)*size<=(n - a)*size:=Nat.mul_le_mul_right _ (by omega)
 refine ⟨by rw [List.length_take,List.length_drop,h.1,←Nat.sub_mul];omega,fun hn=>?_⟩
 obtain ⟨g,o,rfl,hg,hcell⟩:=h.2 (by omega)
 rw [if_neg (by omega)]
 refine ⟨g,o+a*size,?_,hg,fun j u hu=>?_⟩
 ·simp only [Option.map_some,Addr.add]
  split
  ·rename_i h0;simp [h0]
  ·rfl
 ·rw [List.getElem?_take] at hu
  split at hu
  ·rw [List.getElem?_drop] at hu
   have:=hcell _ u hu
   rw [←this]
   congr 2
   omega
  ·cases hu

theorem Rd.cutv (h:Rd w S 1 A n (l.map u8v)) {a m:Nat} (ham:a+m<=n) {A':Option Addr} (hA:0<m->A'=A.map (·.add a)):Rd w S 1 A' m (((l.drop a).take m).map u8v):=by
 have hl:l.length=n:=by simpa using h.1
 refine ⟨by simp;omega,fun hm=>?_⟩
 obtain ⟨g,o,rfl,hg,hc⟩:=h.2 (by omega)
 refine ⟨g,o+a,?_,hg,fun j u hu=>?_⟩
 ·rw [hA hm]
  simp only [Option.map_some,Addr.add]
  split
  ·rename_i h0;simp [h0]
  ·rfl
 ·rw [List.getElem?_map,List.getElem?_take] at hu
  split at hu
  ·rw [List.getElem?_drop] at hu
   rw [Nat.add_assoc]
   exact hc _ u (by rw [List.getElem?_map];exact hu)
  ·cases hu
theorem Bs.mk {c:Nat} (h:Rd w S 1 A n (l.map u8v)) (h1:n<=c) (h2:c<=9223372036854775807):Bs w S (.slice A n c) l:=by
 have hl:l.length=n:=by simpa using h.1
 subst hl
 exact ⟨A,c,rfl,h1,h2,h⟩
theorem Bs.op (h:Bs w S v l):∃A c,v=.slice A l.length c∧l.length<=c∧c<=9223372036854775807∧Rd w S 1 A l.length (l.map u8v):=h
theorem Bs.keep (h:Bs w S v l) (hk:∀g,g<w.heap.size->S g->w'.heap[g]?=w.heap[g]?):Bs w' S v l:=by
 obtain ⟨A,c,e,h1,h2,h3⟩:=h
 exact ⟨A,c,e,h1,h2,h3.keep hk⟩
theorem Bs.mono (h:Bs w S v l) (hk:∀g,g<w.heap.size->S g->S' g):Bs w S' v l:=by
 obtain ⟨A,c,e,h1,h2,h3⟩:=h
 exact ⟨A,c,e,h1,h2,h3.mono hk⟩
theorem Bs.below {B:Nat} (h:Bs w S v l) (hb:Below B w w') (hB:w.heap.size<=B):Bs w' S v l :=
 h.keep fun g hg _=>hb.block g (by omega)
theorem Bs.nil:Bs w S (.slice none 0 0) []:=⟨none,0,rfl,Nat.le_refl _,Nat.zero_le _,Rd.nil⟩
theorem Bs.len (h:Bs w S v l):l.length<=9223372036854775807:=by
 obtain ⟨A,c,e,h1,h2,h3⟩:=h
 unfold maxLen at h2
 omega

theorem Rd.of_own {base:Nat} {e:TypeId} {c:Nat} (h:w.ownsRow base e size (.slice A n c) n xs):Rd w (base<=·) size A n xs:=by
 refine ⟨h.1,fun hn=>?_⟩
 rcases h.2 with ⟨_,h0⟩|⟨g,cap,cur,hv,hb,hh,_,_,hs,ht⟩
 ·omega
 ·injection hv with hA
  subst hA
  have hlt:g<w.heap.size:=by
   rcases Nat.lt_or_ge g w.heap.size with h1|h1
   ·exact h1
   ·rw [Array.getElem?_eq_none h1] at hh;cases hh
  refine ⟨g,0,rfl,⟨hlt,hb⟩,fun j u hu=>?_⟩
  rw [Nat.zero_add,cell_of_row w g j cur e (0,0) hh]
  rw [←ht,List.getElem?_take] at hu
  split at hu
  ·simpa using hu
  ·cases hu
end

theorem ownsRow_keep {w w':World} {base:Nat} {e:TypeId} {size:Nat} {v:Value} {n:Nat} {xs:List Value} (h:w.ownsRow base e size v n xs) (hk:∀g,v.ownBlock=some g->w'.heap[g]?=w.heap[g]?):w'.ownsRow base e size v n xs:=by
 refine ⟨h.1,?_⟩
 rcases h.2 with hn|⟨g,cap,cur,rfl,hb,hgg,rest⟩
 ·exact .inl hn
 ·exact .inr ⟨g,cap,cur,rfl,hb,by rw [hk g rfl];exact hgg,rest⟩
theorem ownsRow_base {w:World} {base base':Nat} {e:TypeId} {size:Nat} {v:Value} {n:Nat} {xs:List Value} (h:w.ownsRow base e size v n xs) (hk:base'<=base):w.ownsRow base' e size v n xs:=by
 refine ⟨h.1,?_⟩
 rcases h.2 with hn|⟨g,cap,cur,rfl,hb,hgg,rest⟩
 ·exact .inl hn
 ·exact .inr ⟨g,cap,cur,rfl,by omega,hgg,rest⟩

section
variable {P:Program} (w:World)
theorem run_app (base:Nat) (t ty e:TypeId) (i:TypeInfo) (z:Value) (size bytes:Nat) (ht:P.underlying t=some (.slice e)) (hi:P.info? e=some i) (hz:i.zero=some z)
  (hsize:i.size=size) (hby:i.bytes=bytes) (hzs:z.cells.size=size) (hsz:0<size)
  (v:Value) (n:Nat) (xs:List Value) (hown:w.ownsRow base e size v n xs)
  (S:Nat->Prop) (A:Option Addr) (m c:Nat) (news:List Value) (hr:Rd w S size A m news) (h1:∀u∈news,u.oneCell'=true)
  (h63:n+m<=maxLen) (hbytes:(n+m)*bytes<=140737488355328) (hbase:base<=w.heap.size) :
  ∃v' w',(Builtin.append_ #[t,t] ty #[v,.slice A m c]).run P w=.ok v' w'∧w'.ownsRow base e size v' (n+m) (xs++news)∧w.grownBy w' v.ownBlock ∧
   (v'.ownBlock=v.ownBlock∨v'.ownBlock=some w.heap.size):=by
 by_cases h0:m=0
 ·subst h0
  have hn:news=[]:=List.eq_nil_of_length_eq_zero (by simpa using hr.1)
  subst hn
  refine ⟨v,w,?_,by simpa using hown,World.grownBy.refl w _,.inl rfl⟩
  rcases hown.2 with ⟨rfl,rfl⟩|⟨g,cap,cur,rfl,_,_,hnc,_⟩
  ·rcases A with _|ad <;> simp [Builtin.append_,run_underlying ht,sizeOf,typeInfo,hi,Builtin.lenOf,Builtin.firstCells,loadCells,loadCellsFrom]
  ·rcases A with _|ad <;> simp [Builtin.append_,run_underlying ht,sizeOf,typeInfo,hi,Builtin.lenOf,Builtin.firstCells,hnc,storeCells,loadCells,loadCellsFrom]
 ·obtain ⟨g,o,rfl,_,hc⟩:=hr.2 (by omega)
  have hcells:∀j u,news[j]?=some u->w.cell? ((⟨g,o,none⟩:Addr).add j)=some u:=by
   intro j u hu
   have:=hc j u hu
   unfold Addr.add
   split
   ·rename_i hj;subst hj;simpa using this
   ·exact this
  obtain ⟨v',w',hrun,h2,h3,_,h5⟩:=run_append_own_at (P:=P) w base t ty e i z size bytes ht hi hz hsize hby hzs hsz v n xs hown ⟨g,o,none⟩ m c news hr.1 hcells h1 h63 hbytes hbase
  exact ⟨v',w',hrun,h2,h3,h5⟩

theorem wp_app {o:Oper} {a:Act} {K:Act->World->Prop} {Q:Exit->Act->World->Prop} (s x:Operand) (t:TypeId)
  (ho:o.op=.call { callee:=.builtin .append,args:=#[s,x],argTypes:=#[t,t] })
  (base:Nat) (e:TypeId) (i:TypeInfo) (z:Value) (size bytes:Nat) (ht:P.underlying t=some (.slice e)) (hi:P.info? e=some i) (hz:i.zero=some z)
  (hsize:i.size=size) (hby:i.bytes=bytes) (hzs:z.cells.size=size) (hsz:0<size)
  (v:Value) (n:Nat) (xs:List Value) (hs:a.eval s=v) (hown:w.ownsRow base e size v n xs)
  (S:Nat->Prop) (A:Option Addr) (m c:Nat) (news:List Value) (hx:a.eval x=.slice A m c) (hr:Rd w S size A m news) (h1:∀u∈news,u.oneCell'=true)
  (h63:n+m<=maxLen) (hbytes:(n+m)*bytes<=140737488355328) (hbase:base<=w.heap.size)
  (h:∀v' w',w'.ownsRow base e size v' (n+m) (xs++news)->w.grownBy w' v.ownBlock->(v'.ownBlock=v.ownBlock∨v'.ownBlock=some w.heap.size)->K (a.put o.dst v') w'):o.wp P a w K Q:=by
 obtain ⟨v',w',hrun,h2,h3,h4⟩:=run_app (P:=P) w base t o.type e i z size bytes ht hi hz hsize hby hzs hsz v n xs hown S A m c news hr h1 h63 hbytes hbase
 unfold Oper.wp execOp
 simp only [ho,resolve,invoke,builtin,Sem.run_bind,Sem.run_pure,Result.andThen_ok,List.map_toArray,List.map_cons,List.map_nil,hs,hx,hrun]
 exact h v' w' h2 h3 h4
end
theorem one_u8 (l:List UInt8):∀u∈l.map u8v,u.oneCell'=true:=by
 intro u hu
 obtain ⟨b,_,rfl⟩:=List.mem_map.1 hu
 rfl
theorem one_u32 (l:List UInt32):∀u∈l.map u32v,u.oneCell'=true:=by
 intro u hu
 obtain ⟨b,_,rfl⟩:=List.mem_map.1 hu
 rfl
theorem region_tail {P:Program} {id:Nat} {Q:Exit->Act->World->Prop} {a:Act} {w:World} {l:List Oper} (n:Nat) (hm:P.follows .mixedOrders=true) (hB:Region.lexTailB .any l.toArray n=true)
  (h:wpStill P l.toArray w.drew (fun a'=>wpList P l.toArray Q (l.drop n) a' w.drew) (l.take n) a):(Code.region id l.toArray true).wp P Q a w:=wp_region_still_tail n hm hB h
theorem u8_of {z:Int} {n:Nat} (h:z=n):z % 256=((UInt8.ofNat n).toNat:Int):=by subst h;simp
theorem ret_int {k:IntKind} {a b:Int} (h:a=b):Ending.returned (.int k a)=.returned (.int k b):=by rw [h]
end Go.Proofs.YtjjodibkmeefpaaGreatDoor.Old

namespace Go.Proofs.YtjjodibkmeefpaaGreatDoor.Old
open Go Go.RowKit

theorem info_u8:(Tryz.prog.info? 5).map (fun i=>(i.zero,i.size,i.bytes))=some (some (.int .u8 0),1,1):=by kernel_rfl

def OwnB (w:World) (base:Nat) (v:Value) (l:List UInt8):Prop:=w.ownsRow base 5 1 v l.length (l.map u8v)

section
variable {w w':World} {base:Nat} {v:Value} {l:List UInt8}
theorem OwnB.nil (w:World) (base:Nat):OwnB w base (.slice none 0 0) []:=World.ownsRow_nil _ _ _ _
theorem OwnB.form (h:OwnB w base v l):∃A c,v=.slice A l.length c∧l.length<=c∧c<=maxLen:=by
 rcases h.2 with ⟨rfl,h0⟩|⟨g,cap,cur,hv,_,_,h1,h2,_⟩
 ·exact ⟨none,0,by rw [h0],by omega,by simp [maxLen]⟩
 ·exact ⟨_,cap,hv,h1,h2⟩
theorem OwnB.bs (h:OwnB w base v l):Bs w (base<=·) v l:=by
 obtain ⟨A,c,rfl,h1,h2⟩:=h.form
 exact ⟨A,c,rfl,h1,h2,Rd.of_own h⟩
theorem OwnB.keep (h:OwnB w base v l) (hk:∀g,v.ownBlock=some g->w'.heap[g]?=w.heap[g]?):OwnB w' base v l:=ownsRow_keep h hk
theorem OwnB.lt (h:OwnB w base v l):∀g,v.ownBlock=some g->base<=g∧g<w.heap.size:=World.ownsRow.lt h
theorem OwnB.fr {T:Nat->Prop} (h:OwnB w base v l) (hg:Fr T w w') (hne:∀g,v.ownBlock=some g->¬T g):OwnB w' base v l :=
 h.keep fun g e=>hg.block g (h.lt g e).2 (hne g e)
theorem OwnB.below {B:Nat} (h:OwnB w base v l) (hb:Below B w w') (hB:w.heap.size<=B):OwnB w' base v l :=
 h.keep fun g e=>hb.block g (by have:=(h.lt g e).2;omega)
theorem OwnB.alloc (h:OwnB w base v l) (o:Obj):OwnB (w.alloc o) base v l:=World.ownsRow.alloc h o
end

theorem app_b {w:World} {ops:Array Oper} {rest:List Oper} {o:Oper} {a:Act} {Q:Exit->Act->World->Prop} (hgd:o.guard=none) (s x:Operand)
  (ho:o.op=.call { callee:=.builtin .append,args:=#[s,x],argTypes:=#[23,23] })
  (base:Nat) (v:Value) (l:List UInt8) (hs:a.eval s=v) (hown:OwnB w base v l)
  (S:Nat->Prop) (A:Option Addr) (m c:Nat) (r:List UInt8) (hx:a.eval x=.slice A m c) (hr:Rd w S 1 A m (r.map u8v))
  (hlen:l.length+m<=1099511627776) (hbase:base<=w.heap.size)
  (h:∀v' w',OwnB w' base v' (l++r)->w.grownBy w' v.ownBlock->(v'.ownBlock=v.ownBlock∨v'.ownBlock=some w.heap.size)->wpList Tryz.prog ops Q rest (a.put o.dst v') w') :
  wpList Tryz.prog ops Q (o::rest) a w:=by
 obtain ⟨i0,hi,hz0,hz1,hz2⟩:=info_parts info_u8
 refine wpList_plain hgd fun _ hK=>wp_app w s x _ ho base _ i0 _ 1 1 Tryz.underlying23 hi hz0 hz1 hz2 rfl (by omega) v l.length _ hs hown S A m c (r.map u8v) hx hr (one_u8 r) (by simp only [maxLen];omega) (by omega) hbase fun v' w' h2 h3 h4=>hK _ _ (h v' w' ?_ h3 h4)
 have hm:r.length=m:=by simpa using hr.1
 subst hm
 unfold OwnB
 simpa using h2

theorem Rd.one {w:World} (b:UInt8) (t:TypeId):Rd (w.alloc (.cells #[.int .u8 (b.toNat:Int)] t)) (w.heap.size<=·) 1 (some ⟨w.heap.size,0,none⟩) 1 ([b].map u8v):=by
 refine ⟨rfl,fun _=>⟨_,0,rfl,⟨by simp,Nat.le_refl _⟩,fun j u hu=>?_⟩⟩
 rw [cell_of_row _ _ _ _ _ _ (heap_alloc_new w _)]
 rcases j with _|j
 ·simpa using hu
 ·simp at hu

def RetB (w:World) (l:List UInt8) (e:Ending) (w':World):Prop:=∃v,e=.returned v∧OwnB w' w.heap.size v l∧Below w.heap.size w w'
def RetBool (w:World) (b:Bool) (e:Ending) (w':World):Prop:=e=.returned (.bool b)∧∃k,w'=w.drewN k

def marks (k:Nat):List UInt8:=(List.range k).map fun i=>UInt8.ofNat (201+7*i)
theorem marks_succ (k:Nat):marks (k+1)=marks k++[UInt8.ofNat (201+7*k)]:=by simp [marks,List.range_succ]
theorem marks_len (k:Nat):(marks k).length=k:=by simp [marks]

theorem Rd.blen {w:World} {S:Nat->Prop} {A:Option Addr} {n:Nat} {l:List UInt8} (h:Rd w S 1 A n (l.map u8v)):l.length=n:=by simpa using h.1

end Go.Proofs.YtjjodibkmeefpaaGreatDoor.Old

namespace Go.Proofs.YtjjodibkmeefpaaGreatDoor.Old
open Go Go.RowKit

section
variable {P:Program} {ops:Array Oper} {Q:Exit->Act->World->Prop} {md:Region.Mode} {S:World->Prop}

def YQ (P:Program) (ops:Array Oper) (S:World->Prop) (o:Oper) (v:Value) (a:Act):Prop:=∀w,S w->YieldsAt P ops w o v a

theorem YQ.wpOp {i:Nat} {o:Oper} {v:Value} {a:Act} (hi:ops[i]?=some o) (hy:YQ P ops S o v a) {K:Act->World->Prop} {w:World} (hS:S w) (h:K (a.put o.dst v) w):wpOp P ops Q i K a w :=
 wpOp_of_stOp (K:=fun a'=>K a' w) (fun _ h=>h) ((hy w hS).stOp hi h)

theorem YQ.of_same {o:Oper} {v:Value} {a a':Act} (hy:YQ P ops S o v a) (he:execOp a'.eval o=execOp a.eval o)
  (hw:Region.wanted o (yielded ops a'.tmps)=Region.wanted o (yielded ops a.tmps)):YQ P ops S o v a':=fun w hS=>(hy w hS).of_same he hw

theorem wpOp_putQ {j:Nat} {oi oj:Oper} {v:Value} (hj:ops[j]?=some oj) (hap:oi.apart ops oj=true)
  (hsi:∀cs b,oi.op≠.select cs b) (hsj:∀cs b,oj.op≠.select cs b)
  (hQ:∀c a w,Q (.panic c) (a.put oi.dst v) w->Q (.panic c) a w) {K:Act->World->Prop} {a:Act} {w:World}
  (hy:YQ P ops S oi v a) (h:Go.wpOp P ops Q j K (a.put oi.dst v) w) :
  Go.wpOp P ops Q j (fun a' w'=>YQ P ops S oi v a'∧K (a'.put oi.dst v) w') a w:=by
 obtain ⟨h1,h2,h3⟩:=Oper.apart_spec hap
 have keep:∀(a:Act),YQ P ops S oi v a->∀u,YQ P ops S oi v (a.put oj.dst u):=fun a hy u =>
  hy.of_same (execOp_put oi hsi a oj.dst u h3) (wanted_put oi a oj.dst u h3)
 have keepD:∀d,YQ P ops S oi v { a with defers:=d::a.defers }:=fun d=>hy.of_same rfl rfl
 unfold Go.wpOp at *
 simp only [hj] at *
 rw [wanted_put oj a oi.dst v h1] at h
 split
 ·rename_i hw
  simp only [hw,if_true] at h
  rcases h with h|⟨hasks,hlets⟩
  case inr=>exact .inr ⟨by unfold Oper.asks at *;rw [execOp_put oj hsj a oi.dst v h1] at hasks;exact hasks,hlets⟩
  refine .inl ?_
  unfold Oper.wp at *
  rw [execOp_put oj hsj a oi.dst v h1] at h
  generalize (execOp a.eval oj).run P w=r at *
  cases r with
  | ok n w' =>
   cases n <;> simp only [Oper.upon] at h ⊢
   case value u=>exact ⟨keep a hy u,by rw [←Act.put_comm a v u h2];exact h⟩
   case skip=>exact ⟨keep a hy _,by rw [←Act.put_comm a v undef h2];exact h⟩
   case defer d =>
    refine ⟨keep _ (keepD d) _,?_⟩
    rw [←Act.put_comm _ v undef h2,←Act.put_defers]
    exact h
   case enter f args =>
    refine Calls.mono h fun e w'' he=>?_
    cases e with
    | returned u=>exact ⟨keep a hy u,by rw [←Act.put_comm a v u h2];exact he⟩
    | panicked c=>exact hQ _ _ _ he
    | outgrown=>exact he
   case row row args=>exact Rows.mono h fun u w'' he=>⟨keep a hy u,by rw [←Act.put_comm a v u h2];exact he⟩
  | halt x w' =>
   cases x <;> simp only [Oper.upon] at h ⊢
   case panic u=>exact hQ _ _ _ h
 ·rename_i hw
  simp only [hw] at h
  exact ⟨keep a hy _,by rw [←Act.put_comm a v undef h2];exact h⟩

def wpAnyG (P:Program) (md:Region.Mode) (ops:Array Oper) (Q:Exit->Act->World->Prop) (S:World->Prop) (z:Nat):Nat->Array Bool->Act->World->Prop
 | 0,listed,a,w=>Region.ready md ops listed=[]∧Q .normal a w
 | fuel+1,listed,a,w =>
  (Region.ready md ops listed=[]->Q .normal a w) ∧
  ∀i∈Region.ready md ops listed,Go.wpOp P ops Q i (fun a' w'=>(i≠z->S w')∧wpAnyG P md ops Q S z fuel (listed.setIfInBounds i true) a' w') a w

theorem wpAny_of_G {z:Nat}:∀(fuel:Nat) (listed:Array Bool) (a:Act) (w:World),wpAnyG P md ops Q S z fuel listed a w->wpAny P md ops Q fuel listed a w
 | 0,_,_,_,h=>h
 | fuel+1,_,_,_,h=>⟨h.1,fun i hi=>wpOp_mono (fun a' w' h'=>wpAny_of_G fuel _ a' w' h'.2) (h.2 i hi)⟩

theorem wpAnyG_first {i z:Nat} {oi:Oper} {v:Value} (hi:ops[i]?=some oi) (hsel:∀(j:Nat) (o:Oper) cs b,ops[j]?=some o->o.op≠.select cs b)
  (hQ:∀c a w,Q (.panic c) (a.put oi.dst v) w->Q (.panic c) a w) (hz:Region.waitsFor md ops z i=true) :
  ∀(fuel:Nat) (listed:Array Bool) (a:Act) (w:World),
   (∀j oj,ops[j]?=some oj->j≠i->listed.getD j true=false->(∀e∈oj.after,Region.binds md e=true->e.on≠i)->oi.apart ops oj=true) ->
   i∈Region.ready md ops listed->YQ P ops S oi v a->S w ->
   wpAnyG P md ops Q S z fuel (listed.setIfInBounds i true) (a.put oi.dst v) w->wpAnyG P md ops Q S z (fuel+1) listed a w:=by
 intro fuel
 induction fuel with
 | zero =>
  intro listed a w _ hr hy hS H
  refine ⟨fun h=>(by rw [h] at hr;cases hr),fun j hj=>?_⟩
  by_cases hji:j=i
  ·subst hji;exact hy.wpOp hi hS ⟨fun _=>hS,H⟩
  ·have:=ready_mono hj hji
   rw [H.1] at this
   cases this
 | succ fuel ih =>
  intro listed a w hfree hr hy hS H
  refine ⟨fun h=>(by rw [h] at hr;cases hr),fun j hj=>?_⟩
  by_cases hji:j=i
  ·subst hji;exact hy.wpOp hi hS ⟨fun _=>hS,H⟩
  ·have h1:=H.2 j (ready_mono hj hji)
   obtain ⟨hjun,oj,hoj,hall⟩:=mem_ready.1 hj
   have hnot:∀e∈oj.after,Region.binds md e=true->e.on≠i:=fun e he hb heq=>by
    have h1:=hall e he hb
    have h0:=(mem_ready.1 hr).1
    rw [heq,getD_both h0] at h1
    cases h1
   have h2:=wpOp_putQ hoj (hfree j oj hoj hji hjun hnot) (fun cs b=>hsel i oi cs b hi) (fun cs b=>hsel j oj cs b hoj) hQ hy h1
   have hfree':∀k ok,ops[k]?=some ok->k≠i->(listed.setIfInBounds j true).getD k true=false ->
     (∀e∈ok.after,Region.binds md e=true->e.on≠i)->oi.apart ops ok=true:=fun k ok hk hki hun hno=>by
    refine hfree k ok hk hki ?_ hno
    by_cases hjk:j=k
    ·subst hjk;exact hjun
    ·rw [getD_set_ne true hjk] at hun;exact hun
   have hjz:j≠z:=by
    rintro rfl
    obtain ⟨oz,hoz,e,he,hb,hon⟩:=Region.waitsFor_spec hz
    obtain rfl:oz=oj:=Option.some.inj (hoz.symm.trans hoj)
    exact hnot e he hb hon
   refine wpOp_mono (fun a' w' h3=>⟨h3.2.1,ih (listed.setIfInBounds j true) a' w' hfree' (ready_mono hr (Ne.symm hji)) h3.1 (h3.2.1 hjz) ?_⟩) h2
   rw [Array.setIfInBounds_comm _ _ hji]
   exact h3.2.2

def wpU (P:Program) (ops:Array Oper) (S:World->Prop) (L:Act->Prop):List Oper->Act->Prop
 | [],a=>L a
 | o::rest,a=>∃v,YQ P ops S o v a∧wpU P ops S L rest (a.put o.dst v)

def dstsB:List Oper->Nat->Bool
 | [],_=>true
 | o::rest,sz=>(match o.dst with|some d=>decide (d<sz) && rest.all (fun p=>decide (p.dst≠some d))|none=>false) && dstsB rest sz

theorem put_size (a:Act) (d:Option Tmp) (v:Value):(a.put d v).tmps.size=a.tmps.size:=by
 cases d <;> simp [Act.put]
theorem put_other (a:Act) {d:Tmp} {e:Option Tmp} (h:e≠some d) (v:Value):(a.put e v).tmps[d]?=a.tmps[d]?:=by
 cases e with
 | none=>rfl
 | some e=>simp only [Act.put];rw [Array.getElem?_setIfInBounds_ne];intro he;exact h (by rw [he])

theorem still_keeps {w:World} {aF:Act} {d:Tmp}:∀(l:List Oper) (a:Act),(∀p∈l,p.dst≠some d)->wpStill P ops w (·=aF) l a->aF.tmps[d]?=a.tmps[d]?
 | [],a,_,h=>by rw [←(show a=aF from h)]
 | o::l,a,hd,h=>by
  have h0:stOp P #[o] w 0 (fun _=>True) a∨True:=.inr trivial
  have hne:=hd o (by simp)
  have hl:∀p∈l,p.dst≠some d:=fun p hp=>hd p (by simp [hp])
  unfold wpStill at h
  split at h
  ·unfold Oper.still at h
   generalize (execOp a.eval o).run P w=r at h
   cases r with
   | ok n w' =>
    cases n <;> simp only [Oper.stillUpon] at h
    case value u=>exact (still_keeps l _ hl h.2).trans (put_other a hne u)
    case skip=>exact (still_keeps l _ hl h.2).trans (put_other a hne _)
    case enter f args=>obtain ⟨_,v,_,h2⟩:=h;exact (still_keeps l _ hl h2).trans (put_other a hne v)
   | halt x w'=>simp only [Oper.stillUpon] at h
  ·exact (still_keeps l _ hl h).trans (put_other a hne _)

theorem still_at {w:World} {L:Act->Prop} {k:Nat} {o:Oper} {l:List Oper} {a:Act} (hk:ops[k]?=some o) (h:wpStill P ops w L (o::l) a):∃v,YieldsAt P ops w o v a∧wpStill P ops w L l (a.put o.dst v):=by
 have hst:stOp P ops w k (wpStill P ops w L l) a:=by unfold stOp;simp only [hk];exact h
 exact yieldsAt_of_stOp hk hst

theorem wpU_of_still {aF:Act} {w0:World} (h0:S w0):∀(l:List Oper) (k:Nat) (a:Act),(∀j,j<l.length->l[j]?=ops[k+j]?)->dstsB l a.tmps.size=true ->
  (∀W,S W->wpStill P ops W (·=aF) l a)->wpU P ops S (·=aF) l a
 | [],_,a,_,_,h=>h w0 h0
 | o::l,k,a,hl,hd,h=>by
  have hk:ops[k]?=some o:=by simpa using (hl 0 (by simp)).symm
  simp only [dstsB,Bool.and_eq_true] at hd
  obtain ⟨hd1,hd2⟩:=hd
  cases hdst:o.dst with
  | none=>rw [hdst] at hd1;cases hd1
  | some d =>
   rw [hdst] at hd1
   simp only [Bool.and_eq_true,decide_eq_true_eq,List.all_eq_true] at hd1
   obtain ⟨hlt,hall⟩:=hd1
   have key:∀W,S W->∀v,wpStill P ops W (·=aF) l (a.put o.dst v)->aF.tmps[d]?=some v:=fun W _ v hv=>by
    rw [still_keeps l _ hall hv,hdst]
    simp [Act.put,hlt]
   obtain ⟨v,hy,hn⟩:=still_at hk (h w0 h0)
   have hv:=key w0 h0 v hn
   refine ⟨v,fun W hS=>?_,wpU_of_still h0 l (k+1) _ (fun j hj=>by have:=hl (j+1) (by simp;omega);simpa [Nat.add_assoc,Nat.add_comm 1 j] using this) (by rw [put_size];exact hd2) (fun W hS=>?_)⟩
   ·obtain ⟨v',hy',hn'⟩:=still_at hk (h W hS)
    have:=key W hS v' hn'
    rw [hv] at this
    obtain rfl:v=v':=Option.some.inj this
    exact hy'
   ·obtain ⟨v',hy',hn'⟩:=still_at hk (h W hS)
    have:=key W hS v' hn'
    rw [hv] at this
    obtain rfl:v=v':=Option.some.inj this
    exact hn'

def headB (md:Region.Mode) (ops:Array Oper) (z:Nat):Nat->Nat->Array Bool->Bool
 | 0,_,_=>true
 | f+1,k,listed=>(Region.ready md ops listed).contains k && Region.free md ops listed k && Region.waitsFor md ops z k && headB md ops z f (k+1) (listed.setIfInBounds k true)
def listedOf:Nat->Nat->Array Bool->Array Bool
 | 0,_,l=>l
 | f+1,k,l=>listedOf f (k+1) (l.setIfInBounds k true)

theorem wpAnyG_head {z g:Nat} {w:World} {aF:Act} (hsel:Region.noSelect ops=true) (hQ:∀c a d v w,Q (.panic c) (Act.put a d v) w->Q (.panic c) a w) (hS:S w) :
  ∀(l:List Oper) (k:Nat) (listed:Array Bool) (a:Act),(∀j,j<l.length->l[j]?=ops[k+j]?)->headB md ops z l.length k listed=true->wpU P ops S (·=aF) l a ->
  wpAnyG P md ops Q S z g (listedOf l.length k listed) aF w->wpAnyG P md ops Q S z (l.length+g) listed a w
 | [],k,listed,a,_,_,hu,h=>by
  rw [show a=aF from hu]
  simpa [listedOf] using h
 | o::l,k,listed,a,hl,hB,hu,h=>by
  have h0:ops[k]?=some o:=by simpa using (hl 0 (by simp)).symm
  simp only [List.length_cons,headB,Bool.and_eq_true] at hB
  obtain ⟨⟨⟨hr,hf⟩,hz⟩,hB'⟩:=hB
  obtain ⟨v,hy,hu'⟩:=hu
  rw [show (o::l).length+g=(l.length+g)+1 by simp;omega]
  exact wpAnyG_first h0 (Region.noSelect_spec hsel) (fun c a w=>hQ c a _ _ w) hz _ listed a w (Region.free_spec h0 hf) (by simpa using hr) hy hS
   (wpAnyG_head hsel hQ hS l (k+1) _ _ (fun j hj=>by have:=hl (j+1) (by simp;omega);simpa [Nat.add_assoc,Nat.add_comm 1 j] using this) hB' hu' h)

def isAlloc (o:Oper):Bool:=match o.op with|.alloc _=>o.guard.isNone|_=>false
def allocB (l:List Oper) (n:Nat):Bool :=
 Region.noSelect l.toArray && decide (l.length=n+2) && headB .any l.toArray (n+1) n 0 (Array.replicate l.length false) &&
 Region.seqB .any l.toArray 2 n (listedOf n 0 (Array.replicate l.length false)) && (match l[n]? with|some o=>isAlloc o|none=>false)

theorem alloc_run (t:TypeId) (w:World):(∃v obj,(Instr.alloc t true (.tuple #[])).run P w=.ok v (w.alloc obj))∨(∃x w',(Instr.alloc t true (.tuple #[])).run P w=.halt x w'):=by
 cases hi:P.info? t with
 | none=>exact .inr (by simp [Instr.alloc,zeroValue,typeInfo,hi])
 | some i =>
  cases hz:i.zero with
  | none=>exact .inr (by simp [Instr.alloc,zeroValue,typeInfo,hi,hz])
  | some z=>exact .inl ⟨_,.cells z.cells t,by simp [Instr.alloc,zeroValue,typeInfo,hi,hz,go_sem];rfl⟩

theorem alloc_wp {o:Oper} (ho:isAlloc o=true) {a:Act} {w:World} {K:Act->World->Prop} (h:o.wp P a w K Q):o.wp P a w (fun a' w'=>(∃obj,w'=w.alloc obj)∧K a' w') Q:=by
 obtain ⟨t,ht⟩:∃t,o.op=.alloc t:=by
  unfold isAlloc at ho
  split at ho
  ·exact ⟨_,by assumption⟩
  ·cases ho
 unfold Oper.wp execOp at *
 simp only [ht] at *
 rcases alloc_run (P:=P) t w with ⟨v,obj,hr⟩|⟨x,w',hr⟩
 ·simp only [Sem.run_bind,hr,Result.andThen_ok,Sem.run_pure,Oper.upon] at h ⊢
  exact ⟨⟨_,rfl⟩,h⟩
 ·simp only [Sem.run_bind,hr] at h ⊢
  cases x <;> simp only [Result.andThen,Oper.upon] at h ⊢
  all_goals exact h

theorem region_alloc {id:Nat} {a:Act} {w:World} {l:List Oper} (n:Nat) (S:World->Prop) (aF:Act) (hm:P.follows .mixedOrders=true) (hB:allocB l n=true) (hd:dstsB (l.take n) a.tmps.size=true)
  (hQ:∀c a d v w,Q (.panic c) (Act.put a d v) w->Q (.panic c) a w) (hS:S w.drew) (hS2:∀obj,S (w.drew.alloc obj))
  (hu:∀W,S W->wpStill P l.toArray W (·=aF) (l.take n) a) (h:wpList P l.toArray Q (l.drop n) aF w.drew):(Code.region id l.toArray true).wp P Q a w:=by
 simp only [allocB,Bool.and_eq_true,decide_eq_true_eq] at hB
 obtain ⟨⟨⟨⟨hsel,hlen⟩,hhd⟩,hsq⟩,hal⟩:=hB
 have htl:(l.take n).length=n:=by simp;omega
 refine wp_region_any hm (wpAny_of_G (S:=S) (z:=n+1) _ _ _ _ ?_)
 have hU:=wpU_of_still (P:=P) (ops:=l.toArray) (w0:=w.drew) hS (l.take n) 0 a (fun j hj=>by
  have hj':j<n:=by rw [htl] at hj;exact hj
  simp [hj']) hd hu
 have:=wpAnyG_head (P:=P) (ops:=l.toArray) (md:=.any) (Q:=Q) (S:=S) (z:=n+1) (g:=2) (w:=w.drew) (aF:=aF) hsel hQ hS (l.take n) 0 (Array.replicate l.length false) a (fun j hj=>by
  have hj':j<n:=by rw [htl] at hj;exact hj
  simp [hj']) (by rw [htl];exact hhd) hU
 rw [htl] at this
 have e:l.toArray.size=n+2:=by simp;omega
 rw [show Array.replicate l.toArray.size false=Array.replicate l.length false by simp,e]
 refine this ?_
 clear this hU hu hd
 -- the tail
 obtain ⟨oa,ha⟩:∃o,l[n]?=some o:=⟨l[n],List.getElem?_eq_getElem (by omega)⟩
 obtain ⟨oz,hz⟩:∃o,l[n+1]?=some o:=⟨l[n+1],List.getElem?_eq_getElem (by omega)⟩
 rw [ha] at hal
 have hdrop:l.drop n=[oa,oz]:=by
  apply List.ext_getElem?
  intro j
  rw [List.getElem?_drop]
  rcases j with _|_|j
  ·simpa using ha
  ·simpa using hz
  ·simp;omega
 rw [hdrop] at h
 simp only [Region.seqB,Bool.and_eq_true,decide_eq_true_eq] at hsq
 obtain ⟨hr1,hr2,hr3⟩:=hsq
 refine ⟨fun h0=>(by rw [hr1] at h0;cases h0),fun i hi=>?_⟩
 rw [hr1] at hi
 obtain rfl:i=n:=by simpa using hi
 have ha':l.toArray[i]?=some oa:=by simpa using ha
 have hz':l.toArray[i+1]?=some oz:=by simpa using hz
 have hg:oa.guard=none:=by
  simp only [isAlloc] at hal
  split at hal
  ·simpa using hal
  ·cases hal
 have hwant:Region.wanted oa (yielded l.toArray aF.tmps)=true:=by simp [Region.wanted,hg]
 have h1:oa.wp P aF w.drew (wpList P l.toArray Q [oz]) Q∨(oa.asks P aF w.drew∧LetsOut Q):=by
  have h':=h
  unfold wpList at h'
  simpa [hwant] using h'
 unfold Go.wpOp
 simp only [ha',hwant,if_true]
 rcases h1 with h1|h1
 case inr=>exact .inr h1
 refine .inl ?_
 have h2:=alloc_wp hal h1
 refine Oper.wp_mono ?_ h2
 rintro a' w' ⟨⟨obj,rfl⟩,hK⟩
 refine ⟨fun _=>hS2 obj,fun h0=>(by rw [hr2] at h0;cases h0),fun i' hi'=>?_⟩
 rw [hr2] at hi'
 obtain rfl:i'=i+1:=by simpa using hi'
 have hw:Go.wpOp P l.toArray Q (i+1) (wpList P l.toArray Q []) a' (w.drew.alloc obj):=by
  unfold Go.wpOp
  simp only [hz']
  exact hK
 exact wpOp_mono (fun a'' w'' hq=>⟨fun hne=>absurd rfl hne,by simpa using hr3,hq⟩) hw

def NoP (Q:Exit->Act->World->Prop) (e:Exit) (a:Act) (w:World):Prop:=(∀c,e≠.panic c)∧Q e a w
theorem NoP.normal {a:Act} {w:World} (h:Q .normal a w):NoP Q .normal a w:=⟨fun _ h=>(by cases h),h⟩
theorem region_allocN {id:Nat} {a:Act} {w:World} {l:List Oper} (n:Nat) (S:World->Prop) (aF:Act) (hm:P.follows .mixedOrders=true) (hB:allocB l n=true) (hd:dstsB (l.take n) a.tmps.size=true)
  (hS:S w.drew) (hS2:∀obj,S (w.drew.alloc obj))
  (hu:∀W,S W->wpStill P l.toArray W (·=aF) (l.take n) a) (h:wpList P l.toArray (NoP Q) (l.drop n) aF w.drew):(Code.region id l.toArray true).wp P Q a w :=
 Code.wp_mono (fun _ _ _ h=>h.2) (region_alloc (Q:=NoP Q) n S aF hm hB hd (fun c _ _ _ _ h=>absurd rfl (h.1 c)) hS hS2 hu h)
end
end Go.Proofs.YtjjodibkmeefpaaGreatDoor.Old

namespace Go.Proofs.YtjjodibkmeefpaaGreatDoor.Old
open Go Go.RowKit

def ror (x:UInt32) (n:Nat):UInt32:=UInt32.ofNat ((x.toNat / 2 ^ n) ||| (x.toNat*2 ^ (32 - n) % 4294967296))
def le32 (a b c d:UInt8):UInt32:=UInt32.ofNat (a.toNat+256*b.toNat+65536*c.toNat+16777216*d.toNat)

theorem u32_lt (x:UInt32):x.toNat<4294967296:=x.toNat_lt
theorem u8_lt (x:UInt8):x.toNat<256:=x.toNat_lt

theorem or_lt32 {a b:Nat} (ha:a<4294967296) (hb:b<4294967296):a ||| b<4294967296:=Nat.or_lt_two_pow (n:=32) ha hb

theorem ror_toNat (x:UInt32) (n:Nat):(ror x n).toNat=(x.toNat / 2 ^ n) ||| (x.toNat*2 ^ (32 - n) % 4294967296):=by
 unfold ror
 rw [UInt32.toNat_ofNat']
 refine Nat.mod_eq_of_lt (or_lt32 ?_ (Nat.mod_lt _ (by omega)))
 exact Nat.lt_of_le_of_lt (Nat.div_le_self _ _) (u32_lt x)

theorem or_ror (x:UInt32) (n:Nat) {a b:Int} (ha:a=((x.toNat / 2 ^ n:Nat):Int)) (hb:b=((x.toNat*2 ^ (32 - n) % 4294967296:Nat):Int)) :
  bits .or .u32 a b=((ror x n).toNat:Int):=by
 subst ha hb
 rw [u32_or_nat,ror_toNat]
 ·exact Nat.lt_of_le_of_lt (Nat.div_le_self _ _) (u32_lt x)
 ·exact Nat.mod_lt _ (by omega)
theorem or_ror' (x:UInt32) (n:Nat) {a b:Int} (ha:a=((x.toNat / 2 ^ n:Nat):Int)) (hb:b=((x.toNat*2 ^ (32 - n) % 4294967296:Nat):Int)) :
  bits .or .u32 b a=((ror x n).toNat:Int):=by
 subst ha hb
 rw [u32_or_nat,ror_toNat,Nat.or_comm]
 ·exact Nat.mod_lt _ (by omega)
 ·exact Nat.lt_of_le_of_lt (Nat.div_le_self _ _) (u32_lt x)

def add32 (x y:UInt32):UInt32:=x+y
def xor32 (x y:UInt32):UInt32:=x ^^^ y
def or32 (x y:UInt32):UInt32:=x ||| y
def not32 (x:UInt32):UInt32 := ~~~ x
section
variable (t:TypeId) (x y:UInt32)
theorem bop_add32:binOp .add t (.int .u32 (x.toNat:Int)) (.int .u32 (y.toNat:Int))=pure (.int .u32 ((add32 x y).toNat:Int)):=by
 have e:IntKind.u32.wrap ((x.toNat:Int)+(y.toNat:Int))=((add32 x y).toNat:Int):=by
  rw [IntKind.wrap_u32',add32,UInt32.toNat_add];simp
 simp [binOp,Op.intArith,e]
theorem bop_xor32:binOp .xor t (.int .u32 (x.toNat:Int)) (.int .u32 (y.toNat:Int))=pure (.int .u32 ((xor32 x y).toNat:Int)):=by
 have e:bits .xor .u32 (x.toNat:Int) (y.toNat:Int)=((xor32 x y).toNat:Int):=by
  rw [xor32,u32_xor_nat _ _ (u32_lt x) (u32_lt y),UInt32.toNat_xor]
 show Op.intBits .xor .u32 _ _=_
 rw [intBits_xor,e]
theorem bop_or32:binOp .or t (.int .u32 (x.toNat:Int)) (.int .u32 (y.toNat:Int))=pure (.int .u32 ((or32 x y).toNat:Int)):=by
 have e:bits .or .u32 (x.toNat:Int) (y.toNat:Int)=((or32 x y).toNat:Int):=by
  rw [or32,u32_or_nat _ _ (u32_lt x) (u32_lt y),UInt32.toNat_or]
 show Op.intBits .or .u32 _ _=_
 rw [intBits_or,e]
theorem uop_not32:Op.unary .xor (.int .u32 (x.toNat:Int))=pure (.int .u32 ((not32 x).toNat:Int)):=by
 have e:bits .xor .u32 (4294967295:Int) (x.toNat:Int)=((not32 x).toNat:Int):=by
  rw [not32,show (4294967295:Int)=(((4294967295:UInt32).toNat:Nat):Int) from rfl,u32_xor_nat _ _ (u32_lt _) (u32_lt x),←UInt32.toNat_xor]
  exact congrArg (fun z:UInt32=>(z.toNat:Int)) (UInt32.toBitVec_inj.1 (by simp [←BitVec.allOnes_xor]))
 show Op.intBits .xor .u32 _ _=_
 rw [intBits_xor]
 show pure (Value.int .u32 (bits .xor .u32 (4294967295:Int) (x.toNat:Int)))=_
 rw [e]
end
end Go.Proofs.YtjjodibkmeefpaaGreatDoor.Old

namespace Go.Proofs.YtjjodibkmeefpaaGreatDoor.Old
open Go Go.RowKit

theorem zeroCells_u8 (k:Nat):Builtin.zeroCells (Value.int .u8 0).cells k=((List.replicate k (0:UInt8)).map u8v).toArray:=by
 apply Array.ext
 ·simp [Builtin.zeroCells,Value.cells]
 ·intro i h1 h2
  simp [Builtin.zeroCells,Value.cells,Nat.mod_one]

theorem run_zeros (w:World) (base:Nat) (kq:IntKind) (ty:TypeId) (v:Value) (l:List UInt8) (hown:OwnB w base v l) (k:Nat) (h0:0<k) (hn:0<l.length)
  (hlen:l.length+k<=1099511627776) (hbase:base<=w.heap.size) :
  ∃v' w',(Builtin.append_ #[23,3] ty #[v,.int kq k]).run Tryz.prog w=.ok v' w'∧OwnB w' base v' (l++List.replicate k 0)∧w.grownBy w' v.ownBlock∧(v'.ownBlock=v.ownBlock∨v'.ownBlock=some w.heap.size):=by
 obtain ⟨i,hi,hz,hs1,hb1⟩:=info_parts info_u8
 have hw:IntKind.i64.wrap (k:Int)=k:=by rw [IntKind.wrap_i64];omega
 have hneg:¬((k:Int)<0):=by omega
 rcases hown.2 with ⟨_,h1⟩|⟨g,cap,cur,rfl,hbg,hg,hnc,hcm,hcs,htake⟩
 ·omega
 have hlenl:(l++List.replicate k 0).length=l.length+k:=by simp
 by_cases hroom:l.length+k<=cap
 ·have hst:=run_storeCells_at (P:=Tryz.prog) g l.length 5 ((List.replicate k (0:UInt8)).map u8v) 0 cur w hg (by simp;omega) (one_u8 _)
  have hadd:(⟨g,0,none⟩:Addr).add l.length=⟨g,l.length,none⟩:=by unfold Addr.add;split <;> simp_all
  refine ⟨.slice (some ⟨g,0,none⟩) (l.length+k) cap,w.setRow g (cur.toList.take l.length++(List.replicate k (0:UInt8)).map u8v++cur.toList.drop (l.length+k)).toArray,?_,?_,?_,.inl rfl⟩
  ·have hk0:k≠0:=by omega
   have h48:¬(281474976710656<(k:Int)):=by omega
   have hst':Sem.run Tryz.prog (storeCells ⟨g,l.length,none⟩ ((List.replicate k (0:UInt8)).map u8v)) w=.ok () (w.setRow g (cur.toList.take l.length++(List.replicate k (0:UInt8)).map u8v++cur.toList.drop (l.length+k)).toArray):=by simpa using hst
   have hst2:=hst'
   simp only [List.map_replicate] at hst2
   simp [Builtin.append_,run_underlying Tryz.underlying23,run_underlying Tryz.underlying3,sizeOf,typeInfo,zeroValue,hi,hz,hs1,hb1,asInt,asIntOf,hw,hneg,hk0,h48,hroom,zeroCells_u8,hadd,hst2]
  ·refine ⟨by simp,.inr ⟨g,cap,_,by rw [hlenl],hbg,setRow_heap w g cur _ _ _ hg,by omega,hcm,?_,?_⟩⟩
   ·simp;omega
   ·rw [Nat.mul_one] at htake
    rw [htake,hlenl,Nat.mul_one,List.take_append_of_le_length (by simp),←List.map_append]
    exact List.take_of_length_le (by simp)
  ·exact ⟨rfl,rfl,rfl,by simp,fun j _ hj=>setRow_other w g j _ (fun e=>hj (by simp [Value.ownBlock,e]))⟩
 ·have holds:∀j u,(l.map u8v)[j]?=some u->w.cell? ((⟨g,0,none⟩:Addr).add j)=some u:=World.ownsRow.cells hown (g:=g) rfl
  have hr:=Lib.run_append_grow_zeros (P:=Tryz.prog) w 23 3 ty 5 i (.int .u8 0) kq .i64 Tryz.underlying23 Tryz.underlying3 hi hz (some ⟨g,0,none⟩) l.length cap (l.map u8v)
   (by have:=run_firstCells_some (P:=Tryz.prog) (w:=w.drew) i.size l.length ⟨g,0,none⟩ l.length cap (l.map u8v) (by rw [hs1];simp) holds;exact this) k h0 (by omega) (by omega) (by omega) (by rw [hb1];omega)
   (by rw [hb1];exact growslice_fits (by omega) (by omega))
  have hge:=grownCap_ge w (l.length+k) cap 5
  have hcm':=grownCap_le_maxLen w (l.length+k) cap 5 (by simp only [maxLen];omega)
  refine ⟨_,_,hr,?_,⟨rfl,rfl,rfl,by simp,fun j hj _=>heap_alloc_old w.drew _ hj⟩,.inr rfl⟩
  refine ⟨by simp,.inr ⟨w.heap.size,_,_,by rw [hlenl],hbase,heap_alloc_new w.drew _,by omega,hcm',?_,?_⟩⟩
  ·rw [zeroCells_u8,zeroCells_u8];simp;omega
  ·have e:((l.map u8v).toArray++((List.replicate k (0:UInt8)).map u8v).toArray++((List.replicate (grownCap w (l.length+k) cap 5 - (l.length+k)) (0:UInt8)).map u8v).toArray).toList=(l++List.replicate k 0).map u8v++(List.replicate (grownCap w (l.length+k) cap 5 - (l.length+k)) (0:UInt8)).map u8v:=by simp
   have e2:(l++List.replicate k 0).length*1=((l++List.replicate k 0).map u8v).length:=by simp
   rw [zeroCells_u8,zeroCells_u8,e,e2]
   exact List.take_left

theorem app_zeros {w:World} {ops:Array Oper} {rest:List Oper} {o:Oper} {a:Act} {Q:Exit->Act->World->Prop} (hgd:o.guard=none) (s x:Operand)
  (ho:o.op=.call { callee:=.builtin .append,args:=#[s,x],argTypes:=#[23,3] })
  (base:Nat) (v:Value) (l:List UInt8) (hs:a.eval s=v) (hown:OwnB w base v l) (kq:IntKind) (z:Int) (k:Nat) (hz:z=k) (hx:a.eval x=.int kq z) (h0:0<k) (hn:0<l.length)
  (hlen:l.length+k<=1099511627776) (hbase:base<=w.heap.size)
  (h:∀v' w',OwnB w' base v' (l++List.replicate k 0)->w.grownBy w' v.ownBlock->(v'.ownBlock=v.ownBlock∨v'.ownBlock=some w.heap.size)->wpList Tryz.prog ops Q rest (a.put o.dst v') w') :
  wpList Tryz.prog ops Q (o::rest) a w:=by
 subst hz
 refine wpList_plain hgd fun K hK=>?_
 obtain ⟨v',w',hr,h2,h3,h4⟩:=run_zeros w base kq o.type v l hown k h0 hn hlen hbase
 unfold Oper.wp execOp
 simp only [ho,resolve,invoke,builtin,Sem.run_bind,Sem.run_pure,Result.andThen_ok,List.map_toArray,List.map_cons,List.map_nil,hs,hx,hr]
 exact hK _ _ (h v' w' h2 h3 h4)
end Go.Proofs.YtjjodibkmeefpaaGreatDoor.Old

namespace Go.Proofs.YtjjodibkmeefpaaGreatDoor.Old
open Go Go.RowKit

namespace Bl
def h1 (s:List UInt32) (a b:Nat) (x:UInt32):List UInt32:=s.set a (add32 (s.getD a 0) (add32 (s.getD b 0) x))
def h2 (s:List UInt32) (d a:Nat) (r:Nat):List UInt32:=s.set d (ror (xor32 (s.getD d 0) (s.getD a 0)) r)
def h3 (s:List UInt32) (c d:Nat):List UInt32:=s.set c (add32 (s.getD c 0) (s.getD d 0))
def half (s:List UInt32) (a b c d:Nat) (x:UInt32) (r q:Nat):List UInt32:=h2 (h3 (h2 (h1 s a b x) d a r) c d) b c q
def stir (s:List UInt32) (a b c d:Nat) (x y:UInt32):List UInt32:=half (half s a b c d x 16 12) a b c d y 8 7
def kstir (s m:List UInt32) (o:List Nat) (k:Nat):List UInt32 :=
 stir s (k % 4) (4+(k % 4+k / 4) % 4) (8+(k % 4+2*(k / 4)) % 4) (12+(k % 4+3*(k / 4)) % 4) (m.getD (o.getD (2*k) 0) 0) (m.getD (o.getD (2*k+1) 0) 0)
def round (s m:List UInt32) (o:List Nat):Nat->List UInt32
 | 0=>s
 | k+1=>kstir (round s m o k) m o k
def orders:List (List Nat):=[
 [0,1,2,3,4,5,6,7,8,9,10,11,12,13,14,15],
 [14,10,4,8,9,15,13,6,1,12,0,2,11,7,5,3],
 [11,8,12,0,5,2,15,13,10,14,3,6,7,1,9,4],
 [7,9,3,1,13,12,11,14,2,6,5,10,4,0,15,8],
 [9,0,5,7,2,4,10,15,14,1,11,12,6,8,3,13],
 [2,12,6,10,0,11,8,3,4,13,7,5,15,14,1,9],
 [12,5,1,15,14,13,4,10,0,7,6,3,9,2,8,11],
 [13,11,7,14,12,1,3,9,5,0,15,4,8,6,2,10],
 [6,15,14,9,11,3,0,8,12,2,13,7,1,4,10,5],
 [10,2,8,4,7,6,1,5,15,11,9,14,3,12,13,0]]
def rounds (s m:List UInt32):Nat->List UInt32
 | 0=>s
 | k+1=>round (rounds s m k) m (orders.getD k []) 8
def begins:List UInt32:=[0x6A09E667,0xBB67AE85,0x3C6EF372,0xA54FF53A,0x510E527F,0x9B05688C,0x1F83D9AB,0x5BE0CD19]
def wordAt (b:List UInt8) (i:Nat):UInt32:=le32 (b.getD (4*i) 0) (b.getD (4*i+1) 0) (b.getD (4*i+2) 0) (b.getD (4*i+3) 0)
def words (b:List UInt8) (n:Nat):List UInt32:=(List.range n).map (wordAt b)
def start (h:List UInt32) (count:Nat) (last:Bool):List UInt32 :=
 let s:=h++begins
 let s:=s.set 12 (xor32 (s.getD 12 0) (UInt32.ofNat count))
 let s:=s.set 13 (xor32 (s.getD 13 0) (UInt32.ofNat (count / 4294967296)))
 if last then s.set 14 (not32 (s.getD 14 0)) else s
def fin (h s:List UInt32) (k:Nat):List UInt32:=(List.range k).map fun i=>xor32 (h.getD i 0) (xor32 (s.getD i 0) (s.getD (i+8) 0))
def press (h:List UInt32) (b:List UInt8) (count:Nat) (last:Bool):List UInt32:=fin h (rounds (start h count last) (words b 16) 10) 8
def piece (t:List UInt8):List UInt8:=t.take 64++List.replicate (64 - t.length) 0
def absorb:Nat->List UInt32->List UInt8->Nat->List UInt32
 | 0,h,_,_=>h
 | f+1,h,t,c =>
  let c':=c+min 64 t.length
  let h':=press h (piece t) c' (decide (t.length<=64))
  if t.length<=64 then h' else absorb f h' (t.drop 64) c'
def begun (k:Nat):List UInt32:=begins.set 0 (xor32 (begins.getD 0 0) (xor32 (xor32 0x01010000 (UInt32.ofNat (256*k))) 32))
def text (key b:List UInt8):List UInt8:=if key.length=0 then b else key++List.replicate (64 - key.length) 0++b
def out (h:List UInt32) (k:Nat):List UInt8:=(List.range k).map fun i=>UInt8.ofNat ((h.getD (i / 4) 0).toNat / 2 ^ (8*(i % 4)))
def keyed32 (key b:List UInt8):List UInt8 :=
 let t:=text key b
 out (absorb (t.length+1) (begun key.length) t 0) 32
def sum (b:List UInt8):List UInt8:=keyed32 [] b
def keyed (key b:List UInt8):List UInt8:=if key.length<=32 then keyed32 key b else keyed32 (sum key) b
def tagged (tag b:List UInt8):List UInt8:=sum (sum tag++b)

theorem len_h1 (s a b x):(h1 s a b x).length=s.length:=by simp [h1]
theorem len_h2 (s d a r):(h2 s d a r).length=s.length:=by simp [h2]
theorem len_h3 (s c d):(h3 s c d).length=s.length:=by simp [h3]
theorem len_half (s a b c d x r q):(half s a b c d x r q).length=s.length:=by simp [half,len_h1,len_h2,len_h3]
theorem len_stir (s a b c d x y):(stir s a b c d x y).length=s.length:=by simp [stir,len_half]
theorem len_kstir (s m o k):(kstir s m o k).length=s.length:=by simp [kstir,len_stir]
theorem len_round (s m o):∀k,(round s m o k).length=s.length
 | 0=>rfl
 | k+1=>by simp [round,len_kstir,len_round s m o k]
theorem len_rounds (s m):∀k,(rounds s m k).length=s.length
 | 0=>rfl
 | k+1=>by simp [rounds,len_round,len_rounds s m k]
theorem len_fin (h s k):(fin h s k).length=k:=by simp [fin]
theorem len_out (h k):(out h k).length=k:=by simp [out]
theorem len_keyed32 (key b):(keyed32 key b).length=32:=by simp [keyed32,len_out]
theorem len_sum (b):(sum b).length=32:=len_keyed32 _ _
theorem len_tagged (t b):(tagged t b).length=32:=len_sum _
end Bl

example :Bl.sum [97,98,99]=[0x50,0x8C,0x5E,0x8C,0x32,0x7C,0x14,0xE2,0xE1,0xA7,0x2B,0xA3,0x4E,0xEB,0x45,0x2F,0x37,0x45,0x8B,0x20,0x9E,0xD6,0x3A,0x29,0x4D,0x99,0x9B,0x4C,0x86,0x67,0x59,0x82]:=by decide +kernel

def W32 (w:World) (g:Nat) (t:TypeId) (s:List UInt32):Prop:=w.heap[g]?=some (.cells (s.map u32v).toArray t (0,0))
section
variable {w w':World} {g:Nat} {t:TypeId} {s:List UInt32}
theorem W32.lt (h:W32 w g t s):g<w.heap.size:=(Array.getElem?_eq_some_iff.1 h).1
theorem W32.cell (h:W32 w g t s) {i:Nat} (hi:i<s.length):w.cell? ⟨g,i,none⟩=some (.int .u32 ((s.getD i 0).toNat:Int)):=by
 rw [cell_of_row w g i _ t (0,0) h]
 simp [hi]
theorem W32.frozen (h:W32 w g t s) (i:Nat):w.frozen? ⟨g,i,none⟩=false:=frozen_of_row w g i _ t h
theorem W32.get (h:W32 w g t s) {i:Nat} (hi:i<s.length):∃x,Hid (s.getD i 0=x)∧w.cell? ⟨g,i,none⟩=some (.int .u32 (x.toNat:Int))∧w.frozen? ⟨g,i,none⟩=false :=
 ⟨_,rfl,h.cell hi,h.frozen i⟩
theorem W32.set (h:W32 w g t s) (i:Nat) (x:UInt32):W32 (w.setCell ⟨g,i,none⟩ (.int .u32 (x.toNat:Int))) g t (s.set i x):=by
 unfold W32 at h ⊢
 rw [heap_setCell_same w g i _ t _ h,List.map_set]
 simp
theorem W32.keep (h:W32 w g t s) (hk:w'.heap[g]?=w.heap[g]?):W32 w' g t s:=hk.trans h
theorem W32.fr {T:Nat->Prop} (h:W32 w g t s) (hf:Fr T w w') (ht:¬T g):W32 w' g t s:=(hf.block g h.lt ht).trans h
end
theorem Fr.setCell {w:World} {T:Nat->Prop} {p:Addr} (v:Value) (h:T p.block):Fr T w (w.setCell p v) :=
 ⟨rfl,rfl,rfl,by simp [World.setCell],fun k _ hn=>Below.heap_setCell _ _ _ _ (fun e=>hn (e ▸ h))⟩
theorem Fr.alloc {w:World} {T:Nat->Prop} (o:Obj):Fr T w (w.alloc o):=⟨rfl,rfl,rfl,by simp,fun _ hk _=>heap_alloc_old w o hk⟩
theorem Fr.drew {w w':World} {T:Nat->Prop} (h:Fr T w w'):Fr T w w'.drew:=⟨h.os,h.tape,h.output,h.size,h.block⟩
end Go.Proofs.YtjjodibkmeefpaaGreatDoor.Old

namespace Go.Proofs.YtjjodibkmeefpaaGreatDoor.Old
open Go Go.RowKit
attribute [local go_sem high] bop_add32 bop_xor32 bop_or32 uop_not32

theorem rot16 (x:UInt32) (w:World) :
  Calls Tryz.prog 105 #[.int .u32 (x.toNat:Int),.int .i64 (-16)] w fun e w'=>e=.returned (.int .u32 ((ror x 16).toNat:Int))∧w'=w:=by
 have hk:bits .and .u64 (IntKind.u64.wrap (-16)) 31=16:=by decide +kernel
 go_enter Tryz.func105,Tryz.ntmps105
 go_wp2
 go_ret
 exact ⟨ret_int (or_ror' x 16 (by simp) (by simp)),rfl⟩
theorem rot12 (x:UInt32) (w:World) :
  Calls Tryz.prog 105 #[.int .u32 (x.toNat:Int),.int .i64 (-12)] w fun e w'=>e=.returned (.int .u32 ((ror x 12).toNat:Int))∧w'=w:=by
 have hk:bits .and .u64 (IntKind.u64.wrap (-12)) 31=20:=by decide +kernel
 go_enter Tryz.func105,Tryz.ntmps105
 go_wp2
 go_ret
 exact ⟨ret_int (or_ror' x 12 (by simp) (by simp)),rfl⟩
theorem rot8 (x:UInt32) (w:World) :
  Calls Tryz.prog 105 #[.int .u32 (x.toNat:Int),.int .i64 (-8)] w fun e w'=>e=.returned (.int .u32 ((ror x 8).toNat:Int))∧w'=w:=by
 have hk:bits .and .u64 (IntKind.u64.wrap (-8)) 31=24:=by decide +kernel
 go_enter Tryz.func105,Tryz.ntmps105
 go_wp2
 go_ret
 exact ⟨ret_int (or_ror' x 8 (by simp) (by simp)),rfl⟩
theorem rot7 (x:UInt32) (w:World) :
  Calls Tryz.prog 105 #[.int .u32 (x.toNat:Int),.int .i64 (-7)] w fun e w'=>e=.returned (.int .u32 ((ror x 7).toNat:Int))∧w'=w:=by
 have hk:bits .and .u64 (IntKind.u64.wrap (-7)) 31=25:=by decide +kernel
 go_enter Tryz.func105,Tryz.ntmps105
 go_wp2
 go_ret
 exact ⟨ret_int (or_ror' x 7 (by simp) (by simp)),rfl⟩

def stk (s:List UInt32) (a b c d:Nat) (x y:UInt32):Nat->List UInt32
 | 0=>s
 | 1=>Bl.half s a b c d x 16 12
 | _=>Bl.stir s a b c d x y
theorem stk_len (s a b c d x y k):(stk s a b c d x y k).length=s.length:=by
 unfold stk;split <;> simp [Bl.len_half,Bl.len_stir]

theorem adv {w wr:World} {g r:Nat} {t:TypeId} {s:List UInt32} {X:Obj} (hW:W32 wr g t s) (hT:wr.heap[r]?=some X) (hF:Fr (·=g) w wr) (hr:r≠g) (i:Nat) (x:UInt32) {s':List UInt32} (e:s'=s.set i x) :
  ∃w1,(wr.setCell ⟨g,i,none⟩ (.int .u32 (x.toNat:Int))).drew=w1∧W32 w1 g t s'∧w1.heap[r]?=some X∧Fr (·=g) w w1:=by
 subst e
 refine ⟨_,rfl,hW.set i x,?_,(hF.trans (Fr.setCell (T:=(·=g)) _ rfl) (fun _ _ h=>h)).drew⟩
 exact (Below.heap_setCell wr ⟨g,i,none⟩ _ r hr).trans hT

set_option maxRecDepth 100000 in
set_option maxHeartbeats 4000000 in
theorem stir_any (g:Nat) (t:TypeId) (a b c d:Nat) (x y:UInt32) (s:List UInt32) (w:World) (h:W32 w g t s) (hs:s.length=16) (ha:a<16) (hb:b<16) (hc:c<16) (hd:d<16) :
  Calls Tryz.prog 88 #[.pointer (some ⟨g,0,none⟩),.int .i64 a,.int .i64 b,.int .i64 c,.int .i64 d,.agg #[.int .u32 (x.toNat:Int),.int .u32 (y.toNat:Int)]] w
   fun e w'=>e=.returned (.tuple #[])∧W32 w' g t (Bl.stir s a b c d x y)∧Fr (·=g) w w':=by
 have hg:=h.lt
 have H:=Lib.hid h
 have HS:=Lib.hid hs
 have hai:(a:Int)<16:=by omega
 have hbi:(b:Int)<16:=by omega
 have hci:(c:Int)<16:=by omega
 have hdi:(d:Int)<16:=by omega
 clear h hs
 have i0:∀w,(Instr.index 141 (.agg #[.int .u32 (x.toNat:Int),.int .u32 (y.toNat:Int)]) (.int .i64 0)).run Tryz.prog w=.ok (.int .u32 (x.toNat:Int)) w:=fun _=>by kernel_rfl
 have i1:∀w,(Instr.index 141 (.agg #[.int .u32 (x.toNat:Int),.int .u32 (y.toNat:Int)]) (.int .i64 1)).run Tryz.prog w=.ok (.int .u32 (y.toNat:Int)) w:=fun _=>by kernel_rfl
 go_enter Tryz.func88,Tryz.ntmps88
 go_wp2
 go_loopw [19] (fun i wr=>∃k:Nat,k<=2∧i=.int .i64 k∧W32 wr g t (stk s a b c d x y k)∧Fr (·=g) w wr∧wr.heap[w.heap.size+1]?=some (.cells #[.int .i64 16,.int .i64 12,.int .i64 8,.int .i64 7] 160 (0,0))) (fun i _=>2 - (intOf i).toNat)
 case atStart =>
  refine ⟨0,by omega,rfl,?_,?_,?_⟩
  ·exact (H.out.fr (Fr.alloc (T:=fun _=>False) _) (fun h=>h)).fr (Fr.alloc (T:=fun _=>False) _) (fun h=>h)
  ·exact (Fr.alloc _).trans (Fr.alloc (T:=fun _=>False) _) (fun _ _ h=>h.elim)
  ·exact heap_alloc2_new w _ _
 case round =>
  obtain ⟨k,hk,rfl,hW,hF,hT⟩:=hrel
  have hlen:(stk s a b c d x y k).length=16:=by rw [stk_len];exact HS.out
  have HT:=Lib.hid hT
  have HW:=Lib.hid hW
  have HF:=Lib.hid hF
  have HL:=Lib.hid hlen
  clear hT hW hF hlen
  obtain rfl|rfl|rfl:k=0∨k=1∨k=2:=by omega
  ·rw [show ((0:Nat):Int)=0 from rfl]
   obtain ⟨xa,exa,hca,hfa⟩:=HW.out.get (i:=a) (by rw [HL.out];exact ha)
   obtain ⟨xb,exb,hcb,hfb⟩:=HW.out.get (i:=b) (by rw [HL.out];exact hb)
   go_wp2
   refine region_tail 15 (by kernel_rfl) (by kernel_rfl) ?_
   simp only [List.take_succ_cons,List.take_zero,List.drop_succ_cons,List.drop_zero]
   repeat still_step
   refine wpStill_nil ?_
   go_wp2
   obtain ⟨w1,ew,hW1,hT1,hF1⟩:=adv HW.out HT.out HF.out (by omega) a (add32 xa (add32 xb x)) (s':=Bl.h1 (stk s a b c d x y 0) a b x) (by first|rfl|(show List.set _ _ _=_;rw [exa.out,exb.out]))
   rw [ew]
   have HL1:Hid ((Bl.h1 (stk s a b c d x y 0) a b x).length=16):=by have:=HL.out;simpa [Hid,Bl.len_h1,Bl.len_h2,Bl.len_h3] using this
   have HW1:=Lib.hid hW1
   have HT1:=Lib.hid hT1
   have HF1:=Lib.hid hF1
   clear ew hW1 hT1 hF1 hca hfa exa hcb hfb exb
   obtain ⟨xd,exd,hcd,hfd⟩:=HW1.out.get (i:=d) (by rw [HL1.out];exact hd)
   obtain ⟨xa,exa,hca,hfa⟩:=HW1.out.get (i:=a) (by rw [HL1.out];exact ha)
   have ht0:w1.cell? ⟨w.heap.size+1,0,none⟩=some (.int .i64 16):=cell_of_row _ _ _ _ _ _ HT1.out
   go_wp2
   refine region_tail 21 (by kernel_rfl) (by kernel_rfl) ?_
   simp only [List.take_succ_cons,List.take_zero,List.drop_succ_cons,List.drop_zero]
   repeat still_step
   still_call (rot16 _ _)
   repeat still_step
   refine wpStill_nil ?_
   go_wp2
   obtain ⟨w2,ew,hW2,hT2,hF2⟩:=adv HW1.out HT1.out HF1.out (by omega) d (ror (xor32 xd xa) 16) (s':=Bl.h2 (Bl.h1 (stk s a b c d x y 0) a b x) d a 16) (by first|rfl|(show List.set _ _ _=_;rw [exd.out,exa.out]))
   rw [ew]
   have HL2:Hid ((Bl.h2 (Bl.h1 (stk s a b c d x y 0) a b x) d a 16).length=16):=by have:=HL1.out;simpa [Hid,Bl.len_h1,Bl.len_h2,Bl.len_h3] using this
   have HW2:=Lib.hid hW2
   have HT2:=Lib.hid hT2
   have HF2:=Lib.hid hF2
   clear ew hW2 hT2 hF2 hcd hfd exd hca hfa exa ht0
   obtain ⟨xc,exc,hcc,hfc⟩:=HW2.out.get (i:=c) (by rw [HL2.out];exact hc)
   obtain ⟨xd,exd,hcd,hfd⟩:=HW2.out.get (i:=d) (by rw [HL2.out];exact hd)
   go_wp2
   refine region_tail 13 (by kernel_rfl) (by kernel_rfl) ?_
   simp only [List.take_succ_cons,List.take_zero,List.drop_succ_cons,List.drop_zero]
   repeat still_step
   refine wpStill_nil ?_
   go_wp2
   obtain ⟨w3,ew,hW3,hT3,hF3⟩:=adv HW2.out HT2.out HF2.out (by omega) c (add32 xc xd) (s':=Bl.h3 (Bl.h2 (Bl.h1 (stk s a b c d x y 0) a b x) d a 16) c d) (by first|rfl|(show List.set _ _ _=_;rw [exc.out,exd.out]))
   rw [ew]
   have HL3:Hid ((Bl.h3 (Bl.h2 (Bl.h1 (stk s a b c d x y 0) a b x) d a 16) c d).length=16):=by have:=HL2.out;simpa [Hid,Bl.len_h1,Bl.len_h2,Bl.len_h3] using this
   have HW3:=Lib.hid hW3
   have HT3:=Lib.hid hT3
   have HF3:=Lib.hid hF3
   clear ew hW3 hT3 hF3 hcc hfc exc hcd hfd exd
   obtain ⟨xb,exb,hcb,hfb⟩:=HW3.out.get (i:=b) (by rw [HL3.out];exact hb)
   obtain ⟨xc,exc,hcc,hfc⟩:=HW3.out.get (i:=c) (by rw [HL3.out];exact hc)
   have ht0:w3.cell? ⟨w.heap.size+1,1,none⟩=some (.int .i64 12):=cell_of_row _ _ _ _ _ _ HT3.out
   go_wp2
   refine region_tail 21 (by kernel_rfl) (by kernel_rfl) ?_
   simp only [List.take_succ_cons,List.take_zero,List.drop_succ_cons,List.drop_zero]
   repeat still_step
   still_call (rot12 _ _)
   repeat still_step
   refine wpStill_nil ?_
   go_wp2
   obtain ⟨w4,ew,hW4,hT4,hF4⟩:=adv HW3.out HT3.out HF3.out (by omega) b (ror (xor32 xb xc) 12) (s':=Bl.h2 (Bl.h3 (Bl.h2 (Bl.h1 (stk s a b c d x y 0) a b x) d a 16) c d) b c 12) (by first|rfl|(show List.set _ _ _=_;rw [exb.out,exc.out]))
   rw [ew]
   have HL4:Hid ((Bl.h2 (Bl.h3 (Bl.h2 (Bl.h1 (stk s a b c d x y 0) a b x) d a 16) c d) b c 12).length=16):=by have:=HL3.out;simpa [Hid,Bl.len_h1,Bl.len_h2,Bl.len_h3] using this
   have HW4:=Lib.hid hW4
   have HT4:=Lib.hid hT4
   have HF4:=Lib.hid hF4
   clear ew hW4 hT4 hF4 hcb hfb exb hcc hfc exc ht0
   go_wp2
   go_roundw
   case rel=>exact ⟨1,by omega,by go_num,HW4.out,HF4.out,HT4.out⟩
   case measure=>simp [intOf]
  ·rw [show ((1:Nat):Int)=1 from rfl]
   obtain ⟨xa,exa,hca,hfa⟩:=HW.out.get (i:=a) (by rw [HL.out];exact ha)
   obtain ⟨xb,exb,hcb,hfb⟩:=HW.out.get (i:=b) (by rw [HL.out];exact hb)
   go_wp2
   refine region_tail 15 (by kernel_rfl) (by kernel_rfl) ?_
   simp only [List.take_succ_cons,List.take_zero,List.drop_succ_cons,List.drop_zero]
   repeat still_step
   refine wpStill_nil ?_
   go_wp2
   obtain ⟨w1,ew,hW1,hT1,hF1⟩:=adv HW.out HT.out HF.out (by omega) a (add32 xa (add32 xb y)) (s':=Bl.h1 (stk s a b c d x y 1) a b y) (by first|rfl|(show List.set _ _ _=_;rw [exa.out,exb.out]))
   rw [ew]
   have HL1:Hid ((Bl.h1 (stk s a b c d x y 1) a b y).length=16):=by have:=HL.out;simpa [Hid,Bl.len_h1,Bl.len_h2,Bl.len_h3] using this
   have HW1:=Lib.hid hW1
   have HT1:=Lib.hid hT1
   have HF1:=Lib.hid hF1
   clear ew hW1 hT1 hF1 hca hfa exa hcb hfb exb
   obtain ⟨xd,exd,hcd,hfd⟩:=HW1.out.get (i:=d) (by rw [HL1.out];exact hd)
   obtain ⟨xa,exa,hca,hfa⟩:=HW1.out.get (i:=a) (by rw [HL1.out];exact ha)
   have ht0:w1.cell? ⟨w.heap.size+1,2,none⟩=some (.int .i64 8):=cell_of_row _ _ _ _ _ _ HT1.out
   go_wp2
   refine region_tail 21 (by kernel_rfl) (by kernel_rfl) ?_
   simp only [List.take_succ_cons,List.take_zero,List.drop_succ_cons,List.drop_zero]
   repeat still_step
   still_call (rot8 _ _)
   repeat still_step
   refine wpStill_nil ?_
   go_wp2
   obtain ⟨w2,ew,hW2,hT2,hF2⟩:=adv HW1.out HT1.out HF1.out (by omega) d (ror (xor32 xd xa) 8) (s':=Bl.h2 (Bl.h1 (stk s a b c d x y 1) a b y) d a 8) (by first|rfl|(show List.set _ _ _=_;rw [exd.out,exa.out]))
   rw [ew]
   have HL2:Hid ((Bl.h2 (Bl.h1 (stk s a b c d x y 1) a b y) d a 8).length=16):=by have:=HL1.out;simpa [Hid,Bl.len_h1,Bl.len_h2,Bl.len_h3] using this
   have HW2:=Lib.hid hW2
   have HT2:=Lib.hid hT2
   have HF2:=Lib.hid hF2
   clear ew hW2 hT2 hF2 hcd hfd exd hca hfa exa ht0
   obtain ⟨xc,exc,hcc,hfc⟩:=HW2.out.get (i:=c) (by rw [HL2.out];exact hc)
   obtain ⟨xd,exd,hcd,hfd⟩:=HW2.out.get (i:=d) (by rw [HL2.out];exact hd)
   go_wp2
   refine region_tail 13 (by kernel_rfl) (by kernel_rfl) ?_
   simp only [List.take_succ_cons,List.take_zero,List.drop_succ_cons,List.drop_zero]
   repeat still_step
   refine wpStill_nil ?_
   go_wp2
   obtain ⟨w3,ew,hW3,hT3,hF3⟩:=adv HW2.out HT2.out HF2.out (by omega) c (add32 xc xd) (s':=Bl.h3 (Bl.h2 (Bl.h1 (stk s a b c d x y 1) a b y) d a 8) c d) (by first|rfl|(show List.set _ _ _=_;rw [exc.out,exd.out]))
   rw [ew]
   have HL3:Hid ((Bl.h3 (Bl.h2 (Bl.h1 (stk s a b c d x y 1) a b y) d a 8) c d).length=16):=by have:=HL2.out;simpa [Hid,Bl.len_h1,Bl.len_h2,Bl.len_h3] using this
   have HW3:=Lib.hid hW3
   have HT3:=Lib.hid hT3
   have HF3:=Lib.hid hF3
   clear ew hW3 hT3 hF3 hcc hfc exc hcd hfd exd
   obtain ⟨xb,exb,hcb,hfb⟩:=HW3.out.get (i:=b) (by rw [HL3.out];exact hb)
   obtain ⟨xc,exc,hcc,hfc⟩:=HW3.out.get (i:=c) (by rw [HL3.out];exact hc)
   have ht0:w3.cell? ⟨w.heap.size+1,3,none⟩=some (.int .i64 7):=cell_of_row _ _ _ _ _ _ HT3.out
   go_wp2
   refine region_tail 21 (by kernel_rfl) (by kernel_rfl) ?_
   simp only [List.take_succ_cons,List.take_zero,List.drop_succ_cons,List.drop_zero]
   repeat still_step
   still_call (rot7 _ _)
   repeat still_step
   refine wpStill_nil ?_
   go_wp2
   obtain ⟨w4,ew,hW4,hT4,hF4⟩:=adv HW3.out HT3.out HF3.out (by omega) b (ror (xor32 xb xc) 7) (s':=Bl.h2 (Bl.h3 (Bl.h2 (Bl.h1 (stk s a b c d x y 1) a b y) d a 8) c d) b c 7) (by first|rfl|(show List.set _ _ _=_;rw [exb.out,exc.out]))
   rw [ew]
   have HL4:Hid ((Bl.h2 (Bl.h3 (Bl.h2 (Bl.h1 (stk s a b c d x y 1) a b y) d a 8) c d) b c 7).length=16):=by have:=HL3.out;simpa [Hid,Bl.len_h1,Bl.len_h2,Bl.len_h3] using this
   have HW4:=Lib.hid hW4
   have HT4:=Lib.hid hT4
   have HF4:=Lib.hid hF4
   clear ew hW4 hT4 hF4 hcb hfb exb hcc hfc exc ht0
   go_wp2
   go_roundw
   case rel=>exact ⟨2,by omega,by go_num,HW4.out,HF4.out,HT4.out⟩
   case measure=>simp [intOf]
  ·rw [show ((2:Nat):Int)=2 from rfl]
   go_wp2
   go_end0
   exact ⟨rfl,HW.out,HF.out⟩
end Go.Proofs.YtjjodibkmeefpaaGreatDoor.Old

namespace Go.Proofs.YtjjodibkmeefpaaGreatDoor.Old
open Go Go.RowKit
attribute [local go_sem high] bop_add32 bop_xor32 bop_or32 uop_not32

def dig (c:UInt8):Nat:=if 97<=c.toNat then c.toNat - 97+10 else c.toNat - 48

theorem digit_any (c:UInt8) (w:World) (h:48<=c.toNat) :
  Calls Tryz.prog 87 #[.int .u8 (c.toNat:Int)] w fun e w'=>e=.returned (.int .i64 (dig c:Int))∧w'=w:=by
 have hlt:=u8_lt c
 unfold dig
 by_cases hc:97<=c.toNat
 ·rw [if_pos hc]
  go_enter Tryz.func87,Tryz.ntmps87
  go_wp2
  go_ret
  exact ⟨ret_int (by omega),rfl⟩
 ·rw [if_neg hc]
  go_enter Tryz.func87,Tryz.ntmps87
  go_wp2
  go_ret
  exact ⟨ret_int (by omega),rfl⟩

theorem stir_at (g:Nat) (t:TypeId) (a b c d:Nat) (a' b' c' d':Int) (x y:UInt32) (s:List UInt32) (w:World) (h:W32 w g t s) (hs:s.length=16) (ha:a<16) (hb:b<16) (hc:c<16) (hd:d<16)
  (ea:a'=a) (eb:b'=b) (ec:c'=c) (ed:d'=d) :
  Calls Tryz.prog 88 #[.pointer (some ⟨g,0,none⟩),.int .i64 a',.int .i64 b',.int .i64 c',.int .i64 d',.agg #[.int .u32 (x.toNat:Int),.int .u32 (y.toNat:Int)]] w
   fun e w'=>e=.returned (.tuple #[])∧W32 w' g t (Bl.stir s a b c d x y)∧Fr (·=g) w w':=by
 subst ea eb ec ed
 exact stir_any g t a b c d x y s w h hs ha hb hc hd

theorem run_str_at {t:TypeId} (h:Tryz.prog.underlying t=some .string) {s:ByteArray} {i:Nat} {c:UInt8} (hc:s.data.toList[i]?=some c) {k:IntKind} {z:Int} (hz:z=i) (w:World) :
  (Instr.index t (.string s) (.int k z)).run Tryz.prog w=.ok (.int .u8 (c.toNat:Int)) w:=by
 subst hz
 have hi:i<s.data.toList.length:=(List.getElem?_eq_some_iff.1 hc).1
 have hs:i<s.size:=by simpa using hi
 rw [run_index_string _ _ _ _ _ h,dif_pos ⟨by omega,by omega⟩]
 have e:s[i]=c:=by
  have:=(List.getElem?_eq_some_iff.1 hc).2
  rw [←this];rfl
 simp only [Int.toNat_natCast,e]

set_option maxRecDepth 100000 in
set_option maxHeartbeats 1000000 in
theorem round_any (g gm:Nat) (t tm:TypeId) (s m:List UInt32) (ba:ByteArray) (w:World) (h:W32 w g t s) (hm:W32 w gm tm m) (hs:s.length=16) (hml:m.length=16) (hne:gm≠g)
  (hba:ba.size=16) (hd:∀(j:Nat) (c:UInt8),ba.data.toList[j]?=some c->48<=c.toNat∧dig c<16) :
  Calls Tryz.prog 71 #[.pointer (some ⟨g,0,none⟩),.pointer (some ⟨gm,0,none⟩),.string ba] w
   fun e w'=>e=.returned (.tuple #[])∧W32 w' g t (Bl.round s m (ba.data.toList.map dig) 8)∧Fr (·=g) w w':=by
 have hg:=h.lt
 have hgm:=hm.lt
 have H:=Lib.hid h
 have HM:=Lib.hid hm
 have HS:=Lib.hid hs
 have HML:=Lib.hid hml
 have HB:=Lib.hid hba
 have HD:=Lib.hid hd
 clear h hs hm hml hba hd
 go_enter Tryz.func71,Tryz.ntmps71
 go_wp2
 go_loopw [10] (fun i wr=>∃k:Nat,k<=8∧i=.int .i64 k∧W32 wr g t (Bl.round s m (ba.data.toList.map dig) k)∧Fr (·=g) w wr) (fun i _=>8 - (intOf i).toNat)
 case atStart=>exact ⟨0,by omega,rfl,H.out,Fr.refl⟩
 case round =>
  obtain ⟨k,hk,rfl,hW,hF⟩:=hrel
  have hsz:=hF.size
  have HW:=Lib.hid hW
  have HF:=Lib.hid hF
  clear hW hF
  by_cases hlt:k<8
  ·have hi1:(k:Int)<8:=by omega
   obtain ⟨c1,hc1⟩:∃c,ba.data.toList[2*k]?=some c:=⟨_,List.getElem?_eq_getElem (by have:=HB.out;simp at this ⊢;omega)⟩
   obtain ⟨c2,hc2⟩:∃c,ba.data.toList[2*k+1]?=some c:=⟨_,List.getElem?_eq_getElem (by have:=HB.out;simp at this ⊢;omega)⟩
   obtain ⟨hd1,hd2⟩:=HD.out _ _ hc1
   obtain ⟨hd3,hd4⟩:=HD.out _ _ hc2
   have hr1:=fun w=>run_str_at Tryz.underlying9 hc1 (k:=.i64) (z:=2*(k:Int)) (by omega) w
   have hr2:=fun w=>run_str_at Tryz.underlying9 hc2 (k:=.i64) (z:=2*(k:Int)+1) (by omega) w
   have HC1:=Lib.hid hc1
   have HC2:=Lib.hid hc2
   clear hc1 hc2
   have hl1:(dig c1:Int)<16:=by omega
   have hl2:(dig c2:Int)<16:=by omega
   have hmr:=HM.out.fr HF.out hne
   go_wp2
   refine region_allocN 20 (fun W=>W32 W gm tm m) ?aF (by kernel_rfl) (by kernel_rfl) (by kernel_rfl) hmr (fun obj=>hmr.keep (heap_alloc_old _ _ hmr.lt)) (fun W hW=>?hu) ?hr
   case hu =>
    simp only [List.take_succ_cons,List.take_zero]
    obtain ⟨x,ex,hx,_⟩:=hW.get (i:=dig c1) (by rw [HML.out];exact hd2)
    obtain ⟨y,ey,hy,_⟩:=hW.get (i:=dig c2) (by rw [HML.out];exact hd4)
    rw [←ex.out] at hx
    rw [←ey.out] at hy
    clear hW ex ey
    have hw1:IntKind.i64.wrap (2*(k:Int))=2*(k:Int):=IntWalk.i64_in _ (by omega)
    have hw2:IntKind.i64.wrap (2*(k:Int)+1)=2*(k:Int)+1:=IntWalk.i64_in _ (by omega)
    repeat still_step
    still_call (digit_any _ _ (by assumption))
    repeat still_step
    still_call (digit_any _ _ (by assumption))
    repeat still_step
    refine wpStill_nil ?_
    rfl
   simp only [List.drop_succ_cons,List.drop_zero]
   generalize hX:m[dig c1]?.getD 0=x
   generalize hY:m[dig c2]?.getD 0=y
   have HX:=Lib.hid hX
   have HY:=Lib.hid hY
   clear hX hY
   go_wp2_with fail
   refine NoP.normal ?_
   go_wp2_with fail
   have hW2:W32 (wr.alloc (.cells #[.int .u32 (x.toNat:Int),.int .u32 (y.toNat:Int)] 141)).drew g t (Bl.round s m (ba.data.toList.map dig) k):=HW.out.keep (heap_alloc_old _ _ (by have:=HW.out.lt;simpa using this))
   refine (stir_at g t (k % 4) (4+(k % 4+k / 4) % 4) (8+(k % 4+2*(k / 4)) % 4) (12+(k % 4+3*(k / 4)) % 4) _ _ _ _ x y _ _ hW2 (by rw [Bl.len_round];exact HS.out) (by omega) (by omega) (by omega) (by omega) (by omega) (by omega) (by omega) (by omega)).mono ?_
   rintro e w1 ⟨rfl,hW1,hF1⟩
   have HW1:=Lib.hid hW1
   have HF1:=Lib.hid hF1
   clear hW1 hF1
   go_wp2
   go_roundw
   case rel =>
    refine ⟨k+1,by omega,by go_num,?_,?_⟩
    ·have e1:(ba.data.toList.map dig).getD (2*k) 0=dig c1:=by rw [List.getD_eq_getElem?_getD,List.getElem?_map,HC1.out];rfl
     have e2:(ba.data.toList.map dig).getD (2*k+1) 0=dig c2:=by rw [List.getD_eq_getElem?_getD,List.getElem?_map,HC2.out];rfl
     show W32 w1 g t (Bl.kstir _ m _ k)
     unfold Bl.kstir
     rw [e1,e2,List.getD_eq_getElem?_getD,List.getD_eq_getElem?_getD,HX.out,HY.out]
     exact HW1.out
    ·exact (HF.out.trans ((Fr.alloc (T:=(·=g)) _).drew) (fun _ _ h=>h)).trans HF1.out (fun _ _ h=>h)
   case measure=>simp [intOf];omega
  ·obtain rfl:k=8:=by omega
   have h88:(((8:Nat):Int)<8)=False:=by simp
   go_wp2
   go_end0
   exact ⟨rfl,HW.out,HF.out⟩
end Go.Proofs.YtjjodibkmeefpaaGreatDoor.Old

namespace Go.Proofs.YtjjodibkmeefpaaGreatDoor.Old
open Go Go.RowKit
attribute [local go_sem high] bop_add32 bop_xor32 bop_or32 uop_not32

def B8 (w:World) (g:Nat) (b:List UInt8):Prop:=∀i,i<b.length->w.cell? ⟨g,i,none⟩=some (.int .u8 ((b.getD i 0).toNat:Int))
theorem B8.keep {w w':World} {g:Nat} {b:List UInt8} (h:B8 w g b) (hk:w'.heap[g]?=w.heap[g]?):B8 w' g b:=fun i hi=>(World.cell?_of_block (a:=⟨g,i,none⟩) hk).trans (h i hi)
theorem B8.lt {w:World} {g:Nat} {b:List UInt8} (h:B8 w g b) (hl:0<b.length):g<w.heap.size:=by
 have:=h 0 hl
 rcases Nat.lt_or_ge g w.heap.size with h1|h1
 ·exact h1
 ·simp [World.cell?,Array.getElem?_eq_none h1] at this

structure Gl (w:World):Prop where
 begins:∀i,i<8->w.cell? ⟨0,i,none⟩=some (.int .u32 ((Bl.begins.getD i 0).toNat:Int))
 orders:∀i,i<10->∃ba:ByteArray,w.cell? ⟨1,i,none⟩=some (.string ba)∧ba.size=16∧ba.data.toList.map dig=Bl.orders.getD i []∧∀(j:Nat) (c:UInt8),ba.data.toList[j]?=some c->48<=c.toNat∧dig c<16

def mk (b:List UInt8) (k:Nat):List UInt32:=Bl.words b k++List.replicate (16 - k) 0
theorem mk_len (b:List UInt8) (k:Nat) (h:k<=16):(mk b k).length=16:=by simp [mk,Bl.words];omega
theorem mk_set (b:List UInt8) (k:Nat) (h:k<16):(mk b k).set k (Bl.wordAt b k)=mk b (k+1):=by
 have hl:(Bl.words b k).length=k:=by simp [Bl.words]
 unfold mk
 rw [List.set_append_right _ _ (by omega),hl,Nat.sub_self,show 16 - k=(16 - (k+1))+1 by omega,List.replicate_succ,List.set_cons_zero]
 simp [Bl.words,List.range_succ]

theorem alloc_at (w:World) (o:Obj) {n:Nat} (h:w.heap.size=n):(w.alloc o).heap[n]?=some o:=by subst h;exact heap_alloc_new w o
structure TS (w wr:World) (h r m:List UInt32):Prop where
 h:W32 wr w.heap.size 107 h
 r:W32 wr (w.heap.size+1) 107 r
 m:W32 wr (w.heap.size+1+1) 122 m
 b:Below w.heap.size w wr
theorem W32.far {w:World} {g:Nat} {t:TypeId} {s:List UInt32} (h:W32 w g t s) {p:Addr} (hp:g≠p.block) (u:Value):W32 (w.setCell p u) g t s:=h.keep (Below.heap_setCell w p u g hp)
theorem below_drew {B:Nat} {w w':World} (h:Below B w w'):Below B w w'.drew:=⟨h.os,h.tape,h.output,h.size,h.block⟩
theorem TS.setM {w wr:World} {h r m:List UInt32} (H:TS w wr h r m) (i:Nat) (x:UInt32):TS w (wr.setCell ⟨w.heap.size+1+1,i,none⟩ (.int .u32 (x.toNat:Int))).drew h r (m.set i x) :=
 ⟨(H.h.far (p:=⟨w.heap.size+1+1,i,none⟩) (by simp;omega) _),(H.r.far (p:=⟨w.heap.size+1+1,i,none⟩) (by simp) _),H.m.set i x,below_drew (H.b.setCell (by simp;omega) _)⟩
theorem add_zero' (g j:Nat):(⟨g,0,none⟩:Addr).add j=⟨g,j,none⟩:=by
 unfold Addr.add
 split
 ·rename_i h;subst h;rfl
 ·simp
theorem W32.addr {w:World} {g:Nat} {t:TypeId} {s:List UInt32} (h:W32 w g t s) (j:Nat) (v:Value) (hv:(s.map u32v)[j]?=some v):w.cell? ((⟨g,0,none⟩:Addr).add j)=some v:=by
 rw [add_zero',cell_of_row w g j _ t (0,0) h]
 simpa using hv
theorem Gl.addr {w:World} (h:Gl w) (j:Nat) (v:Value) (hv:(Bl.begins.map u32v)[j]?=some v):w.cell? ((⟨0,0,none⟩:Addr).add j)=some v:=by
 have hj:j<8:=by
  have:=(List.getElem?_eq_some_iff.1 hv).1
  simpa [Bl.begins] using this
 rw [add_zero',h.begins j hj]
 rw [List.getElem?_map] at hv
 have hl:j<Bl.begins.length:=by simp [Bl.begins];omega
 rw [List.getElem?_eq_getElem hl] at hv
 rw [List.getD_eq_getElem?_getD,List.getElem?_eq_getElem hl]
 simpa using hv
theorem Gl.lt {w:World} (h:Gl w):0<w.heap.size∧1<w.heap.size:=by
 constructor
 ·have:=h.begins 0 (by omega)
  rcases Nat.lt_or_ge 0 w.heap.size with h1|h1
  ·exact h1
  ·simp only [World.cell?,Array.getElem?_eq_none h1] at this;cases this
 ·obtain ⟨_,this,_⟩:=h.orders 0 (by omega)
  rcases Nat.lt_or_ge 1 w.heap.size with h1|h1
  ·exact h1
  ·simp only [World.cell?,Array.getElem?_eq_none h1] at this;cases this
theorem Gl.keep {w w':World} (h:Gl w) (h1:w'.heap[0]?=w.heap[0]?) (h2:w'.heap[1]?=w.heap[1]?):Gl w' :=
 ⟨fun i hi=>(World.cell?_of_block (a:=⟨0,i,none⟩) h1).trans (h.begins i hi),fun i hi=>by
  obtain ⟨ba,hc,h3⟩:=h.orders i hi
  exact ⟨ba,(World.cell?_of_block (a:=⟨1,i,none⟩) h2).trans hc,h3⟩⟩
theorem Gl.below {w w':World} (h:Gl w) {B:Nat} (hb:Below B w w') (hB:w.heap.size<=B):Gl w' :=
 h.keep (hb.block _ (by have:=h.lt;omega)) (hb.block _ (by have:=h.lt;omega))
theorem W32.mk_ {w:World} {g:Nat} {t:TypeId} {s:List UInt32} {l:List Value} (h:w.heap[g]?=some (.cells l.toArray t (0,0))) (e:l=s.map u32v):W32 w g t s:=by subst e;exact h
theorem TS.alloc {w wr:World} {h r m:List UInt32} (H:TS w wr h r m) (o:Obj):TS w (wr.alloc o) h r m :=
 ⟨H.h.keep (heap_alloc_old _ _ H.h.lt),H.r.keep (heap_alloc_old _ _ H.r.lt),H.m.keep (heap_alloc_old _ _ H.m.lt),H.b.alloc H.b.size _⟩
theorem TS.below {w wr w':World} {h r m:List UInt32} (H:TS w wr h r m) {B:Nat} (hb:Below B wr w') (hB:w.heap.size+1+1<B):TS w w' h r m :=
 ⟨H.h.keep (hb.block _ (by omega)),H.r.keep (hb.block _ (by omega)),H.m.keep (hb.block _ (by omega)),H.b.trans (hb.mono (by omega))⟩
def fn (h s:List UInt32) (k:Nat):List UInt32:=Bl.fin h s k++h.drop k
theorem fn_len (h s:List UInt32) (k:Nat) (hh:h.length=8) (hk:k<=8):(fn h s k).length=8:=by simp [fn,Bl.len_fin];omega
theorem fn_at (h s:List UInt32) (k:Nat):(fn h s k).getD k 0=h.getD k 0:=by
 have hl:=Bl.len_fin h s k
 rw [List.getD_eq_getElem?_getD,List.getD_eq_getElem?_getD,fn,List.getElem?_append_right (by omega),hl,Nat.sub_self,List.getElem?_drop,Nat.add_zero]
theorem fn_set (h s:List UInt32) (k:Nat) (hh:h.length=8) (hk:k<8):(fn h s k).set k (xor32 (h.getD k 0) (xor32 (s.getD k 0) (s.getD (k+8) 0)))=fn h s (k+1):=by
 have hl:=Bl.len_fin h s k
 unfold fn
 rw [List.set_append_right _ _ (by omega),hl,Nat.sub_self,List.drop_eq_getElem_cons (by omega),List.set_cons_zero]
 simp [Bl.fin,List.range_succ]
theorem TS.setH {w wr:World} {h r m:List UInt32} (H:TS w wr h r m) (i:Nat) (x:UInt32):TS w (wr.setCell ⟨w.heap.size,i,none⟩ (.int .u32 (x.toNat:Int))).drew (h.set i x) r m :=
 ⟨H.h.set i x,(H.r.far (p:=⟨w.heap.size,i,none⟩) (by simp) _),(H.m.far (p:=⟨w.heap.size,i,none⟩) (by simp;omega) _),below_drew (H.b.setCell (Nat.le_refl _) _)⟩
theorem all_u32 (l:List UInt32):(l.map u32v).toArray.all (·.oneCell')=true:=by
 rw [List.all_toArray];exact List.all_eq_true.2 (one_u32 l)
theorem le_or {a b c d:UInt8}:bits .or .u32 (bits .or .u32 (bits .or .u32 (a.toNat:Int) ((b.toNat:Int)*256)) ((c.toNat:Int)*65536)) ((d.toNat:Int)*16777216)=((le32 a b c d).toNat:Int):=by
 have ha:=u8_lt a
 have hb:=u8_lt b
 have hc:=u8_lt c
 have hd:=u8_lt d
 have e1:a.toNat ||| b.toNat*256=a.toNat+256*b.toNat:=by
  have:=Nat.shiftLeft_add_eq_or_of_lt (b:=a.toNat) (i:=8) (by omega) b.toNat
  rw [Nat.shiftLeft_eq] at this
  simp only [Nat.reducePow] at this
  rw [Nat.or_comm]
  omega
 have e2:(a.toNat+256*b.toNat) ||| c.toNat*65536=a.toNat+256*b.toNat+65536*c.toNat:=by
  have:=Nat.shiftLeft_add_eq_or_of_lt (b:=a.toNat+256*b.toNat) (i:=16) (by omega) c.toNat
  rw [Nat.shiftLeft_eq] at this
  simp only [Nat.reducePow] at this
  rw [Nat.or_comm]
  omega
 have e3:(a.toNat+256*b.toNat+65536*c.toNat) ||| d.toNat*16777216=a.toNat+256*b.toNat+65536*c.toNat+16777216*d.toNat:=by
  have:=Nat.shiftLeft_add_eq_or_of_lt (b:=a.toNat+256*b.toNat+65536*c.toNat) (i:=24) (by omega) d.toNat
  rw [Nat.shiftLeft_eq] at this
  simp only [Nat.reducePow] at this
  rw [Nat.or_comm]
  omega
 rw [show (b.toNat:Int)*256=((b.toNat*256:Nat):Int) by omega,show (c.toNat:Int)*65536=((c.toNat*65536:Nat):Int) by omega,show (d.toNat:Int)*16777216=((d.toNat*16777216:Nat):Int) by omega,
  u32_or_nat _ _ (by omega) (by omega),e1,u32_or_nat _ _ (by omega) (by omega),e2,u32_or_nat _ _ (by omega) (by omega),e3,le32,UInt32.toNat_ofNat']
 omega

set_option maxRecDepth 100000 in
set_option maxHeartbeats 1000000 in
theorem take_any (h:List UInt32) (hh:h.length=8) (g:Nat) (b:List UInt8) (hb:b.length=64) (count:Nat) (last:Bool) (w:World) (hB:B8 w g b) (hG:Gl w) :
  Calls Tryz.prog 62 #[.agg (h.map u32v).toArray,.pointer (some ⟨g,0,none⟩),.int .u64 count,.bool last] w
   fun e w'=>e=.returned (.agg ((Bl.press h b count last).map u32v).toArray)∧Below w.heap.size w w':=by
 have hg:=hB.lt (by omega)
 have HB:=Lib.hid hB
 have HG:=Lib.hid hG
 have HL:=Lib.hid hb
 have HH:=Lib.hid hh
 clear hB hG hb
 obtain ⟨h0,h1,h2,h3,h4,h5,h6,h7,rfl⟩:∃h0 h1 h2 h3 h4 h5 h6 h7,h=[h0,h1,h2,h3,h4,h5,h6,h7]:=by
  match h,hh with
  | [h0,h1,h2,h3,h4,h5,h6,h7],_=>exact ⟨_,_,_,_,_,_,_,_,rfl⟩
 clear hh
 simp only [List.map_cons,List.map_nil]
 go_enter Tryz.func62,Tryz.ntmps62
 go_wp2
 go_loopw [15] (fun i wr=>∃k:Nat,k<=16∧i=.int .i64 k∧TS w wr [h0,h1,h2,h3,h4,h5,h6,h7] [0,0,0,0,0,0,0,0] (mk b k)) (fun i _=>16 - (intOf i).toNat)
 case atStart =>
  refine ⟨0,by omega,rfl,?_,?_,?_,?_⟩
  ·exact (heap_alloc_old _ _ (by simp;omega)).trans ((heap_alloc_old _ _ (by simp)).trans (heap_alloc_new w _))
  ·exact (heap_alloc_old _ _ (by simp)).trans (alloc_at _ _ (by simp))
  ·exact alloc_at _ _ (by simp)
  ·exact (((Below.refl _ _).alloc (Nat.le_refl _) _).alloc (by simp) _).alloc (by simp;omega) _
 case round =>
  obtain ⟨k,hk,rfl,hT⟩:=hrel
  have HT:=Lib.hid hT
  clear hT
  by_cases hlt:k<16
  ·have hi1:(k:Int)<16:=by omega
   have c0:=(HB.out.keep (HT.out.b.block g hg)) (4*k) (by rw [HL.out];omega)
   have c1:=(HB.out.keep (HT.out.b.block g hg)) (4*k+1) (by rw [HL.out];omega)
   have c2:=(HB.out.keep (HT.out.b.block g hg)) (4*k+2) (by rw [HL.out];omega)
   have c3:=(HB.out.keep (HT.out.b.block g hg)) (4*k+3) (by rw [HL.out];omega)
   obtain ⟨x,ex,hx,hf⟩:=HT.out.m.get (i:=k) (by rw [mk_len _ _ hk];omega)
   clear ex
   generalize hX0:b.getD (4*k) 0=x0 at c0
   generalize hX1:b.getD (4*k+1) 0=x1 at c1
   generalize hX2:b.getD (4*k+2) 0=x2 at c2
   generalize hX3:b.getD (4*k+3) 0=x3 at c3
   have HX:Hid (Bl.wordAt b k=le32 x0 x1 x2 x3):=by unfold Bl.wordAt;rw [hX0,hX1,hX2,hX3];rfl
   clear hX0 hX1 hX2 hX3
   have l0:=u8_lt x0
   have l1:=u8_lt x1
   have l2:=u8_lt x2
   have l3:=u8_lt x3
   go_wp2
   refine region_tail 39 (by kernel_rfl) (by kernel_rfl) ?_
   simp only [List.take_succ_cons,List.take_zero,List.drop_succ_cons,List.drop_zero]
   have ha0:0<=4*(k:Int):=by omega
   have hb0:4*(k:Int)<64:=by omega
   have ht0:(4*(k:Int)).toNat=4*k:=by omega
   have ha1:0<=4*(k:Int)+1:=by omega
   have hb1:4*(k:Int)+1<64:=by omega
   have ht1:(4*(k:Int)+1).toNat=4*k+1:=by omega
   have ha2:0<=4*(k:Int)+2:=by omega
   have hb2:4*(k:Int)+2<64:=by omega
   have ht2:(4*(k:Int)+2).toNat=4*k+2:=by omega
   have ha3:0<=4*(k:Int)+3:=by omega
   have hb3:4*(k:Int)+3<64:=by omega
   have ht3:(4*(k:Int)+3).toNat=4*k+3:=by omega
   have hw0:IntKind.i64.wrap (4*(k:Int))=4*(k:Int):=IntWalk.i64_in _ (by omega)
   have hw1:IntKind.i64.wrap (4*(k:Int)+1)=4*(k:Int)+1:=IntWalk.i64_in _ (by omega)
   have hw2:IntKind.i64.wrap (4*(k:Int)+2)=4*(k:Int)+2:=IntWalk.i64_in _ (by omega)
   have hw3:IntKind.i64.wrap (4*(k:Int)+3)=4*(k:Int)+3:=IntWalk.i64_in _ (by omega)
   have hv0:IntKind.u32.wrap (x0.toNat:Int)=(x0.toNat:Int):=by rw [IntKind.wrap_u32'];omega
   have hv1:IntKind.u32.wrap (x1.toNat:Int)=(x1.toNat:Int):=by rw [IntKind.wrap_u32'];omega
   have hv2:IntKind.u32.wrap (x2.toNat:Int)=(x2.toNat:Int):=by rw [IntKind.wrap_u32'];omega
   have hv3:IntKind.u32.wrap (x3.toNat:Int)=(x3.toNat:Int):=by rw [IntKind.wrap_u32'];omega
   have hm1:IntKind.u32.wrap ((x1.toNat:Int)*256)=(x1.toNat:Int)*256:=by rw [IntKind.wrap_u32'];omega
   have hm2:IntKind.u32.wrap ((x2.toNat:Int)*65536)=(x2.toNat:Int)*65536:=by rw [IntKind.wrap_u32'];omega
   have hm3:IntKind.u32.wrap ((x3.toNat:Int)*16777216)=(x3.toNat:Int)*16777216:=by rw [IntKind.wrap_u32'];omega
   have hor:=@le_or x0 x1 x2 x3
   repeat still_step
   refine wpStill_nil ?_
   clear hv0 hv1 hv2 hv3 hm1 hm2 hm3 hor hw0 hw1 hw2 hw3 ht0 ht1 ht2 ht3
   go_wp2
   go_roundw
   case rel =>
    refine ⟨k+1,by omega,by go_num,?_⟩
    rw [←mk_set b k hlt,HX.out]
    exact HT.out.setM k _
   case measure=>simp [intOf];omega
  ·obtain rfl:k=16:=by omega
   rw [show ((16:Nat):Int)=16 from rfl]
   go_wp2
   have hGs:w.heap.size+1+1<wr.heap.size:=HT.out.m.lt
   have hP:W32 (wr.alloc (.cells #[.int .u32 0,.int .u32 0,.int .u32 0,.int .u32 0,.int .u32 0,.int .u32 0,.int .u32 0,.int .u32 0,.int .u32 0,.int .u32 0,.int .u32 0,.int .u32 0,.int .u32 0,.int .u32 0,.int .u32 0,.int .u32 0] 123)) wr.heap.size 123 [0,0,0,0,0,0,0,0,0,0,0,0,0,0,0,0]:=heap_alloc_new wr _
   have hT1:=HT.out.alloc (.cells #[.int .u32 0,.int .u32 0,.int .u32 0,.int .u32 0,.int .u32 0,.int .u32 0,.int .u32 0,.int .u32 0,.int .u32 0,.int .u32 0,.int .u32 0,.int .u32 0,.int .u32 0,.int .u32 0,.int .u32 0,.int .u32 0] 123)
   have hZ:wr.heap.size<(wr.alloc (.cells #[.int .u32 0,.int .u32 0,.int .u32 0,.int .u32 0,.int .u32 0,.int .u32 0,.int .u32 0,.int .u32 0,.int .u32 0,.int .u32 0,.int .u32 0,.int .u32 0,.int .u32 0,.int .u32 0,.int .u32 0,.int .u32 0] 123)).heap.size:=by simp
   generalize wr.alloc (.cells #[.int .u32 0,.int .u32 0,.int .u32 0,.int .u32 0,.int .u32 0,.int .u32 0,.int .u32 0,.int .u32 0,.int .u32 0,.int .u32 0,.int .u32 0,.int .u32 0,.int .u32 0,.int .u32 0,.int .u32 0,.int .u32 0] 123)=w1 at hP hT1 hZ ⊢
   generalize wr.heap.size=G at hGs hP hZ ⊢
   clear HT
   have HP:=Lib.hid hP
   have HT:=Lib.hid hT1
   clear hP hT1
   refine region_tail 2 (by kernel_rfl) (by kernel_rfl) ?_
   simp only [List.take_succ_cons,List.take_zero,List.drop_succ_cons,List.drop_zero]
   repeat still_step
   refine wpStill_nil ?_
   refine wpList_copy_splice rfl (.tmp 58) (.tmp 59) _ _ rfl 105 Tryz.underlying119 (by kernel_rfl) (some ⟨G,0,none⟩) (some ⟨w.heap.size,0,none⟩) 8 16 8 8 (by kernel_rfl) (by kernel_rfl) G 0 _ 123 HP.out (([h0,h1,h2,h3,h4,h5,h6,h7]:List UInt32).map u32v) rfl ?_ (by simp) (one_u32 _) G w1 (below_drew (Below.refl _ _)) (Nat.le_refl _) ?_
   ·exact fun _=>⟨rfl,_,rfl,HT.out.h.addr⟩
   intro w2 hP2 hb2
   go_frame
   have hQ2:W32 w2 G 123 [h0,h1,h2,h3,h4,h5,h6,h7,0,0,0,0,0,0,0,0]:=W32.mk_ hP2.out rfl
   have HP2:=Lib.hid hQ2
   have HB2:=Lib.hid hb2
   clear hP2 hQ2 hb2
   go_wp2_with fail
   refine region_tail 2 (by kernel_rfl) (by kernel_rfl) ?_
   simp only [List.take_succ_cons,List.take_zero,List.drop_succ_cons,List.drop_zero]
   repeat still_step
   refine wpStill_nil ?_
   refine wpList_copy_splice rfl (.tmp 61) (.tmp 62) _ _ rfl 105 Tryz.underlying119 (by kernel_rfl) (some ⟨G,8,none⟩) (some ⟨0,0,none⟩) 8 8 8 8 (by kernel_rfl) (by kernel_rfl) G 8 _ 123 HP2.out (Bl.begins.map u32v) rfl ?_ (by simp [Bl.begins]) (one_u32 _) G w1 (below_drew HB2.out) (Nat.le_refl _) ?_
   ·exact fun _=>⟨rfl,_,rfl,(HG.out.below (HT.out.b.trans (HB2.out.mono (by omega))) (Nat.le_refl _)).addr⟩
   intro w3 hP3 hb3
   go_frame
   have hQ3:W32 w3 G 123 ([h0,h1,h2,h3,h4,h5,h6,h7]++Bl.begins):=W32.mk_ hP3.out rfl
   have HP3:=Lib.hid hQ3
   have HB3:=Lib.hid hb3
   clear hP3 hQ3 hb3 HP2 HB2 HP
   obtain ⟨x12,e12,c12,f12⟩:=HP3.out.get (i:=12) (by simp [Bl.begins])
   obtain ⟨x13,e13,c13,f13⟩:=HP3.out.get (i:=13) (by simp [Bl.begins])
   have hcw:IntKind.u32.wrap (count:Int)=((UInt32.ofNat count).toNat:Int):=by rw [IntKind.wrap_u32'];simp
   have hcv:IntKind.u32.wrap ((count:Int) / 4294967296)=((UInt32.ofNat (count / 4294967296)).toNat:Int):=by rw [IntKind.wrap_u32'];simp
   generalize hz1:UInt32.ofNat count=z1 at hcw
   generalize hz2:UInt32.ofNat (count / 4294967296)=z2 at hcv
   have HZ1:=Lib.hid hz1
   have HZ2:=Lib.hid hz2
   clear hz1 hz2
   go_upto_if 77 with (fail)
   have hP4:=(HP3.out.set 12 (xor32 x12 z1)).set 13 (xor32 x13 z2)
   have hb4:=(HB3.out.setCell (p:=⟨G,12,none⟩) (Nat.le_refl _) (.int .u32 ((xor32 x12 z1).toNat:Int))).setCell (p:=⟨G,13,none⟩) (Nat.le_refl _) (.int .u32 ((xor32 x13 z2).toNat:Int))
   generalize (w3.setCell ⟨G,12,none⟩ (.int .u32 ((xor32 x12 z1).toNat:Int))).setCell ⟨G,13,none⟩ (.int .u32 ((xor32 x13 z2).toNat:Int))=w4 at hP4 hb4 ⊢
   have HP4:=Lib.hid hP4
   have HB4:=Lib.hid hb4
   clear hP4 hb4 c12 f12 c13 f13 hcw hcv HP3 HB3
   obtain ⟨x14,e14,c14,f14⟩:=HP4.out.get (i:=14) (by simp [Bl.begins])
   have HST:Hid (Bl.start [h0,h1,h2,h3,h4,h5,h6,h7] count last=if last then ((([h0,h1,h2,h3,h4,h5,h6,h7]++Bl.begins).set 12 (xor32 x12 z1)).set 13 (xor32 x13 z2)).set 14 (not32 x14) else (([h0,h1,h2,h3,h4,h5,h6,h7]++Bl.begins).set 12 (xor32 x12 z1)).set 13 (xor32 x13 z2)):=by
    have a1:=e12.out;have a2:=e13.out;have a3:=e14.out;have a4:=HZ1.out;have a5:=HZ2.out
    subst a4 a5 a3 a2 a1
    rfl
   go_cut [77] (fun _ wx=>W32 wx G 123 (Bl.start [h0,h1,h2,h3,h4,h5,h6,h7] count last)∧Below G w1 wx)
   case first =>
    cases last
    ·go_wp2_with fail
     go_meet
     exact ⟨by rw [HST.out];exact HP4.out,HB4.out⟩
    ·go_wp2_with fail
     go_meet
     exact ⟨by rw [HST.out];exact HP4.out.set 14 _,HB4.out.setCell (p:=⟨G,14,none⟩) (Nat.le_refl _) _⟩
   case rest =>
    obtain ⟨hP5,hb5⟩:=hcut
    have HP5:=Lib.hid hP5
    have HB5:=Lib.hid hb5
    clear hP5 hb5 c14 f14 e14 e12 e13 HZ1 HZ2 HST HP4 HB4
    have hG5:=(HG.out.below (HT.out.b.trans (HB5.out.mono (by omega))) (Nat.le_refl _)).orders
    obtain ⟨s0,o0,O0⟩:=hG5 0 (by omega)
    obtain ⟨s1,o1,O1⟩:=hG5 1 (by omega)
    obtain ⟨s2,o2,O2⟩:=hG5 2 (by omega)
    obtain ⟨s3,o3,O3⟩:=hG5 3 (by omega)
    obtain ⟨s4,o4,O4⟩:=hG5 4 (by omega)
    obtain ⟨s5,o5,O5⟩:=hG5 5 (by omega)
    obtain ⟨s6,o6,O6⟩:=hG5 6 (by omega)
    obtain ⟨s7,o7,O7⟩:=hG5 7 (by omega)
    obtain ⟨s8,o8,O8⟩:=hG5 8 (by omega)
    obtain ⟨s9,o9,O9⟩:=hG5 9 (by omega)
    have HO:Hid (∀i:Nat,i<10->∃ba:ByteArray,(∀w,(Instr.index 124 (.agg #[Value.string s0,.string s1,.string s2,.string s3,.string s4,.string s5,.string s6,.string s7,.string s8,.string s9]) (.int .i64 (i:Int))).run Tryz.prog w=.ok (.string ba) w)∧ba.size=16∧ba.data.toList.map dig=Bl.orders.getD i []∧∀(j:Nat) (c:UInt8),ba.data.toList[j]?=some c->48<=c.toNat∧dig c<16):=by
     intro i hi
     match i,hi with
     | 0,_=>exact ⟨s0,fun _=>by kernel_rfl,O0⟩
     | 1,_=>exact ⟨s1,fun _=>by kernel_rfl,O1⟩
     | 2,_=>exact ⟨s2,fun _=>by kernel_rfl,O2⟩
     | 3,_=>exact ⟨s3,fun _=>by kernel_rfl,O3⟩
     | 4,_=>exact ⟨s4,fun _=>by kernel_rfl,O4⟩
     | 5,_=>exact ⟨s5,fun _=>by kernel_rfl,O5⟩
     | 6,_=>exact ⟨s6,fun _=>by kernel_rfl,O6⟩
     | 7,_=>exact ⟨s7,fun _=>by kernel_rfl,O7⟩
     | 8,_=>exact ⟨s8,fun _=>by kernel_rfl,O8⟩
     | 9,_=>exact ⟨s9,fun _=>by kernel_rfl,O9⟩
    clear O0 O1 O2 O3 O4 O5 O6 O7 O8 O9 hG5
    have hM:W32 wc (w.heap.size+1+1) 122 (Bl.words b 16):=by
     have:=(HT.out.below HB5.out hGs).m
     simpa [mk] using this
    have HM:=Lib.hid hM
    have hsl:(Bl.start [h0,h1,h2,h3,h4,h5,h6,h7] count last).length=16:=by cases last <;> rfl
    have HSL:=Lib.hid hsl
    clear hM hsl
    go_wp2_with fail
    go_loopw [83] (fun i wr=>∃k:Nat,k<=10∧i=.int .i64 k∧W32 wr G 123 (Bl.rounds (Bl.start [h0,h1,h2,h3,h4,h5,h6,h7] count last) (Bl.words b 16) k)∧Fr (·=G) wc wr) (fun i _=>10 - (intOf i).toNat)
    case atStart=>exact ⟨0,by omega,rfl,HP5.out,Fr.refl⟩
    case round =>
     obtain ⟨k,hk,rfl,hW,hF⟩:=hrel
     have HW:=Lib.hid hW
     have HF:=Lib.hid hF
     clear hW hF o0 o1 o2 o3 o4 o5 o6 o7 o8 o9
     by_cases hlt:k<10
     ·obtain ⟨ba,hix,hsz,hmp,hdg⟩:=HO.out k hlt
      have hi1:(k:Int)<10:=by omega
      have HS1:=Lib.hid hsz
      have HS2:=Lib.hid hmp
      have HS3:=Lib.hid hdg
      clear hsz hmp hdg
      go_wp2_with fail
      refine (round_any G (w.heap.size+1+1) _ _ _ _ ba _ HW.out (HM.out.fr HF.out (by omega)) (by rw [Bl.len_rounds];exact HSL.out) (by simp [Bl.words]) (by omega) HS1.out HS3.out).mono ?_
      rintro e w6 ⟨rfl,hW6,hF6⟩
      have HW6:=Lib.hid hW6
      have HF6:=Lib.hid hF6
      clear hW6 hF6
      go_wp2_with fail
      go_roundw
      case rel =>
       refine ⟨k+1,by omega,by go_num,?_,HF.out.trans HF6.out (fun _ _ h=>h)⟩
       have:=HW6.out
       rw [HS2.out] at this
       exact this
      case measure=>simp [intOf];omega
     ·obtain rfl:k=10:=by omega
      rw [show ((10:Nat):Int)=10 from rfl]
      have hT6:TS w wr [h0,h1,h2,h3,h4,h5,h6,h7] [0,0,0,0,0,0,0,0] (mk b 16):=(HT.out.below HB5.out hGs).below (HF.out.below (B:=G) (by have:=HB5.out.size;omega) (fun _ h=>by omega)) hGs
      have hrl:(Bl.rounds (Bl.start [h0,h1,h2,h3,h4,h5,h6,h7] count last) (Bl.words b 16) 10).length=16:=by rw [Bl.len_rounds];exact HSL.out
      have HPR:Hid (Bl.press [h0,h1,h2,h3,h4,h5,h6,h7] b count last=Bl.fin [h0,h1,h2,h3,h4,h5,h6,h7] (Bl.rounds (Bl.start [h0,h1,h2,h3,h4,h5,h6,h7] count last) (Bl.words b 16) 10) 8):=rfl
      have hWs:=HW.out
      generalize Bl.rounds (Bl.start [h0,h1,h2,h3,h4,h5,h6,h7] count last) (Bl.words b 16) 10=s at hWs hrl HPR
      have HWS:=Lib.hid hWs
      have HT6:=Lib.hid hT6
      have HRL:=Lib.hid hrl
      clear hWs hrl hT6 HW HF HO HSL HM HT HP5 HB5
      go_wp2_with fail
      go_loopw [89] (fun i wr=>∃k:Nat,k<=8∧i=.int .i64 k∧TS w wr (fn [h0,h1,h2,h3,h4,h5,h6,h7] s k) [0,0,0,0,0,0,0,0] (mk b 16)∧W32 wr G 123 s) (fun i _=>8 - (intOf i).toNat)
      case atStart=>exact ⟨0,by omega,rfl,HT6.out,HWS.out⟩
      case round =>
       clear HT6 HWS
       obtain ⟨k,hk,rfl,hT7,hW7⟩:=hrel
       have HT7:=Lib.hid hT7
       have HW7:=Lib.hid hW7
       clear hT7 hW7
       by_cases hlt:k<8
       ·have hi1:(k:Int)<8:=by omega
        obtain ⟨a1,ea1,ca1,fa1⟩:=HT7.out.h.get (i:=k) (by rw [fn_len _ _ _ HH.out hk];omega)
        obtain ⟨a2,ea2,ca2,_⟩:=HW7.out.get (i:=k) (by rw [HRL.out];omega)
        obtain ⟨a3,ea3,ca3,_⟩:=HW7.out.get (i:=k+8) (by rw [HRL.out];omega)
        go_wp2_with fail
        have hi2:(k:Int)+8<16:=by omega
        have hi3:(0:Int)<=(k:Int)+8:=by omega
        have hi4:((k:Int)+8).toNat=k+8:=by omega
        have hi5:(k:Int)<16:=by omega
        have hw1:IntKind.i64.wrap ((k:Int)+8)=(k:Int)+8:=IntWalk.i64_in _ (by omega)
        refine region_tail 13 (by kernel_rfl) (by kernel_rfl) ?_
        simp only [List.take_succ_cons,List.take_zero,List.drop_succ_cons,List.drop_zero]
        repeat still_step
        refine wpStill_nil ?_
        clear hw1 hi4
        go_wp2
        go_roundw
        case rel =>
         refine ⟨k+1,by omega,by go_num,?_,?_⟩
         ·rw [←fn_set _ s k HH.out hlt]
          have:=HT7.out.setH k (xor32 a1 (xor32 a2 a3))
          rw [←ea1.out,←ea2.out,←ea3.out,fn_at] at this
          rw [←ea1.out,←ea2.out,←ea3.out,fn_at]
          exact this
         ·exact (HW7.out.far (p:=⟨w.heap.size,k,none⟩) (by simp;omega) _)
        case measure=>simp [intOf];omega
       ·obtain rfl:k=8:=by omega
        rw [show ((8:Nat):Int)=8 from rfl]
        have HF8:Hid (fn [h0,h1,h2,h3,h4,h5,h6,h7] s 8=Bl.press [h0,h1,h2,h3,h4,h5,h6,h7] b count last):=by rw [HPR.out];show Bl.fin _ _ _++[]=_;simp
        have hfl:=fn_len [h0,h1,h2,h3,h4,h5,h6,h7] s 8 HH.out (by omega)
        have hT8:=HT7.out
        rw [HF8.out] at hT8 hfl
        generalize hpr:Bl.press [h0,h1,h2,h3,h4,h5,h6,h7] b count last=pr at hT8 hfl
        have HPE:=Lib.hid hpr
        clear hpr
        have HT8:=Lib.hid hT8
        have HFL:=Lib.hid hfl
        clear hT8 hfl HF8 HT7 HPR
        have hsz:((pr.map u32v).toArray).size=8:=by simp [HFL.out]
        have hin:(Tryz.prog.info? 107).map (·.size)=some ((pr.map u32v).toArray).size:=by rw [hsz];kernel_rfl
        have HSZ:=Lib.hid hsz
        have HIN:=Lib.hid hin
        clear hsz hin
        go_upto_region 24 with (fail)
        refine wp_region_lit ?_
        refine wpList_load_row rfl _ (.tmp 4) rfl w.heap.size rfl _ _ (0,0) _ HT8.out.h Tryz.underlying107 rfl HIN.out ?_
        refine wpList_store_row rfl _ (.tmp 8) (.tmp 106) rfl (w.heap.size+1) (pr.map u32v).toArray rfl rfl _ _ HT8.out.r HIN.out (by rw [HSZ.out];rfl) (all_u32 pr) ?_
        go_frame
        go_wp2_with fail
        refine bodyPost_ret (results_cell_row (by rfl) _ _ (w.heap.size+1) _ (pr.map u32v).toArray (0,0) _ (by rfl) (setRow_heap _ _ _ _ _ _ HT8.out.r) Tryz.underlying107 rfl HIN.out) rfl ?_
        exact ⟨by rw [HPE.out],below_setRow HT8.out.b (by omega) _⟩
end Go.Proofs.YtjjodibkmeefpaaGreatDoor.Old

namespace Go.Proofs.YtjjodibkmeefpaaGreatDoor.Old
open Go Go.RowKit
attribute [local go_sem high] bop_add32 bop_xor32 bop_or32 uop_not32

theorem begun_eq (n:Nat) (h:n<=32):bits .xor .u32 (bits .xor .u32 16842752 ((n:Int)*256)) 32=((xor32 (xor32 0x01010000 (UInt32.ofNat (256*n))) 32).toNat:Int):=by
 have e1:(n:Int)*256=(((UInt32.ofNat (256*n)).toNat:Nat):Int):=by
  rw [UInt32.toNat_ofNat']
  omega
 rw [e1,show (16842752:Int)=(((0x01010000:UInt32).toNat:Nat):Int) from rfl,show (32:Int)=(((32:UInt32).toNat:Nat):Int) from rfl,u32_xor_nat _ _ (u32_lt _) (u32_lt _),←UInt32.toNat_xor,u32_xor_nat _ _ (u32_lt _) (u32_lt _),←UInt32.toNat_xor]
 rfl

def W8 (w:World) (g:Nat) (t:TypeId) (l:List UInt8):Prop:=w.heap[g]?=some (.cells (l.map u8v).toArray t (0,0))
section
variable {w w':World} {g:Nat} {t:TypeId} {s:List UInt8}
theorem W8.lt (h:W8 w g t s):g<w.heap.size:=(Array.getElem?_eq_some_iff.1 h).1
theorem W8.cell (h:W8 w g t s) {i:Nat} (hi:i<s.length):w.cell? ⟨g,i,none⟩=some (.int .u8 ((s.getD i 0).toNat:Int)):=by
 rw [cell_of_row w g i _ t (0,0) h]
 simp [hi]
theorem W8.frozen (h:W8 w g t s) (i:Nat):w.frozen? ⟨g,i,none⟩=false:=frozen_of_row w g i _ t h
theorem W8.set (h:W8 w g t s) (i:Nat) (x:UInt8):W8 (w.setCell ⟨g,i,none⟩ (.int .u8 (x.toNat:Int))) g t (s.set i x):=by
 unfold W8 at h ⊢
 rw [heap_setCell_same w g i _ t _ h,List.map_set]
 simp
theorem W8.keep (h:W8 w g t s) (hk:w'.heap[g]?=w.heap[g]?):W8 w' g t s:=hk.trans h
theorem W8.far (h:W8 w g t s) {p:Addr} (hp:g≠p.block) (u:Value):W8 (w.setCell p u) g t s:=h.keep (Below.heap_setCell w p u g hp)
theorem W8.b8 (h:W8 w g t s):B8 w g s:=fun _ hi=>h.cell hi
end
structure KS (w:World) (H:Nat) (wr:World) (h:List UInt32):Prop where
 r:W8 wr w.heap.size 25 (List.replicate 32 0)
 h:W32 wr H 107 h
 b:Below w.heap.size w wr
 lt:w.heap.size<H
theorem KS.below {w wr w':World} {H:Nat} {h:List UInt32} (K:KS w H wr h) {B:Nat} (hb:Below B wr w') (hB:H<B):KS w H w' h :=
 ⟨K.r.keep (hb.block _ (by have:=K.lt;omega)),K.h.keep (hb.block _ (by omega)),K.b.trans (hb.mono (by have:=K.lt;omega)),K.lt⟩
theorem made_own (w:World) (base c:Nat) (hb:base<=w.heap.size) (hc:c<=maxLen):OwnB (w.alloc (.cells (madeCells (Value.int .u8 0).cells c) 5)) base (.slice (some ⟨w.heap.size,0,none⟩) 0 c) [] :=
 ⟨rfl,.inr ⟨w.heap.size,c,_,rfl,hb,heap_alloc_new w _,Nat.zero_le _,hc,by rw [size_madeCells,Nat.mul_one],by simp⟩⟩
theorem make_b (w:World) (kl kc:IntKind) (c:Int) (hc:0<=c) (h:c<=100000000000000):(Instr.makeSlice 23 (.int kl 0) (.int kc c)).run Tryz.prog w=.ok (.slice (some ⟨w.heap.size,0,none⟩) 0 c.toNat) (w.alloc (.cells (madeCells (Value.int .u8 0).cells c.toNat) 5)):=by
 obtain ⟨i,hi,hz,hs1,hb1⟩:=info_parts info_u8
 have:=run_make (P:=Tryz.prog) w 23 5 i _ Tryz.underlying23 hi hz kl kc 0 c (by omega) hc (by rw [hb1];omega) (by omega)
 rw [hs1,Nat.mul_one] at this
 exact this

theorem Rd.alloc {w:World} {S:Nat->Prop} {size:Nat} {A:Option Addr} {n:Nat} {xs:List Value} (h:Rd w S size A n xs) (o:Obj):Rd (w.alloc o) S size A n xs:=h.keep fun _ hg _=>heap_alloc_old w o hg

def sliceLen:Value->Nat
 | .slice _ n _=>n
 | _=>0
theorem absorb_last (f:Nat) (h:List UInt32) (t:List UInt8) (c:Nat) (hl:t.length<=64) (hf:0<f):Bl.absorb f h t c=Bl.press h (Bl.piece t) (c+t.length) true:=by
 cases f with
 | zero=>omega
 | succ f =>
  unfold Bl.absorb
  rw [Nat.min_eq_right hl,if_pos hl,decide_eq_true hl]
theorem absorb_more (f:Nat) (h:List UInt32) (t:List UInt8) (c:Nat) (hl:¬t.length<=64):Bl.absorb (f+1) h t c=Bl.absorb f (Bl.press h (Bl.piece t) (c+64) false) (t.drop 64) (c+64):=by
 conv=>lhs;unfold Bl.absorb
 rw [Nat.min_eq_left (by omega),if_neg hl,decide_eq_false hl]
theorem len_press (h:List UInt32) (b:List UInt8) (c:Nat) (l:Bool):(Bl.press h b c l).length=8:=Bl.len_fin _ _ _
theorem len_absorb:∀(f:Nat) (h:List UInt32) (t:List UInt8) (c:Nat),h.length=8->(Bl.absorb f h t c).length=8
 | 0,_,_,_,hh=>hh
 | f+1,h,t,c,_=>by
  unfold Bl.absorb
  split
  ·exact len_press _ _ _ _
  ·exact len_absorb f _ _ _ (len_press _ _ _ _)
theorem len_piece (t:List UInt8):(Bl.piece t).length=64:=by simp [Bl.piece];omega
theorem piece_eq (t:List UInt8):splice ((List.replicate 64 (0:UInt8)).map u8v) 0 ((t.take 64).map u8v)=(Bl.piece t).map u8v:=by
 have e:64 - min 64 t.length=64 - t.length:=by omega
 have h:∀n:Nat,splice ((List.replicate n (0:UInt8)).map u8v) 0 ((t.take n).map u8v)=(t.take n++List.replicate (n - min n t.length) 0).map u8v:=by
  intro n
  simp [splice]
 rw [h 64,e]
 rfl
theorem Rd.srcs {w:World} {S:Nat->Prop} {A:Option Addr} {t:List UInt8} (h:Rd w S 1 A t.length (t.map u8v)) (k:Nat) (h0:0<((t.take k).map u8v).length):∃ad,A=some ad∧∀j v,((t.take k).map u8v)[j]?=some v->w.cell? (ad.add j)=some v:=by
 obtain ⟨g,o,rfl,_,hc⟩:=h.2 (by rw [List.length_map,List.length_take] at h0;omega)
 refine ⟨_,rfl,fun j v hv=>?_⟩
 have hadd:(⟨g,o,none⟩:Addr).add j=⟨g,o+j,none⟩:=by unfold Addr.add;split <;> simp_all
 rw [hadd]
 refine hc j v ?_
 rw [List.map_take,List.getElem?_take] at hv
 split at hv
 ·exact hv
 ·cases hv
theorem copy_piece {S:Nat->Prop} {w:World} {ops:Array Oper} {rest:List Oper} {o:Oper} {a:Act} {Q:Exit->Act->World->Prop} (hgd:o.guard=none) (d s:Operand)
  (ho:o.op=.call { callee:=.builtin .copy,args:=#[d,s],argTypes:=#[23,23] }) (P:Nat) (T:TypeId) (A:Option Addr) (c:Nat) (t:List UInt8)
  (hd:a.eval d=.slice (some ⟨P,0,none⟩) 64 64) (hs:a.eval s=.slice A t.length c) (hP:W8 w P T (List.replicate 64 0)) (hR:Rd w S 1 A t.length (t.map u8v)) (B:Nat) (w0:World) (hb:Below B w0 w) (hBP:B<=P)
  (h:∀w',W8 w' P T (Bl.piece t)->Below B w0 w'->wpList Tryz.prog ops Q rest (a.put o.dst (.int .i64 ((min 64 t.length:Nat):Int))) w'):wpList Tryz.prog ops Q (o::rest) a w:=by
 have hl:((t.take 64).map u8v).length=min 64 t.length:=by simp
 refine wpList_copy_splice hgd d s _ _ ho 5 Tryz.underlying23 (by kernel_rfl) _ _ 64 64 t.length c hd hs P 0 _ T hP ((t.take 64).map u8v) (hl.trans (Nat.min_comm _ _)) (fun h0=>⟨rfl,hR.srcs 64 h0⟩) (by rw [hl];simp;omega) (one_u8 _) B w0 hb hBP (fun w' h1 h2=>?_)
 rw [hl]
 refine h w' ?_ h2
 have:=h1.out
 rw [piece_eq] at this
 exact this
theorem KS.setH {w wr:World} {H:Nat} {h h':List UInt32} (K:KS w H wr h):KS w H (wr.setRow H (h'.map u32v).toArray) h' :=
 ⟨K.r.keep (setRow_other _ _ _ _ (by have:=K.lt;omega)),setRow_heap _ _ _ _ _ _ K.h,below_setRow K.b (by have:=K.lt;omega) _,K.lt⟩
theorem Bs.other {w:World} {g:Nat} {v:Value} {l:List UInt8} (h:Bs w (·≠g) v l) (cs:Array Value):Bs (w.setRow g cs) (·≠g) v l:=h.keep fun _ _ hk=>setRow_other _ _ _ _ hk
theorem info_words:(Tryz.prog.info? 107).map (·.size)=some 8:=by kernel_rfl

theorem info_words_of {h:List UInt32} (hh:h.length=8):(Tryz.prog.info? 107).map (·.size)=some (h.map u32v).toArray.size:=by
 rw [info_words];simp [hh]
theorem take_at (h:List UInt32) (hh:h.length=8) (g:Nat) (b:List UInt8) (hb:b.length=64) (z:Int) (count:Nat) (hz:z=count) (last:Bool) (w:World) (hB:B8 w g b) (hG:Gl w) :
  Calls Tryz.prog 62 #[.agg (h.map u32v).toArray,.pointer (some ⟨g,0,none⟩),.int .u64 z,.bool last] w
   fun e w'=>e=.returned (.agg ((Bl.press h b count last).map u32v).toArray)∧Below w.heap.size w w':=by
 subst hz
 exact take_any h hh g b hb count last w hB hG

def outk (h:List UInt32) (k:Nat):List UInt8:=Bl.out h k++List.replicate (32 - k) 0
theorem outk_len (h:List UInt32) (k:Nat) (hk:k<=32):(outk h k).length=32:=by simp [outk,Bl.len_out];omega
theorem outk_set (h:List UInt32) (k:Nat) (hk:k<32):(outk h k).set k (UInt8.ofNat ((h.getD (k / 4) 0).toNat / 2 ^ (8*(k % 4))))=outk h (k+1):=by
 have hl:=Bl.len_out h k
 unfold outk
 rw [List.set_append_right _ _ (by omega),hl,Nat.sub_self,show 32 - k=(32 - (k+1))+1 by omega,List.replicate_succ,List.set_cons_zero]
 simp [Bl.out,List.range_succ]
theorem KS.far {w wr:World} {H:Nat} {h:List UInt32} (K:KS w H wr h) {p:Addr} (hp:H<p.block) (u:Value):KS w H (wr.setCell p u) h :=
 ⟨K.r.far (by have:=K.lt;omega) u,K.h.far (by omega) u,K.b.setCell (by have:=K.lt;omega) u,K.lt⟩
theorem all_u8 (l:List UInt8):(l.map u8v).toArray.all (·.oneCell')=true:=by
 rw [List.all_toArray];exact List.all_eq_true.2 (one_u8 l)
theorem info_hash:(Tryz.prog.info? 25).map (·.size)=some 32:=by kernel_rfl

def keyedPost (w:World) (out:List UInt8) (e:Ending) (w':World):Prop:=e=.returned (.agg (out.map u8v).toArray)∧Below w.heap.size w w'

theorem info_hash_of {l:List UInt8} (hl:l.length=32):(Tryz.prog.info? 25).map (·.size)=some (l.map u8v).toArray.size:=by rw [info_hash];simp [hl]
def kk (key:List UInt8):List UInt8:=if key.length<=32 then key else Bl.sum key
theorem kk_len (key:List UInt8):(kk key).length<=32:=by
 unfold kk
 split
 ·assumption
 ·rw [Bl.len_sum];omega
theorem keyed_kk (key b:List UInt8):Bl.keyed key b=Bl.keyed32 (kk key) b:=by unfold Bl.keyed kk;split <;> rfl

set_option maxRecDepth 100000 in
set_option maxHeartbeats 1000000 in
theorem keyed_gen {S S':Nat->Prop} (kv bv:Value) (key b:List UInt8) (w:World) (hk:Bs w S kv key) (hb:Bs w S' bv b) (hbl:b.length<=1000000000000) (hG:Gl w)
  (hsum:32<key.length->∀W,Bs W S kv key->Gl W->Calls Tryz.prog 24 #[kv] W (keyedPost W (Bl.sum key))) :
  Calls Tryz.prog 48 #[kv,bv] w (keyedPost w (Bl.keyed key b)):=by
 rw [keyed_kk]
 obtain ⟨Ak,ck,rfl,hck,hck2,hrk⟩:=hk.op
 obtain ⟨Ab,cb,rfl,hcb,hcb2,hrb⟩:=hb.op
 have HK:=Lib.hid hrk
 have HB:=Lib.hid hrb
 have HG:=Lib.hid hG
 have HS:=Lib.hid hsum
 clear hk hb hrk hrb hsum hG
 go_enter Tryz.func48,Tryz.ntmps48
 go_upto_if 15 with (fail)
 go_cut [0] (fun v wx=>∃kv',v=kv'∧Bs wx (fun _=>True) kv' (kk key)∧W8 wx w.heap.size 25 (List.replicate 32 0)∧Below w.heap.size w wx)
 case first =>
  have hR:W8 (w.alloc (.cells #[.int .u8 0,.int .u8 0,.int .u8 0,.int .u8 0,.int .u8 0,.int .u8 0,.int .u8 0,.int .u8 0,.int .u8 0,.int .u8 0,.int .u8 0,.int .u8 0,.int .u8 0,.int .u8 0,.int .u8 0,.int .u8 0,.int .u8 0,.int .u8 0,.int .u8 0,.int .u8 0,.int .u8 0,.int .u8 0,.int .u8 0,.int .u8 0,.int .u8 0,.int .u8 0,.int .u8 0,.int .u8 0,.int .u8 0,.int .u8 0,.int .u8 0,.int .u8 0] 25)) w.heap.size 25 (List.replicate 32 0):=heap_alloc_new w _
  have hB:Below w.heap.size w (w.alloc (.cells #[.int .u8 0,.int .u8 0,.int .u8 0,.int .u8 0,.int .u8 0,.int .u8 0,.int .u8 0,.int .u8 0,.int .u8 0,.int .u8 0,.int .u8 0,.int .u8 0,.int .u8 0,.int .u8 0,.int .u8 0,.int .u8 0,.int .u8 0,.int .u8 0,.int .u8 0,.int .u8 0,.int .u8 0,.int .u8 0,.int .u8 0,.int .u8 0,.int .u8 0,.int .u8 0,.int .u8 0,.int .u8 0,.int .u8 0,.int .u8 0,.int .u8 0,.int .u8 0] 25)):=(Below.refl _ _).alloc (Nat.le_refl _) _
  generalize w.alloc (.cells #[.int .u8 0,.int .u8 0,.int .u8 0,.int .u8 0,.int .u8 0,.int .u8 0,.int .u8 0,.int .u8 0,.int .u8 0,.int .u8 0,.int .u8 0,.int .u8 0,.int .u8 0,.int .u8 0,.int .u8 0,.int .u8 0,.int .u8 0,.int .u8 0,.int .u8 0,.int .u8 0,.int .u8 0,.int .u8 0,.int .u8 0,.int .u8 0,.int .u8 0,.int .u8 0,.int .u8 0,.int .u8 0,.int .u8 0,.int .u8 0,.int .u8 0,.int .u8 0] 25)=w0 at hR hB ⊢
  have HR:=Lib.hid hR
  have HB0:=Lib.hid hB
  clear hR hB
  by_cases hlong:key.length<=32
  ·have hd0:decide (32<key.length)=false:=decide_eq_false (by omega)
   have hd1:¬32<key.length:=by omega
   have hd2:¬(32:Int)<(key.length:Int):=by omega
   go_wp2_with fail
   go_meet
   refine ⟨_,rfl,?_,HR.out,HB0.out⟩
   rw [kk,if_pos hlong]
   exact Bs.mk ((HK.out.mono (fun _ _ _=>trivial)).below HB0.out (Nat.le_refl _)) hck hck2
  ·have hd0:decide (32<key.length)=true:=decide_eq_true (by omega)
   have hd1:32<key.length:=by omega
   have hd2:(32:Int)<(key.length:Int):=by omega
   have hbs:Bs w0 S (.slice Ak key.length ck) key:=Bs.mk (HK.out.below HB0.out (Nat.le_refl _)) hck hck2
   have hg0:=HG.out.below HB0.out (Nat.le_refl _)
   have HBS:=Lib.hid hbs
   have HG0:=Lib.hid hg0
   have HSL:=Lib.hid (Bl.len_sum key)
   clear hbs hg0
   go_wp2_with (first
    | (go_at_call 24;refine (HS.out hd1 _ HBS.out HG0.out).mono ?_;rintro e w1 ⟨rfl,hb1⟩;have HB1:=Lib.hid hb1;clear hb1)
    | (refine wpList_store_row rfl _ (.tmp 5) (.tmp 17) rfl w1.heap.size ((Bl.sum key).map u8v).toArray rfl rfl _ _ (heap_alloc_new w1 _) (info_hash_of HSL.out) (by simp [HSL.out]) (all_u8 _) ?_))
   go_meet
   have hB1:Below w0.heap.size w0 ((w1.alloc (.cells #[.int .u8 0,.int .u8 0,.int .u8 0,.int .u8 0,.int .u8 0,.int .u8 0,.int .u8 0,.int .u8 0,.int .u8 0,.int .u8 0,.int .u8 0,.int .u8 0,.int .u8 0,.int .u8 0,.int .u8 0,.int .u8 0,.int .u8 0,.int .u8 0,.int .u8 0,.int .u8 0,.int .u8 0,.int .u8 0,.int .u8 0,.int .u8 0,.int .u8 0,.int .u8 0,.int .u8 0,.int .u8 0,.int .u8 0,.int .u8 0,.int .u8 0,.int .u8 0] 25)).setRow w1.heap.size ((Bl.sum key).map u8v).toArray):=below_setRow (HB1.out.alloc HB1.out.size _) HB1.out.size _
   refine ⟨_,rfl,?_,HR.out.keep (hB1.block _ HR.out.lt),HB0.out.trans (hB1.mono HB0.out.size)⟩
   rw [kk,if_neg hlong]
   refine Bs.mk ⟨by simp [HSL.out],fun _=>⟨w1.heap.size,0,rfl,⟨by simp [World.setRow],trivial⟩,fun j u hu=>?_⟩⟩ (Nat.le_refl _) (by omega)
   rw [Nat.zero_add,cell_of_row _ _ _ _ _ _ (setRow_heap _ _ _ _ _ _ (heap_alloc_new w1 _))]
   simpa using hu
 case rest =>
  obtain ⟨kv',rfl,hbk,hR,hB⟩:=hcut
  obtain ⟨wk,rfl⟩:∃wk,wk=wc:=⟨_,rfl⟩
  have hwk:w.heap.size<wk.heap.size:=hR.lt
  have hkl:=kk_len key
  generalize hkk:kk key=key at hbk hkl
  have HKK:=Lib.hid hkk
  clear hkk
  clear HS HK
  obtain ⟨Ak,ck,rfl,hck,hck2,hrk⟩:=hbk.op
  have HK:=Lib.hid hrk
  have HR:=Lib.hid hR
  have HB0:=Lib.hid hB
  have hG:=HG.out.below hB (Nat.le_refl _)
  clear hbk hrk hR hB
  obtain ⟨x0,e0,hc0⟩:∃x,Hid (Bl.begins.getD 0 0=x)∧wk.cell? ⟨0,0,none⟩=some (.int .u32 (x.toNat:Int)):=⟨_,rfl,hG.begins 0 (by omega)⟩
  obtain ⟨x1,e1,hc1⟩:∃x,Hid (Bl.begins.getD 1 0=x)∧wk.cell? ⟨0,1,none⟩=some (.int .u32 (x.toNat:Int)):=⟨_,rfl,hG.begins 1 (by omega)⟩
  obtain ⟨x2,e2,hc2⟩:∃x,Hid (Bl.begins.getD 2 0=x)∧wk.cell? ⟨0,2,none⟩=some (.int .u32 (x.toNat:Int)):=⟨_,rfl,hG.begins 2 (by omega)⟩
  obtain ⟨x3,e3,hc3⟩:∃x,Hid (Bl.begins.getD 3 0=x)∧wk.cell? ⟨0,3,none⟩=some (.int .u32 (x.toNat:Int)):=⟨_,rfl,hG.begins 3 (by omega)⟩
  obtain ⟨x4,e4,hc4⟩:∃x,Hid (Bl.begins.getD 4 0=x)∧wk.cell? ⟨0,4,none⟩=some (.int .u32 (x.toNat:Int)):=⟨_,rfl,hG.begins 4 (by omega)⟩
  obtain ⟨x5,e5,hc5⟩:∃x,Hid (Bl.begins.getD 5 0=x)∧wk.cell? ⟨0,5,none⟩=some (.int .u32 (x.toNat:Int)):=⟨_,rfl,hG.begins 5 (by omega)⟩
  obtain ⟨x6,e6,hc6⟩:∃x,Hid (Bl.begins.getD 6 0=x)∧wk.cell? ⟨0,6,none⟩=some (.int .u32 (x.toNat:Int)):=⟨_,rfl,hG.begins 6 (by omega)⟩
  obtain ⟨x7,e7,hc7⟩:∃x,Hid (Bl.begins.getD 7 0=x)∧wk.cell? ⟨0,7,none⟩=some (.int .u32 (x.toNat:Int)):=⟨_,rfl,hG.begins 7 (by omega)⟩
  have hgl:=hG.lt.1
  have HGc:=Lib.hid hG
  clear hG
  have hx:=begun_eq key.length hkl
  generalize hz:xor32 (xor32 0x01010000 (UInt32.ofNat (256*key.length))) 32=z at hx
  have HBG:Hid (Bl.begun key.length=[xor32 x0 z,x1,x2,x3,x4,x5,x6,x7]):=by
   have a0:=e0.out;have a1:=e1.out;have a2:=e2.out;have a3:=e3.out;have a4:=e4.out;have a5:=e5.out;have a6:=e6.out;have a7:=e7.out
   subst hz a0 a1 a2 a3 a4 a5 a6 a7
   rfl
  clear hz e0 e1 e2 e3 e4 e5 e6 e7
  go_upto_if 33 with (fail)
  go_cut [7] (fun v wx=>∃tv,v=tv∧KS w wk.heap.size wx (Bl.begun key.length)∧Bs wx (·≠wk.heap.size) tv (Bl.text key b))
  case first =>
   have hks:KS w wk.heap.size (wk.alloc (.cells #[.int .u32 ((xor32 x0 z).toNat:Int),.int .u32 (x1.toNat:Int),.int .u32 (x2.toNat:Int),.int .u32 (x3.toNat:Int),.int .u32 (x4.toNat:Int),.int .u32 (x5.toNat:Int),.int .u32 (x6.toNat:Int),.int .u32 (x7.toNat:Int)] 107)) (Bl.begun key.length):=by
    refine ⟨HR.out.keep (heap_alloc_old _ _ hwk),?_,HB0.out.alloc HB0.out.size _,hwk⟩
    rw [HBG.out]
    exact heap_alloc_new wk _
   have hlt:wk.heap.size<(wk.alloc (.cells #[.int .u32 ((xor32 x0 z).toNat:Int),.int .u32 (x1.toNat:Int),.int .u32 (x2.toNat:Int),.int .u32 (x3.toNat:Int),.int .u32 (x4.toNat:Int),.int .u32 (x5.toNat:Int),.int .u32 (x6.toNat:Int),.int .u32 (x7.toNat:Int)] 107)).heap.size:=by simp
   have hkb:∀g,g<wk.heap.size->(wk.alloc (.cells #[.int .u32 ((xor32 x0 z).toNat:Int),.int .u32 (x1.toNat:Int),.int .u32 (x2.toNat:Int),.int .u32 (x3.toNat:Int),.int .u32 (x4.toNat:Int),.int .u32 (x5.toNat:Int),.int .u32 (x6.toNat:Int),.int .u32 (x7.toNat:Int)] 107)).heap[g]?=wk.heap[g]?:=fun g hg=>heap_alloc_old _ _ hg
   generalize (wk.alloc (.cells #[.int .u32 ((xor32 x0 z).toNat:Int),.int .u32 (x1.toNat:Int),.int .u32 (x2.toNat:Int),.int .u32 (x3.toNat:Int),.int .u32 (x4.toNat:Int),.int .u32 (x5.toNat:Int),.int .u32 (x6.toNat:Int),.int .u32 (x7.toNat:Int)] 107))=w0 at hks hlt hkb ⊢
   have HKB:Hid (∀g,g<wk.heap.size->w0.heap[g]?=wk.heap[g]?):=hkb
   have HKS:=Lib.hid hks
   clear hkb hks hc0 hc1 hc2 hc3 hc4 hc5 hc6 hc7 hx HBG
   by_cases hk0:key.length=0
   ·have hd0:decide (0<key.length)=false:=decide_eq_false (by omega)
    have hd1:¬0<key.length:=by omega
    have HT:Hid (Bl.text key b=b):=by unfold Bl.text;rw [if_pos hk0];rfl
    clear hk0
    go_wp2_with fail
    go_meet
    refine ⟨_,rfl,HKS.out,?_⟩
    rw [HT.out]
    exact Bs.mk ((HB.out.mono (S':=(·≠wk.heap.size)) (fun g hg _=>by omega)).below HKS.out.b (Nat.le_refl _)) hcb hcb2
   ·have hd0:decide (0<key.length)=true:=decide_eq_true (by omega)
    have HT:Hid (Bl.text key b=key++List.replicate (64 - key.length) 0++b):=by unfold Bl.text;rw [if_neg hk0];rfl
    have hk1:0<key.length:=by omega
    clear hk0
    have hmk:=fun W=>make_b W .i64 .i64 (64+(b.length:Int)) (by omega) (by omega)
    have hmx:(64+(b.length:Int)).toNat<=maxLen:=by simp only [maxLen];omega
    have hl1:([]:List UInt8).length+key.length<=1099511627776:=by simp;omega
    have hl2:key.length+(64 - key.length)<=1099511627776:=by omega
    have hl3:(key++List.replicate (64 - key.length) 0).length+b.length<=1099511627776:=by simp;omega
    go_wp2_with (first
     | (at_builtin;refine app_b rfl (.tmp 37) (.tmp 38) rfl w0.heap.size _ [] rfl (made_own w0 _ _ (Nat.le_refl _) hmx) _ Ak key.length ck key rfl ((HK.out.keep (w':=w0) (fun g hg _=>HKB.out g hg)).alloc _) hl1 (by simp) ?_;intro v1 w1 ho1 hg1 _;have hb1:Below w0.heap.size w0 w1:=((Below.refl _ _).alloc (Nat.le_refl _) _).grown hg1 (by simp) (fun g hg=>by cases hg;exact Nat.le_refl _);simp only [List.nil_append] at ho1;clear hg1)
     | (at_builtin;refine app_zeros rfl (.tmp 39) (.tmp 42) rfl w0.heap.size _ key rfl ho1 .i64 _ (64 - key.length) (by omega) rfl (by omega) hk1 hl2 hb1.size ?_;intro v2 w2 ho2 hg2 _;have hb2:Below w0.heap.size w0 w2:=hb1.grown hg2 hb1.size (fun g hg=>(ho1.lt g hg).1);clear hg2)
     | (at_builtin;refine app_b rfl (.tmp 43) (.tmp 44) rfl w0.heap.size _ _ rfl ho2 S' Ab b.length cb b rfl ((HB.out.below HKS.out.b (Nat.le_refl _)).below hb2 (Nat.le_refl _)) hl3 hb2.size ?_;intro v3 w3 ho3 hg3 _;have hb3:Below w0.heap.size w0 w3:=hb2.grown hg3 hb2.size (fun g hg=>(ho2.lt g hg).1);clear hg3))
    go_meet
    refine ⟨_,rfl,HKS.out.below hb3 hlt,?_⟩
    rw [HT.out]
    exact ho3.bs.mono (fun g _ hg=>by omega)
  case rest =>
   obtain ⟨tv,rfl,hks,ht⟩:=hcut
   have HKS:=Lib.hid hks
   have HT:=Lib.hid ht
   have HRES:Hid (Bl.keyed32 key b=Bl.out (Bl.absorb ((Bl.text key b).length+1) (Bl.begun key.length) (Bl.text key b) 0) 32):=rfl
   generalize hR:Bl.absorb ((Bl.text key b).length+1) (Bl.begun key.length) (Bl.text key b) 0=R at HRES
   have HR:=Lib.hid hR
   have htl:(Bl.text key b).length<=1000000000064:=by
    unfold Bl.text
    split
    ·omega
    ·simp;omega
   clear hks ht hR hc0 hc1 hc2 hc3 hc4 hc5 hc6 hc7 hx HBG HK HB
   have hrl:R.length=8:=by rw [←HR.out];exact len_absorb _ _ _ _ (by simp [Bl.begun,Bl.begins])
   have HRL:=Lib.hid hrl
   clear hrl
   go_upto_block 0 with (fail)
   go_cut [6] (fun v wx=>v=.pointer (some ⟨wk.heap.size,0,none⟩)∧KS w wk.heap.size wx R)
   case first =>
    go_wp2_with fail
    go_loopw [7,8] (fun v7 v8 wr=>∃(tv:Value) (t:List UInt8) (h:List UInt32) (c f:Nat),v7=tv∧v8=.int .u64 c∧KS w wk.heap.size wr h∧Bs wr (·≠wk.heap.size) tv t∧t.length<f∧Bl.absorb f h t c=R∧h.length=8∧c+t.length<=1000000000064) (fun v7 _ _=>sliceLen v7)
    case atStart=>exact ⟨_,_,_,0,_,rfl,rfl,HKS.out,HT.out,Nat.lt_succ_self _,HR.out,by simp [Bl.begun,Bl.begins],by omega⟩
    case round =>
     clear HKS HT HR
     obtain ⟨tv,t,h,c,f,rfl,rfl,hks,ht,hf,hR,hh,hcl⟩:=hrel
     obtain ⟨A,cp,rfl,hcp,hcp2,hr⟩:=ht.op
     have HKS:=Lib.hid hks
     have HT:=Lib.hid hr
     have HR:=Lib.hid hR
     have HH:=Lib.hid hh
     have hsz:wk.heap.size<wr.heap.size:=hks.h.lt
     clear ht hks hR hh hr
     have hP:W8 (wr.alloc (.cells #[.int .u8 0,.int .u8 0,.int .u8 0,.int .u8 0,.int .u8 0,.int .u8 0,.int .u8 0,.int .u8 0,.int .u8 0,.int .u8 0,.int .u8 0,.int .u8 0,.int .u8 0,.int .u8 0,.int .u8 0,.int .u8 0,.int .u8 0,.int .u8 0,.int .u8 0,.int .u8 0,.int .u8 0,.int .u8 0,.int .u8 0,.int .u8 0,.int .u8 0,.int .u8 0,.int .u8 0,.int .u8 0,.int .u8 0,.int .u8 0,.int .u8 0,.int .u8 0,.int .u8 0,.int .u8 0,.int .u8 0,.int .u8 0,.int .u8 0,.int .u8 0,.int .u8 0,.int .u8 0,.int .u8 0,.int .u8 0,.int .u8 0,.int .u8 0,.int .u8 0,.int .u8 0,.int .u8 0,.int .u8 0,.int .u8 0,.int .u8 0,.int .u8 0,.int .u8 0,.int .u8 0,.int .u8 0,.int .u8 0,.int .u8 0,.int .u8 0,.int .u8 0,.int .u8 0,.int .u8 0,.int .u8 0,.int .u8 0,.int .u8 0,.int .u8 0] 110)) wr.heap.size 110 (List.replicate 64 0):=heap_alloc_new wr _
     have hB:Below wr.heap.size wr (wr.alloc (.cells #[.int .u8 0,.int .u8 0,.int .u8 0,.int .u8 0,.int .u8 0,.int .u8 0,.int .u8 0,.int .u8 0,.int .u8 0,.int .u8 0,.int .u8 0,.int .u8 0,.int .u8 0,.int .u8 0,.int .u8 0,.int .u8 0,.int .u8 0,.int .u8 0,.int .u8 0,.int .u8 0,.int .u8 0,.int .u8 0,.int .u8 0,.int .u8 0,.int .u8 0,.int .u8 0,.int .u8 0,.int .u8 0,.int .u8 0,.int .u8 0,.int .u8 0,.int .u8 0,.int .u8 0,.int .u8 0,.int .u8 0,.int .u8 0,.int .u8 0,.int .u8 0,.int .u8 0,.int .u8 0,.int .u8 0,.int .u8 0,.int .u8 0,.int .u8 0,.int .u8 0,.int .u8 0,.int .u8 0,.int .u8 0,.int .u8 0,.int .u8 0,.int .u8 0,.int .u8 0,.int .u8 0,.int .u8 0,.int .u8 0,.int .u8 0,.int .u8 0,.int .u8 0,.int .u8 0,.int .u8 0,.int .u8 0,.int .u8 0,.int .u8 0,.int .u8 0] 110)):=(Below.refl _ _).alloc (Nat.le_refl _) _
     have HP:=Lib.hid hP
     have HB:=Lib.hid hB
     clear hP hB
     obtain ⟨n,hn,hn2,hn3⟩:∃n:Nat,min 64 t.length=n∧n<=64∧n<=t.length:=⟨_,rfl,by omega,by omega⟩
     have HN:=Lib.hid hn
     by_cases hlast:t.length<=64
     ·have hn4:t.length<=n:=by omega
      clear hn
      have hcn2:(((t.length - n:Nat):Int) == 0)=true:=by rw [beq_iff_eq];omega
      have hcn3:t.length - n=0:=by omega
      go_wp2_with (first
       | (refine copy_piece rfl (.tmp 46) (.tmp 47) rfl wr.heap.size _ A cp t rfl rfl HP.out (HT.out.alloc _) wr.heap.size wr HB.out (Nat.le_refl _) ?_;intro w1 hp1 hb1;have HP1:=Lib.hid hp1;have HB1:=Lib.hid hb1;clear hp1 hb1;rw [HN.out];have HK1:=Lib.hid (HKS.out.below HB1.out hsz))
       | (refine wpList_load_row rfl _ (.tmp 6) rfl (wk.heap.size) rfl _ _ (0,0) _ HK1.out.h Tryz.underlying107 rfl (info_words_of HH.out) ?_)
       | (go_at_call 62;refine (take_at h HH.out wr.heap.size (Bl.piece t) (len_piece t) _ (c+t.length) (by omega) true _ HP1.out.b8 (HG.out.below HK1.out.b (Nat.le_refl _))).mono ?_;rintro e w2 ⟨rfl,hb2⟩;have HB2:=Lib.hid hb2;clear hb2;have HK2:=Lib.hid (HK1.out.below HB2.out HK1.out.h.lt))
       | (refine wpList_store_row rfl _ (.tmp 6) (.tmp 61) rfl (wk.heap.size) ((Bl.press h (Bl.piece t) (c+t.length) true).map u32v).toArray rfl rfl _ _ HK2.out.h (info_words_of (len_press _ _ _ _)) (by simp [HH.out,len_press]) (all_u32 _) ?_))
      all_goals
       go_meet
       have hA:=HR.out
       rw [absorb_last _ _ _ _ hlast (by omega)] at hA
       rw [←hA]
       exact ⟨rfl,HK2.out.setH⟩
     ·have hn4:64<=n:=by omega
      clear hn
      have hcn:¬cp=n:=by omega
      have hcn0:0<t.length - n:=by omega
      have hcn1:((t.length:Int) - (n:Int) == 0)=false:=by rw [beq_eq_false_iff_ne];omega
      have hcn2:(((t.length - n:Nat):Int) == 0)=false:=by rw [beq_eq_false_iff_ne];omega
      go_wp2_with (first
       | (refine copy_piece rfl (.tmp 46) (.tmp 47) rfl wr.heap.size _ A cp t rfl rfl HP.out (HT.out.alloc _) wr.heap.size wr HB.out (Nat.le_refl _) ?_;intro w1 hp1 hb1;have HP1:=Lib.hid hp1;have HB1:=Lib.hid hb1;clear hp1 hb1;rw [HN.out];have HK1:=Lib.hid (HKS.out.below HB1.out hsz))
       | (refine wpList_load_row rfl _ (.tmp 6) rfl (wk.heap.size) rfl _ _ (0,0) _ HK1.out.h Tryz.underlying107 rfl (info_words_of HH.out) ?_)
       | (go_at_call 62;refine (take_at h HH.out wr.heap.size (Bl.piece t) (len_piece t) _ (c+64) (by omega) false _ HP1.out.b8 (HG.out.below HK1.out.b (Nat.le_refl _))).mono ?_;rintro e w2 ⟨rfl,hb2⟩;have HB2:=Lib.hid hb2;clear hb2;have HK2:=Lib.hid (HK1.out.below HB2.out HK1.out.h.lt))
       | (refine wpList_store_row rfl _ (.tmp 6) (.tmp 61) rfl (wk.heap.size) ((Bl.press h (Bl.piece t) (c+64) false).map u32v).toArray rfl rfl _ _ HK2.out.h (info_words_of (len_press _ _ _ _)) (by simp [HH.out,len_press]) (all_u32 _) ?_))
      obtain ⟨f',rfl⟩:∃f',f=f'+1:=⟨f - 1,by omega⟩
      have hA:=HR.out
      rw [absorb_more _ _ _ _ hlast] at hA
      have hBs:Bs w2 (·≠wk.heap.size) (.slice (Option.map (fun x=>x.add n) A) (t.length - n) (cp - n)) (t.drop 64):=by
       obtain rfl:n=64:=by omega
       refine Bs.mk ?_ (by omega) (by omega)
       have:=((HT.out.below HB1.out (Nat.le_refl _)).below HB2.out (Nat.le_refl _)).cutv (a:=64) (m:=t.length - 64) (by omega) (A':=Option.map (fun x=>x.add 64) A) (fun _=>rfl)
       rwa [List.take_of_length_le (by simp)] at this
      refine ⟨⟨_,t.drop 64,Bl.press h (Bl.piece t) (c+64) false,c+64,f',rfl,?_,HK2.out.setH,hBs.other _,?_,hA,len_press _ _ _ _,?_⟩,?_⟩
      ·obtain rfl:n=64:=by omega
       go_num
      ·simp;omega
      ·simp;omega
      ·simp only [sliceLen];omega
   case rest =>
    obtain ⟨rfl,hks⟩:=hcut
    have HKR:=Lib.hid hks
    clear hks HKS HT HR
    have hP:W8 (wc.alloc (.cells #[.int .u8 0,.int .u8 0,.int .u8 0,.int .u8 0,.int .u8 0,.int .u8 0,.int .u8 0,.int .u8 0,.int .u8 0,.int .u8 0,.int .u8 0,.int .u8 0,.int .u8 0,.int .u8 0,.int .u8 0,.int .u8 0,.int .u8 0,.int .u8 0,.int .u8 0,.int .u8 0,.int .u8 0,.int .u8 0,.int .u8 0,.int .u8 0,.int .u8 0,.int .u8 0,.int .u8 0,.int .u8 0,.int .u8 0,.int .u8 0,.int .u8 0,.int .u8 0] 25)) wc.heap.size 25 (outk R 0):=heap_alloc_new wc _
    have hK:KS w wk.heap.size (wc.alloc (.cells #[.int .u8 0,.int .u8 0,.int .u8 0,.int .u8 0,.int .u8 0,.int .u8 0,.int .u8 0,.int .u8 0,.int .u8 0,.int .u8 0,.int .u8 0,.int .u8 0,.int .u8 0,.int .u8 0,.int .u8 0,.int .u8 0,.int .u8 0,.int .u8 0,.int .u8 0,.int .u8 0,.int .u8 0,.int .u8 0,.int .u8 0,.int .u8 0,.int .u8 0,.int .u8 0,.int .u8 0,.int .u8 0,.int .u8 0,.int .u8 0,.int .u8 0,.int .u8 0] 25)) R:=HKR.out.below ((Below.refl _ _).alloc (Nat.le_refl _) _) HKR.out.h.lt
    have hG1:wk.heap.size<wc.heap.size:=HKR.out.h.lt
    have HP:=Lib.hid hP
    have HK:=Lib.hid hK
    clear hP hK HKR
    go_wp2_with fail
    go_loopw [65] (fun i wr=>∃k:Nat,k<=32∧i=.int .i64 k∧KS w wk.heap.size wr R∧W8 wr wc.heap.size 25 (outk R k)) (fun i _=>32 - (intOf i).toNat)
    case atStart=>exact ⟨0,by omega,rfl,HK.out,HP.out⟩
    case round =>
     clear HK HP
     obtain ⟨k,hk,rfl,hks,hp⟩:=hrel
     have HK:=Lib.hid hks
     have HP:=Lib.hid hp
     clear hks hp
     by_cases hlt:k<32
     ·have hi1:(k:Int)<32:=by omega
      obtain ⟨x,ex,hx,_⟩:=HK.out.h.get (i:=k / 4) (by rw [HRL.out];omega)
      have hxl:=u32_lt x
      have hcell:=HP.out.cell (i:=k) (by rw [outk_len _ _ hk];exact hlt)
      have hfro:=HP.out.frozen k
      have hi2:(k:Int) / 4<8:=by omega
      have hi3:(0:Int)<=(k:Int) / 4:=by omega
      have hi4:((k:Int) / 4).toNat=k / 4:=by omega
      go_wp2_with fail
      have e:((x.toNat:Int) / 2 ^ (8*(k % 4)) % 256:Int)=((UInt8.ofNat (x.toNat / 2 ^ (8*(k % 4)))).toNat:Int):=u8_of (by simp)
      rw [e]
      refine ⟨⟨k+1,by omega,by go_num,HK.out.far (p:=⟨wc.heap.size,k,none⟩) hG1 _,?_⟩,by simp [intOf];omega⟩
      rw [←outk_set _ _ hlt,ex.out]
      exact HP.out.set k _
     ·obtain rfl:k=32:=by omega
      rw [show ((32:Nat):Int)=32 from rfl]
      have ho:outk R 32=Bl.keyed32 key b:=by rw [HRES.out];simp [outk]
      have hol:=outk_len R 32 (by omega)
      have hp:=HP.out
      rw [ho] at hp hol
      generalize hres:Bl.keyed32 key b=out at hp hol
      have HRS:=Lib.hid hres
      have HP2:=Lib.hid hp
      have HOL:=Lib.hid hol
      have hin:(Tryz.prog.info? 25).map (·.size)=some ((out.map u8v).toArray).size:=by rw [info_hash];simp [hol]
      have HIN:=Lib.hid hin
      clear ho hol hp hres hin HP HRES
      go_upto_region 22 with (fail)
      refine wp_region_lit ?_
      refine wpList_load_row rfl _ (.tmp 11) rfl wc.heap.size rfl _ _ (0,0) _ HP2.out Tryz.underlying25 rfl HIN.out ?_
      refine wpList_store_row rfl _ (.tmp 4) (.tmp 80) rfl w.heap.size (out.map u8v).toArray rfl rfl _ _ HK.out.r HIN.out (by simp [HOL.out]) (all_u8 out) ?_
      go_frame
      go_wp2_with fail
      refine bodyPost_ret (results_cell_row (by rfl) _ _ w.heap.size _ (out.map u8v).toArray (0,0) _ (by rfl) (setRow_heap _ _ _ _ _ _ HK.out.r) Tryz.underlying25 rfl HIN.out) rfl ?_
      exact ⟨by rw [HKK.out,HRS.out],below_setRow HK.out.b (Nat.le_refl _) _⟩

theorem keyed_nil {S:Nat->Prop} (bv:Value) (b:List UInt8) (w:World) (hb:Bs w S bv b) (hbl:b.length<=1000000000000) (hG:Gl w) :
  Calls Tryz.prog 48 #[.slice none 0 0,bv] w (keyedPost w (Bl.sum b)) :=
 keyed_gen (S:=fun _=>True) _ bv [] b w Bs.nil hb hbl hG (fun h=>absurd h (by simp))

set_option maxHeartbeats 1000000 in
theorem sum_any {S:Nat->Prop} (bv:Value) (b:List UInt8) (w:World) (hb:Bs w S bv b) (hbl:b.length<=1000000000000) (hG:Gl w) :
  Calls Tryz.prog 24 #[bv] w (keyedPost w (Bl.sum b)):=by
 have hR:W8 (w.alloc (.cells #[.int .u8 0,.int .u8 0,.int .u8 0,.int .u8 0,.int .u8 0,.int .u8 0,.int .u8 0,.int .u8 0,.int .u8 0,.int .u8 0,.int .u8 0,.int .u8 0,.int .u8 0,.int .u8 0,.int .u8 0,.int .u8 0,.int .u8 0,.int .u8 0,.int .u8 0,.int .u8 0,.int .u8 0,.int .u8 0,.int .u8 0,.int .u8 0,.int .u8 0,.int .u8 0,.int .u8 0,.int .u8 0,.int .u8 0,.int .u8 0,.int .u8 0,.int .u8 0] 25)) w.heap.size 25 (List.replicate 32 0):=heap_alloc_new w _
 have hB:Below w.heap.size w (w.alloc (.cells #[.int .u8 0,.int .u8 0,.int .u8 0,.int .u8 0,.int .u8 0,.int .u8 0,.int .u8 0,.int .u8 0,.int .u8 0,.int .u8 0,.int .u8 0,.int .u8 0,.int .u8 0,.int .u8 0,.int .u8 0,.int .u8 0,.int .u8 0,.int .u8 0,.int .u8 0,.int .u8 0,.int .u8 0,.int .u8 0,.int .u8 0,.int .u8 0,.int .u8 0,.int .u8 0,.int .u8 0,.int .u8 0,.int .u8 0,.int .u8 0,.int .u8 0,.int .u8 0] 25)):=(Below.refl _ _).alloc (Nat.le_refl _) _
 have HR:=Lib.hid hR
 have HB:=Lib.hid hB
 have HS:=Lib.hid hb
 have HG:=Lib.hid hG
 have HL:=Lib.hid (Bl.len_sum b)
 clear hR hB hb hG
 go_enter Tryz.func24,Tryz.ntmps24
 go_wp2_with (first
  | (go_at_call 48;refine (keyed_nil bv b _ (HS.out.below HB.out (Nat.le_refl _)) hbl (HG.out.below HB.out (Nat.le_refl _))).mono ?_;rintro e w1 ⟨rfl,hb1⟩;have HB1:=Lib.hid hb1;clear hb1)
  | (refine wpList_store_row rfl _ (.tmp 2) (.tmp 4) rfl w.heap.size ((Bl.sum b).map u8v).toArray rfl rfl _ _ (HR.out.keep (HB1.out.block _ HR.out.lt)) (info_hash_of HL.out) (by simp [HL.out]) (all_u8 _) ?_))
 refine bodyPost_ret (results_cell_row (by rfl) _ _ w.heap.size _ ((Bl.sum b).map u8v).toArray (0,0) _ (by rfl) (setRow_heap _ _ _ _ _ _ (HR.out.keep (HB1.out.block _ HR.out.lt))) Tryz.underlying25 rfl (info_hash_of HL.out)) rfl ?_
 exact ⟨rfl,below_setRow (HB.out.trans (HB1.out.mono HB.out.size)) (Nat.le_refl _) _⟩

end Go.Proofs.YtjjodibkmeefpaaGreatDoor.Old

namespace Go.Proofs.YtjjodibkmeefpaaGreatDoor.Old
open Go Go.RowKit

theorem Rd.fresh {w:World} {cs:Array Value} {t:TypeId} {fr:Nat × Nat} {g:Nat} (l:List UInt8) (hg:w.heap[g]?=some (.cells cs t fr)) (hc:∃tl,cs.toList=l.map u8v++tl) {S:Nat->Prop} (hS:S g) {n:Nat} (hn:l.length=n):Rd w S 1 (some ⟨g,0,none⟩) n (l.map u8v):=by
 subst hn
 refine ⟨by simp,fun _=>⟨g,0,rfl,⟨(Array.getElem?_eq_some_iff.1 hg).1,hS⟩,fun j u hu=>?_⟩⟩
 obtain ⟨tl,ht⟩:=hc
 rw [Nat.zero_add,cell_of_row _ _ _ _ _ _ hg,←Array.getElem?_toList,ht,List.getElem?_append_left (List.getElem?_eq_some_iff.1 hu).1]
 exact hu

theorem first_of {w:World} {S:Nat->Prop} {A:Option Addr} {n c:Nat} {l:List UInt8} (hl:Rd w S 1 A n (l.map u8v)):(Builtin.firstCells 1 n (.slice A n c)).run Tryz.prog w=.ok (l.map u8v).toArray w:=by
 have hn:=hl.blen
 rcases A with _|ad
 ·by_cases h0:0<n
  ·obtain ⟨g,o,h,_⟩:=hl.2 h0
   cases h
  ·obtain rfl:l=[]:=List.eq_nil_of_length_eq_zero (by omega)
   exact run_firstCells_none w 1 n n c
 ·refine run_firstCells_some w 1 n ad n c (l.map u8v) (by simp [hn]) (fun j v hv=>?_)
  have hj:j<l.length:=by simpa using (List.getElem?_eq_some_iff.1 hv).1
  obtain ⟨g,o,h,_,hc⟩:=hl.2 (by omega)
  cases h
  rw [show (⟨g,o,none⟩:Addr).add j=⟨g,o+j,none⟩ by unfold Addr.add;split <;> simp_all]
  exact hc j v hv

theorem run_full {S S':Nat->Prop} (w:World) (ty:TypeId) (A B:Option Addr) (n k m c:Nat) (l r:List UInt8) (hl:Rd w S 1 A n (l.map u8v)) (hr:Rd w S' 1 B m (r.map u8v)) (hk:k=n) (hlen:n+m<=1099511627776) :
  ∃v' w',(Builtin.append_ #[23,23] ty #[.slice A n k,.slice B m c]).run Tryz.prog w=.ok v' w'∧Bs w' (fun _=>True) v' (l++r)∧Below w.heap.size w w':=by
 subst hk
 obtain ⟨i,hi,hz,hs1,hb1⟩:=info_parts info_u8
 have hln:l.length=k:=hl.blen
 have hrm:r.length=m:=hr.blen
 by_cases h0:m=0
 ·subst h0
  obtain rfl:r=[]:=List.eq_nil_of_length_eq_zero hrm
  refine ⟨.slice A k k,w,?_,?_,Below.refl _ _⟩
  ·rcases A with _|ad <;> rcases B with _|bd <;> simp [Builtin.append_,run_underlying Tryz.underlying23,sizeOf,typeInfo,hi,Builtin.lenOf,Builtin.firstCells,storeCells,loadCells,loadCellsFrom]
  ·rw [List.append_nil]
   exact Bs.mk (hl.mono (fun _ _ _=>trivial)) (Nat.le_refl _) (by omega)
 ·obtain ⟨g,o,rfl,_,hc⟩:=hr.2 (by omega)
  have hsrc:Src Tryz.prog i.size 23 (.slice (some ⟨g,o,none⟩) m c) m (r.map u8v) w:=by
   rw [hs1]
   refine Src.ofSlice w Tryz.underlying23 ⟨g,o,none⟩ m c (r.map u8v) (by simp [hrm]) (fun j u hu=>?_) (one_u8 r)
   rw [show (⟨g,o,none⟩:Addr).add j=⟨g,o+j,none⟩ by unfold Addr.add;split <;> simp_all]
   exact hc j u hu
  have hold:(Builtin.firstCells i.size k (.slice A k k)).run Tryz.prog w.drew=.ok (l.map u8v).toArray w.drew:=by
   rw [hs1]
   exact first_of (hl.drewN 1)
  have hrun:=run_append_grow_src (P:=Tryz.prog) w 23 23 ty 5 i (.int .u8 0) Tryz.underlying23 hi hz A k k (l.map u8v) hold (.slice (some ⟨g,o,none⟩) m c) m (r.map u8v) hsrc (by omega) (by omega) (by rw [hb1];exact growslice_fits (by omega) (by omega))
  refine ⟨_,_,hrun,?_,⟨rfl,rfl,rfl,by simp,fun j hj=>heap_alloc_old w.drew _ hj⟩⟩
  have hge:=grownCap_ge w (k+m) k 5
  have hcm:=grownCap_le_maxLen w (k+m) k 5 (by simp only [maxLen];omega)
  unfold maxLen at hcm
  refine Bs.mk (Rd.fresh (l++r) (heap_alloc_new w.drew _) ⟨(Builtin.zeroCells (Value.int .u8 0).cells (grownCap w (k+m) k 5 - (k+m))).toList,by simp⟩ trivial (by simp [hln,hrm])) hge hcm

theorem app_full {S S':Nat->Prop} {w:World} {ops:Array Oper} {rest:List Oper} {o:Oper} {a:Act} {Q:Exit->Act->World->Prop} (hgd:o.guard=none) (s x:Operand)
  (ho:o.op=.call { callee:=.builtin .append,args:=#[s,x],argTypes:=#[23,23] })
  (A B:Option Addr) (n k m c:Nat) (l r:List UInt8) (hs:a.eval s=.slice A n k) (hx:a.eval x=.slice B m c) (hl:Rd w S 1 A n (l.map u8v)) (hr:Rd w S' 1 B m (r.map u8v)) (hk:k=n) (hlen:n+m<=1099511627776)
  (h:∀v' w',Bs w' (fun _=>True) v' (l++r)->Below w.heap.size w w'->wpList Tryz.prog ops Q rest (a.put o.dst v') w') :
  wpList Tryz.prog ops Q (o::rest) a w:=by
 refine wpList_plain hgd fun K hK=>?_
 obtain ⟨v',w',hrun,h2,h3⟩:=run_full w o.type A B n k m c l r hl hr hk hlen
 unfold Oper.wp execOp
 simp only [ho,resolve,invoke,builtin,Sem.run_bind,Sem.run_pure,Result.andThen_ok,List.map_toArray,List.map_cons,List.map_nil,hs,hx,hrun]
 exact hK _ _ (h v' w' h2 h3)

theorem bytes_bs (w:World) (s:ByteArray) (hs:s.size<=1099511627776):Bs (Lib.bytesWorld w 5 s) (w.heap.size<=·) (.slice (some ⟨w.heap.size,0,none⟩) s.size (grownCap w s.size 0 5)) s.data.toList:=by
 have hge:=grownCap_ge w s.size 0 5
 have hcm:=grownCap_le_maxLen w s.size 0 5 (by simp only [maxLen];omega)
 unfold maxLen at hcm
 exact Bs.mk (Rd.fresh s.data.toList (Lib.bytesWorld_at_new w _ s) ⟨(Array.replicate (grownCap w s.size 0 5 - s.size) (Value.int .u8 0)).toList,by simp [Lib.bytesCells]⟩ (Nat.le_refl _) (by simp)) hge hcm
theorem bytes_below (w:World) (s:ByteArray):Below w.heap.size w (Lib.bytesWorld w 5 s) :=
 ⟨rfl,rfl,rfl,by rw [Lib.bytesWorld_size];omega,fun j hj=>Lib.bytesWorld_at_old w _ s j hj⟩

theorem W8.rd {w:World} {g:Nat} {t:TypeId} {l:List UInt8} (h:W8 w g t l) {n:Nat} (hn:l.length=n):Rd w (fun _=>True) 1 (some ⟨g,0,none⟩) n (l.map u8v) :=
 Rd.fresh l h ⟨[],by simp⟩ trivial hn

end Go.Proofs.YtjjodibkmeefpaaGreatDoor.Old

namespace Go.Proofs.YtjjodibkmeefpaaGreatDoor.Old
open Go Go.RowKit

set_option maxRecDepth 100000 in
set_option maxHeartbeats 1000000 in
theorem tagged_any {S:Nat->Prop} (s:ByteArray) (bv:Value) (b:List UInt8) (w:World) (hb:Bs w S bv b) (hs:s.size<=1000000000) (hbl:b.length<=1000000000) (hG:Gl w) :
  Calls Tryz.prog 64 #[.string s,bv] w (keyedPost w (Bl.tagged s.data.toList b)):=by
 have hR:W8 (w.alloc (.cells #[.int .u8 0,.int .u8 0,.int .u8 0,.int .u8 0,.int .u8 0,.int .u8 0,.int .u8 0,.int .u8 0,.int .u8 0,.int .u8 0,.int .u8 0,.int .u8 0,.int .u8 0,.int .u8 0,.int .u8 0,.int .u8 0,.int .u8 0,.int .u8 0,.int .u8 0,.int .u8 0,.int .u8 0,.int .u8 0,.int .u8 0,.int .u8 0,.int .u8 0,.int .u8 0,.int .u8 0,.int .u8 0,.int .u8 0,.int .u8 0,.int .u8 0,.int .u8 0] 25)) w.heap.size 25 (List.replicate 32 0):=heap_alloc_new w _
 have hB:Below w.heap.size w (w.alloc (.cells #[.int .u8 0,.int .u8 0,.int .u8 0,.int .u8 0,.int .u8 0,.int .u8 0,.int .u8 0,.int .u8 0,.int .u8 0,.int .u8 0,.int .u8 0,.int .u8 0,.int .u8 0,.int .u8 0,.int .u8 0,.int .u8 0,.int .u8 0,.int .u8 0,.int .u8 0,.int .u8 0,.int .u8 0,.int .u8 0,.int .u8 0,.int .u8 0,.int .u8 0,.int .u8 0,.int .u8 0,.int .u8 0,.int .u8 0,.int .u8 0,.int .u8 0,.int .u8 0] 25)):=(Below.refl _ _).alloc (Nat.le_refl _) _
 obtain ⟨Ab,cb,rfl,hcb,hcb2,hrb⟩:=hb.op
 have hsl:s.data.toList.length<=1000000000000:=by simp;omega
 generalize hw0:w.alloc (.cells #[.int .u8 0,.int .u8 0,.int .u8 0,.int .u8 0,.int .u8 0,.int .u8 0,.int .u8 0,.int .u8 0,.int .u8 0,.int .u8 0,.int .u8 0,.int .u8 0,.int .u8 0,.int .u8 0,.int .u8 0,.int .u8 0,.int .u8 0,.int .u8 0,.int .u8 0,.int .u8 0,.int .u8 0,.int .u8 0,.int .u8 0,.int .u8 0,.int .u8 0,.int .u8 0,.int .u8 0,.int .u8 0,.int .u8 0,.int .u8 0,.int .u8 0,.int .u8 0] 25)=w0 at hR hB
 have HW0:=Lib.hid hw0
 have HR:=Lib.hid hR
 have HB:=Lib.hid hB
 have HS:=Lib.hid hrb
 have HG:=Lib.hid hG
 have HL:=Lib.hid (Bl.len_sum s.data.toList)
 have HT:=Lib.hid (Bl.len_tagged s.data.toList b)
 have kc:=fun (W:World)=>Lib.run_convert_string_bytes (P:=Tryz.prog) W 9 23 5 s Tryz.underlying9 Tryz.underlying23 Tryz.underlying5
 have HC:=Lib.hid (bytes_bs w0 s (by omega))
 have HCB:=Lib.hid (HB.out.trans ((bytes_below w0 s).mono HB.out.size))
 have HR2:=Lib.hid (HR.out.keep ((bytes_below w0 s).block _ HR.out.lt))
 clear hR hB hb hG hrb hw0 HR
 go_enter Tryz.func64,Tryz.ntmps64
 go_upto_region 1 with (fail)
 rw [HW0.out]
 go_upto_region 2 with (first
  | (go_at_call 24;refine (sum_any _ s.data.toList _ HC.out hsl (HG.out.below HCB.out (Nat.le_refl _))).mono ?_;rintro e w1 ⟨rfl,hb1⟩;have HB1:=Lib.hid (HCB.out.trans (hb1.mono HCB.out.size));have HR3:=Lib.hid (HR2.out.keep (hb1.block _ HR2.out.lt));clear hb1 HC HCB HR2)
  | (refine wpList_store_row rfl _ (.tmp 5) (.tmp 8) rfl w1.heap.size ((Bl.sum s.data.toList).map u8v).toArray rfl rfl _ _ (heap_alloc_new w1 _) (info_hash_of HL.out) (by simp [HL.out]) (all_u8 _) ?_))
 have hw2:W8 ((w1.alloc (.cells #[.int .u8 0,.int .u8 0,.int .u8 0,.int .u8 0,.int .u8 0,.int .u8 0,.int .u8 0,.int .u8 0,.int .u8 0,.int .u8 0,.int .u8 0,.int .u8 0,.int .u8 0,.int .u8 0,.int .u8 0,.int .u8 0,.int .u8 0,.int .u8 0,.int .u8 0,.int .u8 0,.int .u8 0,.int .u8 0,.int .u8 0,.int .u8 0,.int .u8 0,.int .u8 0,.int .u8 0,.int .u8 0,.int .u8 0,.int .u8 0,.int .u8 0,.int .u8 0] 25)).setRow w1.heap.size ((Bl.sum s.data.toList).map u8v).toArray) w1.heap.size 25 (Bl.sum s.data.toList):=setRow_heap _ _ _ _ _ _ (heap_alloc_new w1 _)
 have hb2:Below w1.heap.size w1 ((w1.alloc (.cells #[.int .u8 0,.int .u8 0,.int .u8 0,.int .u8 0,.int .u8 0,.int .u8 0,.int .u8 0,.int .u8 0,.int .u8 0,.int .u8 0,.int .u8 0,.int .u8 0,.int .u8 0,.int .u8 0,.int .u8 0,.int .u8 0,.int .u8 0,.int .u8 0,.int .u8 0,.int .u8 0,.int .u8 0,.int .u8 0,.int .u8 0,.int .u8 0,.int .u8 0,.int .u8 0,.int .u8 0,.int .u8 0,.int .u8 0,.int .u8 0,.int .u8 0,.int .u8 0] 25)).setRow w1.heap.size ((Bl.sum s.data.toList).map u8v).toArray):=below_setRow ((Below.refl _ _).alloc (Nat.le_refl _) _) (Nat.le_refl _) _
 generalize (w1.alloc (.cells #[.int .u8 0,.int .u8 0,.int .u8 0,.int .u8 0,.int .u8 0,.int .u8 0,.int .u8 0,.int .u8 0,.int .u8 0,.int .u8 0,.int .u8 0,.int .u8 0,.int .u8 0,.int .u8 0,.int .u8 0,.int .u8 0,.int .u8 0,.int .u8 0,.int .u8 0,.int .u8 0,.int .u8 0,.int .u8 0,.int .u8 0,.int .u8 0,.int .u8 0,.int .u8 0,.int .u8 0,.int .u8 0,.int .u8 0,.int .u8 0,.int .u8 0,.int .u8 0] 25)).setRow w1.heap.size ((Bl.sum s.data.toList).map u8v).toArray=w2 at hw2 hb2 ⊢
 generalize w1.heap.size=g at hw2 ⊢
 have HB2:=Lib.hid (HB1.out.trans (hb2.mono HB1.out.size))
 have HR4:=Lib.hid (HR3.out.keep (hb2.block _ HR3.out.lt))
 have HW2:=Lib.hid hw2
 clear hw2 hb2 HB1 HR3
 go_wp2_with (first
  | (at_builtin;refine app_full rfl (.tmp 9) (.tmp 10) rfl (some ⟨g,0,none⟩) Ab 32 32 b.length cb (Bl.sum s.data.toList) b rfl rfl (HW2.out.rd HL.out) (HS.out.below HB2.out (Nat.le_refl _)) rfl (by omega) ?_;intro v3 w3 hs3 hb3;have HS3:=Lib.hid hs3;have HB3:=Lib.hid (HB2.out.trans (hb3.mono HB2.out.size));have HR5:=Lib.hid (HR4.out.keep (hb3.block _ HR4.out.lt));clear hs3 hb3 HR4)
  | (go_at_call 24;refine (sum_any _ (Bl.sum s.data.toList++b) _ HS3.out (by rw [List.length_append,HL.out];omega) (HG.out.below HB3.out (Nat.le_refl _))).mono ?_;rintro e w4 ⟨rfl,hb4⟩;have HB4:=Lib.hid (HB3.out.trans (hb4.mono HB3.out.size));have HR6:=Lib.hid (HR5.out.keep (hb4.block _ HR5.out.lt));clear hb4 HS3;rw [show Bl.sum (Bl.sum s.data.toList++b)=Bl.tagged s.data.toList b from rfl])
  | (refine wpList_store_row rfl _ (.tmp 4) (.tmp 12) rfl w.heap.size ((Bl.tagged s.data.toList b).map u8v).toArray rfl rfl _ _ HR6.out (info_hash_of HT.out) (by simp [HT.out]) (all_u8 _) ?_))
 refine bodyPost_ret (results_cell_row (by rfl) _ _ w.heap.size _ ((Bl.tagged s.data.toList b).map u8v).toArray (0,0) _ (by rfl) (setRow_heap _ _ _ _ _ _ HR6.out) Tryz.underlying25 rfl (info_hash_of HT.out)) rfl ?_
 exact ⟨rfl,below_setRow HB4.out (Nat.le_refl _) _⟩
end Go.Proofs.YtjjodibkmeefpaaGreatDoor.Old
