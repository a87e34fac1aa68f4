import Derived.WalkKit
import Derived.WalkSpells
import Derived.KernelRfl
import Derived.Deep.QuietTactic
import Derived.BigQuiet
import Derived.Deep.Draws
import Derived.Lib.Hide
import Derived.Maps.AppendAt
import Derived.StillTailTactics
import Derived.Laws.CopyOwn
import Derived.Deep.MidRow
import Derived.Great.BuildSlice
import Derived.Defers
import Derived.IntWalk
import Derived.Laws.CopyRow
import Derived.OrdersHeld
import Derived.Lib.AppendZerosOnto
import Derived.Recover
import Derived.RangeFuncFrom
import Derived.RangeFuncLeaves
import Derived.Shelf.Abstract
import Derived.Laws.Bits64b
import Derived.Stop.IfaceNil
import Derived.Lib.ByteType
import Derived.Stop.BytesEq
import Derived.Laws.StructEq
import Derived.Deep.Slices
import Derived.OpenShut
import Derived.WideShapes
import Derived.ChangeSlices
set_option linter.unusedVariables false
set_option linter.unusedSimpArgs false

namespace Go.Proofs.YtjjodibkmeefpaaGreatDoor
open Go Go.RowKit

abbrev u8v (b:UInt8):Value:=.int .u8 (b.toNat:Int)
abbrev u32v (b:UInt32):Value:=.int .u32 (b.toNat:Int)
abbrev i64v (b:Int):Value:=.int .i64 b

def Rd (w:World) (S:Nat->Prop) (size:Nat) (A:Option Addr) (n:Nat) (xs:List Value):Prop :=
 xs.length=n*size∧(0<n->∃g o,A=some ⟨g,o,none⟩∧(g<w.heap.size∧S g)∧∀j u,xs[j]?=some u->w.cell? ⟨g,o+j,none⟩=some u)

def Bs (w:World) (S:Nat->Prop) (v:Value) (l:List UInt8):Prop :=
 ∃A c,v=.slice A l.length c∧l.length<=c∧c<=maxLen∧Rd w S 1 A l.length (l.map u8v)

structure Fr (T:Nat->Prop) (w w':World):Prop where
 os:w'.os=w.os
 tape:w'.tape=w.tape
 output:w'.output=w.output
 size:w.heap.size<=w'.heap.size
 block:∀k,k<w.heap.size->¬T k->w'.heap[k]?=w.heap[k]?

theorem lt_of_block {w w':World} {g:Nat} (hg:g<w.heap.size) (h:w'.heap[g]?=w.heap[g]?):g<w'.heap.size:=by
 rcases Nat.lt_or_ge g w'.heap.size with h1|h1
 ·exact h1
 ·rw [Array.getElem?_eq_none h1,Array.getElem?_eq_getElem hg] at h
  cases h

section
variable {w w' w'':World} {T T' S S':Nat->Prop} {A:Option Addr} {n size:Nat} {xs:List Value} {l:List UInt8} {v:Value}

theorem Fr.refl:Fr T w w:=⟨rfl,rfl,rfl,Nat.le_refl _,fun _ _ _=>rfl⟩
theorem Fr.trans (h:Fr T w w') (k:Fr T' w' w'') (ht:∀g,g<w.heap.size->T' g->T g):Fr T w w'' :=
 ⟨k.os.trans h.os,k.tape.trans h.tape,k.output.trans h.output,Nat.le_trans h.size k.size,
  fun i hi hn=>(k.block i (Nat.lt_of_lt_of_le hi h.size) (fun e=>hn (ht i hi e))).trans (h.block i hi hn)⟩
theorem Fr.mono (h:Fr T w w') (ht:∀g,g<w.heap.size->T g->T' g):Fr T' w w' :=
 ⟨h.os,h.tape,h.output,h.size,fun i hi hn=>h.block i hi (fun e=>hn (ht i hi e))⟩
theorem Fr.below {B:Nat} (h:Fr T w w') (hB:B<=w.heap.size) (ht:∀g,T g->B<=g):Below B w w' :=
 ⟨h.os,h.tape,h.output,h.size,fun i hi=>h.block i (by omega) (fun e=>by have:=ht i e;omega)⟩
theorem Rd.keep (h:Rd w S size A n xs) (hk:∀g,g<w.heap.size->S g->w'.heap[g]?=w.heap[g]?):Rd w' S size A n xs :=
 ⟨h.1,fun hn=>by
  obtain ⟨g,o,e,⟨hlt,hb⟩,hc⟩:=h.2 hn
  exact ⟨g,o,e,⟨lt_of_block hlt (hk g hlt hb),hb⟩,fun j u hu=>(World.cell?_of_block (a:=⟨g,o+j,none⟩) (hk g hlt hb)).trans (hc j u hu)⟩⟩
theorem Rd.mono (h:Rd w S size A n xs) (hk:∀g,g<w.heap.size->S g->S' g):Rd w S' size A n xs :=
 ⟨h.1,fun hn=>by
  obtain ⟨g,o,e,⟨hlt,hb⟩,hc⟩:=h.2 hn
  exact ⟨g,o,e,⟨hlt,hk g hlt hb⟩,hc⟩⟩
theorem Rd.below {B:Nat} (h:Rd w S size A n xs) (hb:Below B w w') (hB:w.heap.size<=B):Rd w' S size A n xs :=
 h.keep fun g hg _=>hb.block g (by omega)
theorem Rd.drewN (h:Rd w S size A n xs) (k:Nat):Rd (w.drewN k) S size A n xs:=h
theorem Rd.nil:Rd w S size A 0 []:=⟨by simp,fun h=>absurd h (by omega)⟩
theorem Rd.cell (h:Rd w S size A n xs) {k:Nat} (hn:0<n) (hk:k<n*size):∃g o u,A=some ⟨g,o,none⟩∧(g<w.heap.size∧S g)∧xs[k]?=some u∧w.cell? ⟨g,o+k,none⟩=some u:=by
 obtain ⟨g,o,e,hb,hc⟩:=h.2 hn
 have hl:k<xs.length:=by rw [h.1];exact hk
 exact ⟨g,o,xs[k],e,hb,List.getElem?_eq_getElem hl,hc k _ (List.getElem?_eq_getElem hl)⟩
theorem Rd.byte (h:Rd w S 1 A n (l.map u8v)) {k:Nat} (hk:k<n):∃g o b,A=some ⟨g,o,none⟩∧(g<w.heap.size∧S g)∧l[k]?=some b∧w.cell? ⟨g,o+k,none⟩=some (.int .u8 (b.toNat:Int)):=by
 obtain ⟨g,o,u,e,hb,hu,hc⟩:=h.cell (k:=k) (by omega) (by omega)
 rw [List.getElem?_map] at hu
 cases hx:l[k]? with
 | none=>rw [hx] at hu;cases hu
 | some b=>rw [hx] at hu;cases hu;exact ⟨g,o,b,e,hb,rfl,hc⟩
theorem Rd.cut (h:Rd w S size A n xs) {a b c:Nat} (hab:a<=b) (hb:b<=n) (hc:n<=c) :
  Rd w S size (if c=a then A else A.map (·.add (a*size))) (b - a) ((xs.drop (a*size)).take ((b - a)*size)):=by
 have hle:a*size<=n*size:=Nat.mul_le_mul_right _ (by omega)
 have hle2:(b - a)*size<=(n - a)*size:=Nat.mul_le_mul_right _ (by omega)
 refine ⟨by rw [List.length_take,List.length_drop,h.1,←Nat.sub_mul];omega,fun hn=>?_⟩
 obtain ⟨g,o,rfl,hg,hcell⟩:=h.2 (by omega)
 rw [if_neg (by omega)]
 refine ⟨g,o+a*size,?_,hg,fun j u hu=>?_⟩
 ·simp only [Option.map_some,Addr.add]
  split
  ·rename_i h0;simp [h0]
  ·rfl
 ·rw [List.getElem?_take] at hu
  split at hu
  ·rw [List.getElem?_drop] at hu
   have:=hcell _ u hu
   rw [←this]
   congr 2
   omega
  ·cases hu

theorem Rd.cutv (h:Rd w S 1 A n (l.map u8v)) {a m:Nat} (ham:a+m<=n) {A':Option Addr} (hA:0<m->A'=A.map (·.add a)):Rd w S 1 A' m (((l.drop a).take m).map u8v):=by
 have hl:l.length=n:=by simpa using h.1
 refine ⟨by simp;omega,fun hm=>?_⟩
 obtain ⟨g,o,rfl,hg,hc⟩:=h.2 (by omega)
 refine ⟨g,o+a,?_,hg,fun j u hu=>?_⟩
 ·rw [hA hm]
  simp only [Option.map_some,Addr.add]
  split
  ·rename_i h0;simp [h0]
  ·rfl
 ·rw [List.getElem?_map,List.getElem?_take] at hu
  split at hu
  ·rw [List.getElem?_drop] at hu
   rw [Nat.add_assoc]
   exact hc _ u (by rw [List.getElem?_map];exact hu)
  ·cases hu
theorem Bs.mk {c:Nat} (h:Rd w S 1 A n (l.map u8v)) (h1:n<=c) (h2:c<=9223372036854775807):Bs w S (.slice A n c) l:=by
 have hl:l.length=n:=by simpa using h.1
 subst hl
 exact ⟨A,c,rfl,h1,h2,h⟩
theorem Bs.op (h:Bs w S v l):∃A c,v=.slice A l.length c∧l.length<=c∧c<=9223372036854775807∧Rd w S 1 A l.length (l.map u8v):=h
theorem Bs.keep (h:Bs w S v l) (hk:∀g,g<w.heap.size->S g->w'.heap[g]?=w.heap[g]?):Bs w' S v l:=by
 obtain ⟨A,c,e,h1,h2,h3⟩:=h
 exact ⟨A,c,e,h1,h2,h3.keep hk⟩
theorem Bs.mono (h:Bs w S v l) (hk:∀g,g<w.heap.size->S g->S' g):Bs w S' v l:=by
 obtain ⟨A,c,e,h1,h2,h3⟩:=h
 exact ⟨A,c,e,h1,h2,h3.mono hk⟩
theorem Bs.below {B:Nat} (h:Bs w S v l) (hb:Below B w w') (hB:w.heap.size<=B):Bs w' S v l :=
 h.keep fun g hg _=>hb.block g (by omega)
theorem Bs.nil:Bs w S (.slice none 0 0) []:=⟨none,0,rfl,Nat.le_refl _,Nat.zero_le _,Rd.nil⟩
theorem Bs.len (h:Bs w S v l):l.length<=9223372036854775807:=by
 obtain ⟨A,c,e,h1,h2,h3⟩:=h
 unfold maxLen at h2
 omega

theorem Rd.of_own {base:Nat} {e:TypeId} {c:Nat} (h:w.ownsRow base e size (.slice A n c) n xs):Rd w (base<=·) size A n xs:=by
 refine ⟨h.1,fun hn=>?_⟩
 rcases h.2 with ⟨_,h0⟩|⟨g,cap,cur,hv,hb,hh,_,_,hs,ht⟩
 ·omega
 ·injection hv with hA
  subst hA
  have hlt:g<w.heap.size:=by
   rcases Nat.lt_or_ge g w.heap.size with h1|h1
   ·exact h1
   ·rw [Array.getElem?_eq_none h1] at hh;cases hh
  refine ⟨g,0,rfl,⟨hlt,hb⟩,fun j u hu=>?_⟩
  rw [Nat.zero_add,cell_of_row w g j cur e (0,0) hh]
  rw [←ht,List.getElem?_take] at hu
  split at hu
  ·simpa using hu
  ·cases hu
end

theorem ownsRow_keep {w w':World} {base:Nat} {e:TypeId} {size:Nat} {v:Value} {n:Nat} {xs:List Value} (h:w.ownsRow base e size v n xs) (hk:∀g,v.ownBlock=some g->w'.heap[g]?=w.heap[g]?):w'.ownsRow base e size v n xs:=by
 refine ⟨h.1,?_⟩
 rcases h.2 with hn|⟨g,cap,cur,rfl,hb,hgg,rest⟩
 ·exact .inl hn
 ·exact .inr ⟨g,cap,cur,rfl,hb,by rw [hk g rfl];exact hgg,rest⟩
theorem ownsRow_base {w:World} {base base':Nat} {e:TypeId} {size:Nat} {v:Value} {n:Nat} {xs:List Value} (h:w.ownsRow base e size v n xs) (hk:base'<=base):w.ownsRow base' e size v n xs:=by
 refine ⟨h.1,?_⟩
 rcases h.2 with hn|⟨g,cap,cur,rfl,hb,hgg,rest⟩
 ·exact .inl hn
 ·exact .inr ⟨g,cap,cur,rfl,by omega,hgg,rest⟩

section
variable {P:Program} (w:World)
theorem run_app (base:Nat) (t ty e:TypeId) (i:TypeInfo) (z:Value) (size bytes:Nat) (ht:P.underlying t=some (.slice e)) (hi:P.info? e=some i) (hz:i.zero=some z)
  (hsize:i.size=size) (hby:i.bytes=bytes) (hzs:z.cells.size=size) (hsz:0<size)
  (v:Value) (n:Nat) (xs:List Value) (hown:w.ownsRow base e size v n xs)
  (S:Nat->Prop) (A:Option Addr) (m c:Nat) (news:List Value) (hr:Rd w S size A m news) (h1:∀u∈news,u.oneCell'=true)
  (h63:n+m<=maxLen) (hbytes:(n+m)*bytes<=140737488355328) (hbase:base<=w.heap.size) :
  ∃v' w',(Builtin.append_ #[t,t] ty #[v,.slice A m c]).run P w=.ok v' w'∧w'.ownsRow base e size v' (n+m) (xs++news)∧w.grownBy w' v.ownBlock ∧
   (v'.ownBlock=v.ownBlock∨v'.ownBlock=some w.heap.size):=by
 by_cases h0:m=0
 ·subst h0
  have hn:news=[]:=List.eq_nil_of_length_eq_zero (by simpa using hr.1)
  subst hn
  refine ⟨v,w,?_,by simpa using hown,World.grownBy.refl w _,.inl rfl⟩
  rcases hown.2 with ⟨rfl,rfl⟩|⟨g,cap,cur,rfl,_,_,hnc,_⟩
  ·rcases A with _|ad <;> simp [Builtin.append_,run_underlying ht,sizeOf,typeInfo,hi,Builtin.lenOf,Builtin.firstCells,loadCells,loadCellsFrom]
  ·rcases A with _|ad <;> simp [Builtin.append_,run_underlying ht,sizeOf,typeInfo,hi,Builtin.lenOf,Builtin.firstCells,hnc,storeCells,loadCells,loadCellsFrom]
 ·obtain ⟨g,o,rfl,_,hc⟩:=hr.2 (by omega)
  have hcells:∀j u,news[j]?=some u->w.cell? ((⟨g,o,none⟩:Addr).add j)=some u:=by
   intro j u hu
   have:=hc j u hu
   unfold Addr.add
   split
   ·rename_i hj;subst hj;simpa using this
   ·exact this
  obtain ⟨v',w',hrun,h2,h3,_,h5⟩:=run_append_own_at (P:=P) w base t ty e i z size bytes ht hi hz hsize hby hzs hsz v n xs hown ⟨g,o,none⟩ m c news hr.1 hcells h1 h63 hbytes hbase
  exact ⟨v',w',hrun,h2,h3,h5⟩

theorem wp_app {o:Oper} {a:Act} {K:Act->World->Prop} {Q:Exit->Act->World->Prop} (s x:Operand) (t:TypeId)
  (ho:o.op=.call { callee:=.builtin .append,args:=#[s,x],argTypes:=#[t,t] })
  (base:Nat) (e:TypeId) (i:TypeInfo) (z:Value) (size bytes:Nat) (ht:P.underlying t=some (.slice e)) (hi:P.info? e=some i) (hz:i.zero=some z)
  (hsize:i.size=size) (hby:i.bytes=bytes) (hzs:z.cells.size=size) (hsz:0<size)
  (v:Value) (n:Nat) (xs:List Value) (hs:a.eval s=v) (hown:w.ownsRow base e size v n xs)
  (S:Nat->Prop) (A:Option Addr) (m c:Nat) (news:List Value) (hx:a.eval x=.slice A m c) (hr:Rd w S size A m news) (h1:∀u∈news,u.oneCell'=true)
  (h63:n+m<=maxLen) (hbytes:(n+m)*bytes<=140737488355328) (hbase:base<=w.heap.size)
  (h:∀v' w',w'.ownsRow base e size v' (n+m) (xs++news)->w.grownBy w' v.ownBlock->(v'.ownBlock=v.ownBlock∨v'.ownBlock=some w.heap.size)->K (a.put o.dst v') w'):o.wp P a w K Q:=by
 obtain ⟨v',w',hrun,h2,h3,h4⟩:=run_app (P:=P) w base t o.type e i z size bytes ht hi hz hsize hby hzs hsz v n xs hown S A m c news hr h1 h63 hbytes hbase
 unfold Oper.wp execOp
 simp only [ho,resolve,invoke,builtin,Sem.run_bind,Sem.run_pure,Result.andThen_ok,List.map_toArray,List.map_cons,List.map_nil,hs,hx,hrun]
 exact h v' w' h2 h3 h4
end
theorem one_u8 (l:List UInt8):∀u∈l.map u8v,u.oneCell'=true:=by
 intro u hu
 obtain ⟨b,_,rfl⟩:=List.mem_map.1 hu
 rfl
theorem one_u32 (l:List UInt32):∀u∈l.map u32v,u.oneCell'=true:=by
 intro u hu
 obtain ⟨b,_,rfl⟩:=List.mem_map.1 hu
 rfl
theorem region_tail {P:Program} {id:Nat} {Q:Exit->Act->World->Prop} {a:Act} {w:World} {l:List Oper} (n:Nat) (hm:P.follows .mixedOrders=true) (hB:Region.lexTailB .any l.toArray n=true)
  (h:wpStill P l.toArray w.drew (fun a'=>wpList P l.toArray Q (l.drop n) a' w.drew) (l.take n) a):(Code.region id l.toArray true).wp P Q a w:=wp_region_still_tail n hm hB h
theorem u8_of {z:Int} {n:Nat} (h:z=n):z % 256=((UInt8.ofNat n).toNat:Int):=by subst h;simp
theorem ret_int {k:IntKind} {a b:Int} (h:a=b):Ending.returned (.int k a)=.returned (.int k b):=by rw [h]
end Go.Proofs.YtjjodibkmeefpaaGreatDoor

namespace Go.Proofs.YtjjodibkmeefpaaGreatDoor
open Go Go.RowKit

def upd (ρ:Nat->Value) (d:Nat) (v:Value):Nat->Value:=fun j=>bif Nat.beq j d then v else ρ j
def st (n:Nat) (ρ:Nat->Value) (ds:List Deferred):Act:=⟨((List.range n).map ρ).toArray,ds⟩
def ev (n:Nat) (ρ:Nat->Value):Operand->Value
  | .tmp t=>bif Nat.blt t n then ρ t else undef
  | .const v=>v
  | .global g=>.pointer (some ⟨g,0,none⟩)
  | .func f=>.func (.func f) #[] #[]
def argsρ (l:List Value):Nat->Value:=fun j=>l.getD j undef

section
variable {n:Nat} {ρ:Nat->Value} {ds:List Deferred}
theorem st_getD (t:Nat):(st n ρ ds).tmps.getD t undef=bif Nat.blt t n then ρ t else undef:=by
  unfold st
  by_cases h:t<n
  · have hb:Nat.blt t n=true:=by rw [Nat.blt_eq];exact h
    rw [hb]
    simp [h]
  · have hb:Nat.blt t n=false:=by
      rw [←Bool.not_eq_true,Nat.blt_eq];exact h
    rw [hb]
    simp [h]
theorem st_eval:(st n ρ ds).eval=ev n ρ:=by
  funext x
  cases x with
  | tmp t=>exact st_getD t
  | _=>rfl
theorem st_put (d:Nat) (v:Value):(st n ρ ds).put (some d) v=st n (upd ρ d v) ds:=by
  have e:((List.range n).map ρ).toArray.setIfInBounds d v=((List.range n).map (upd ρ d v)).toArray:=by
   apply Array.ext_getElem?
   intro j
   simp only [List.getElem?_toArray,List.getElem?_map,Array.getElem?_setIfInBounds,List.size_toArray,List.length_map,List.length_range]
   by_cases hj:d=j
   · subst hj
     by_cases hn:d<n
     · simp [hn,upd]
     · simp [hn]
   · rw [if_neg hj]
     by_cases hn:j<n
     · rw [List.getElem?_range hn]
       have hb:Nat.beq j d=false:=by
         cases hq:Nat.beq j d with
         | false=>rfl
         | true=>exact absurd (Nat.eq_of_beq_eq_true hq).symm hj
       simp [upd,hb]
     · have:(List.range n)[j]?=none:=List.getElem?_eq_none (by simp;omega)
       rw [this]
       rfl
  exact congrArg (fun t=>({ tmps:=t,defers:=ds }:Act)) e
theorem st_args (l:List Value) (h:l.length<=n):({ tmps:=l.toArray++Array.replicate (n - l.toArray.size) undef,defers:=[] }:Act)=st n (argsρ l) []:=by
  have e:l.toArray++Array.replicate (n - l.toArray.size) undef=((List.range n).map (argsρ l)).toArray:=by
    apply Array.ext_getElem?
    intro j
    simp only [List.getElem?_toArray,List.getElem?_map,Array.getElem?_append,List.size_toArray,Array.getElem?_replicate]
    by_cases hj:j<l.length
    · rw [if_pos hj,List.getElem?_range (by omega)]
      show l[j]?=some (l.getD j undef)
      rw [List.getD_eq_getElem?_getD,List.getElem?_eq_getElem hj]
      rfl
    · rw [if_neg hj]
      by_cases hn:j<n
      · rw [List.getElem?_range hn,if_pos (by omega)]
        show some undef=some (l.getD j undef)
        rw [List.getD_eq_getElem?_getD,List.getElem?_eq_none (Nat.le_of_not_lt hj)]
        rfl
      · have:(List.range n)[j]?=none:=List.getElem?_eq_none (by simp;omega)
        rw [this,if_neg (by omega)]
        rfl
  unfold st
  rw [e]
end

def wpK (P:Program) (Q:Exit->Act->World->Prop):List Code->Act->World->Prop
  | [],a,w=>Q .normal a w
  | c::cs,a,w=>c.wp P (Exit.then (wpK P Q cs) Q) a w

section
variable {P:Program} {Q:Exit->Act->World->Prop} {a:Act} {w:World} {cs:List Code}
theorem kE {f:FuncId} {fn:Func} {c:Code} {l:List Value} {R:Ending->World->Prop} (hf:P.funcs[f]?=some fn) (hb:fn.body=some c) (hl:Nat.ble l.length fn.ntmps=true)
    (h:wpK P (bodyPost P fn R) [c] (st fn.ntmps (argsρ l) []) w):Calls P f l.toArray w R:=by
  refine calls_of_wp hf hb ?_
  rw [st_args l (Nat.le_of_ble_eq_true hl)]
  exact Code.wp_mono (fun e a w q=>by cases e <;> exact q) h
theorem kQ {x y:Code} (h:wpK P Q (x::y::cs) a w):wpK P Q (.seq x y::cs) a w :=
  wp_seq (Code.wp_mono (fun e a w q=>by cases e <;> exact q) h)
theorem kS (h:wpK P Q cs a w):wpK P Q (.skip::cs) a w:=wp_skip h
theorem k_ret (h:Q .ret a w):wpK P Q (.ret::cs) a w:=wp_ret h
theorem ke {id:Nat} (h:Q (.exit id) a w):wpK P Q (.exit id::cs) a w:=wp_exit h
theorem kb {id:Nat} {c:Code} (h:wpK P (Exit.inBlock id (Exit.then (wpK P Q cs) Q)) [c] a w):wpK P Q (.block id c::cs) a w :=
  wp_block (Code.wp_mono (fun e a w q=>by cases e <;> exact q) h)
theorem kr {id:Nat} {l:List Oper} (h:wpList P l.toArray (Exit.then (wpK P Q cs) Q) l a w):wpK P Q (.region id l.toArray false::cs) a w:=wp_region_lit h
theorem kC {c:Operand} {x y:Code} {n:Nat} {ρ:Nat->Value} {ds:List Deferred} {b:Bool} (hc:ev n ρ c=.bool b) (ht:b=true->wpK P Q (x::cs) (st n ρ ds) w) (hf:b=false->wpK P Q (y::cs) (st n ρ ds) w) :
    wpK P Q (.cond c x y::cs) (st n ρ ds) w:=by
  rw [←st_eval (ds:=ds)] at hc
  exact wp_cond_split hc ht hf
theorem kT {c:Operand} {x y:Code} {n:Nat} {ρ:Nat->Value} {ds:List Deferred} {b:Bool} (hc:ev n ρ c=.bool b) (hb:b=true) (ht:wpK P Q (x::cs) (st n ρ ds) w):wpK P Q (.cond c x y::cs) (st n ρ ds) w :=
  kC hc (fun _=>ht) (fun h=>by rw [hb] at h;cases h)
theorem kF {c:Operand} {x y:Code} {n:Nat} {ρ:Nat->Value} {ds:List Deferred} {b:Bool} (hc:ev n ρ c=.bool b) (hb:b=false) (hf:wpK P Q (y::cs) (st n ρ ds) w):wpK P Q (.cond c x y::cs) (st n ρ ds) w :=
  kC hc (fun h=>by rw [hb] at h;cases h) (fun _=>hf)
theorem ko {c:Code} (h:wpK P Q [c] a w):c.wp P Q a w:=Code.wp_mono (fun e a w q=>by cases e <;> exact q) h
theorem ln {ops:Array Oper} {next:Act->World->Prop} (h:next a w):wpList P ops (Exit.then next Q) [] a w:=h
theorem q_ret0 {fn:Func} {R:Ending->World->Prop} {n:Nat} {ρ:Nat->Value} (hr:fn.results=#[]) (h:R (.returned (.tuple #[])) w):bodyPost P fn R .ret (st n ρ []) w:=⟨rfl,_,results_none hr _ _ _,h⟩
theorem q_end0 {fn:Func} {R:Ending->World->Prop} {n:Nat} {ρ:Nat->Value} (hr:fn.results=#[]) (h:R (.returned (.tuple #[])) w):bodyPost P fn R .normal (st n ρ []) w:=⟨rfl,_,results_none hr _ _ _,h⟩
theorem qr {fn:Func} {R:Ending->World->Prop} {n:Nat} {ρ:Nat->Value} {t:Tmp} {v:Value} (hr:fn.results=#[.tmp t]) (hv:ev n ρ (.tmp t)=v) (h:R (.returned v) w):bodyPost P fn R .ret (st n ρ []) w :=
  ⟨rfl,_,results_tmp hr _ _ _,by subst hv;rw [st_getD];exact h⟩
theorem q_ret2 {fn:Func} {R:Ending->World->Prop} {n:Nat} {ρ:Nat->Value} {t u:Tmp} {v x:Value} (hr:fn.results=#[.tmp t,.tmp u]) (hv:ev n ρ (.tmp t)=v) (hx:ev n ρ (.tmp u)=x) (h:R (.returned (.tuple #[v,x])) w):bodyPost P fn R .ret (st n ρ []) w :=
  ⟨rfl,_,results_tmp2 hr _ _ _,by subst hv hx;rw [st_getD,st_getD];exact h⟩
theorem xH {id:Nat} {next:Act->World->Prop} (h:next a w):Exit.inBlock id (Exit.then next Q) (.exit id) a w:=by
  show if id=id then _ else _
  rw [if_pos rfl];exact h
end
end Go.Proofs.YtjjodibkmeefpaaGreatDoor

namespace Go.Proofs.YtjjodibkmeefpaaGreatDoor
open Go Go.RowKit

structure Fact where
 fp:Nat->Prop
 p:World->Prop
 st:∀W W',p W->(∀g,fp g->W'.heap[g]?=W.heap[g]?)->p W'

def Fact.blk (g:Nat) (c:List Value) (t:TypeId):Fact:=⟨(·=g),fun W=>W.heap[g]?=some (.cells c.toArray t (0,0)),fun _ _ h k=>(k g rfl).trans h⟩
def Fact.row (e size:Nat) (v:Value) (n:Nat) (xs:List Value):Fact:=⟨fun g=>v.ownBlock=some g,fun W=>W.ownsRow 0 e size v n xs,fun _ _ h k=>ownsRow_keep h (fun g hg=>k g hg)⟩
def Fact.bs (S:Nat->Prop) (v:Value) (l:List UInt8):Fact:=⟨S,fun W=>Bs W S v l,fun _ _ h k=>h.keep (fun g _ hs=>k g hs)⟩
def Fact.mk2 (S:Nat->Prop) (p:World->Prop) (h:∀W W',p W->(∀g,S g->W'.heap[g]?=W.heap[g]?)->p W'):Fact:=⟨S,p,h⟩

structure St (T:Nat->Prop) (w0 W:World) (L:List Fact):Prop where
 fr:Fr T w0 W
 holds:∀f∈L,f.p W
 own:∀f∈L,∀g,f.fp g->(T g∨w0.heap.size<=g)∧g<W.heap.size
 apart:L.Pairwise (fun f f'=>∀g,f.fp g->¬f'.fp g)

theorem Fr.drew {T:Nat->Prop} {w w':World} (h:Fr T w w'):Fr T w w'.drew:=⟨h.os,h.tape,h.output,h.size,h.block⟩
theorem fr_of_below {w w':World} (h:Below w.heap.size w w') (T:Nat->Prop):Fr T w w':=⟨h.os,h.tape,h.output,h.size,fun k hk _=>h.block k hk⟩

section
variable {T:Nat->Prop} {w0 W W':World} {L L':List Fact} {f f':Fact}
theorem St.start (T:Nat->Prop) (w:World):St T w w []:=⟨Fr.refl,fun _ h=>by (cases h),fun _ h=>by (cases h),.nil⟩
theorem St.size (H:St T w0 W L):w0.heap.size<=W.heap.size:=H.fr.size
theorem St.perm (H:St T w0 W L) (h:L.Perm L'):St T w0 W L' :=
 ⟨H.fr,fun f hf=>H.holds f (h.mem_iff.2 hf),fun f hf=>H.own f (h.mem_iff.2 hf),(h.pairwise_iff (fun hxy g hg hy=>hxy g hy hg)).1 H.apart⟩
theorem St.drop (H:St T w0 W (f::L)):St T w0 W L:=⟨H.fr,fun f hf=>H.holds f (.tail _ hf),fun f hf=>H.own f (.tail _ hf),(List.pairwise_cons.1 H.apart).2⟩
theorem St.sub (H:St T w0 W L) (h:L'.Sublist L):St T w0 W L':=⟨H.fr,fun f hf=>H.holds f (h.subset hf),fun f hf=>H.own f (h.subset hf),H.apart.sublist h⟩
theorem St.below (H:St T w0 W L) (hb:Below W.heap.size W W'):St T w0 W' L :=
 ⟨H.fr.trans (fr_of_below hb T) (fun _ _ h=>h),fun f hf=>f.st W W' (H.holds f hf) (fun g hg=>hb.block g (H.own f hf g hg).2),
  fun f hf g hg=>⟨(H.own f hf g hg).1,Nat.lt_of_lt_of_le (H.own f hf g hg).2 hb.size⟩,H.apart⟩
theorem St.call (H:St T w0 W L) (hb:Below W.heap.size W W') (hp:f.p W') (hf:∀g,f.fp g->W.heap.size<=g∧g<W'.heap.size):St T w0 W' (f::L):=by
 have H':=H.below hb
 refine ⟨H'.fr,fun x hx=>?_,fun x hx g hg=>?_,List.pairwise_cons.2 ⟨fun x hx g hg hxg=>?_,H'.apart⟩⟩
 ·rcases List.mem_cons.1 hx with rfl|hx
  ·exact hp
  ·exact H'.holds x hx
 ·rcases List.mem_cons.1 hx with rfl|hx
  ·have:=hf g hg;have:=H.size;exact ⟨.inr (by omega),by omega⟩
  ·exact H'.own x hx g hg
 ·have h1:=hf g hg
  have h2:=(H.own x hx g hxg).2
  omega
theorem St.turn0 (H:St T w0 W (f::L)) (hb:Fr f.fp W W') (hp:f'.p W') (hf:∀g,f'.fp g->f.fp g∨(W.heap.size<=g∧g<W'.heap.size)):St T w0 W' (f'::L):=by
 have hap:=List.pairwise_cons.1 H.apart
 have hsz:=hb.size
 refine ⟨H.fr.trans hb (fun g hg hf=>?_),fun x hx=>?_,fun x hx g hg=>?_,List.pairwise_cons.2 ⟨fun x hx g hg hxg=>?_,hap.2⟩⟩
 ·rcases (H.own f (.head _) g hf).1 with h|h
  ·exact h
  ·omega
 ·rcases List.mem_cons.1 hx with rfl|hx
  ·exact hp
  ·exact x.st W W' (H.holds x (.tail _ hx)) (fun g hg=>hb.block g (H.own x (.tail _ hx) g hg).2 (fun hfg=>hap.1 x hx g hfg hg))
 ·rcases List.mem_cons.1 hx with rfl|hx
  ·rcases hf g hg with h|h
   ·have:=H.own f (.head _) g h;exact ⟨this.1,by omega⟩
   ·have:=H.size;exact ⟨.inr (by omega),h.2⟩
  ·have:=H.own x (.tail _ hx) g hg;exact ⟨this.1,by omega⟩
 ·rcases hf g hg with h|h
  ·exact hap.1 x hx g h hxg
  ·have:=(H.own x (.tail _ hx) g hxg).2;omega

class In (f:Fact) (L:List Fact):Prop where mem:f∈L
class Turn (f f':Fact) (L:List Fact) (L':outParam (List Fact)):Prop where perm:∃M,L.Perm (f::M)∧L'.Perm (f'::M)
instance (priority:=low) In.tail [h:In f L]:In f (f'::L):=⟨.tail _ h.mem⟩
instance In.head:In f (f::L):=⟨.head _⟩
instance (priority:=low) Turn.tail {x:Fact} [h:Turn f f' L L']:Turn f f' (x::L) (x::L'):=⟨by
 obtain ⟨M,h1,h2⟩:=h.perm
 exact ⟨x::M,(h1.cons x).trans (.swap _ _ _),(h2.cons x).trans (.swap _ _ _)⟩⟩
instance Turn.head:Turn f f' (f::L) (f'::L):=⟨L,.refl _,.refl _⟩
theorem St.turn (H:St T w0 W L) [h:Turn f f' L L'] (hb:Fr f.fp W W') (hp:f'.p W') (hf:∀g,f'.fp g->f.fp g∨(W.heap.size<=g∧g<W'.heap.size)):St T w0 W' L':=by
 obtain ⟨M,h1,h2⟩:=h.perm
 exact ((H.perm h1).turn0 hb hp hf).perm h2.symm
theorem St.get (H:St T w0 W L) [h:In f L]:f.p W:=H.holds f h.mem
class Blk (g:Nat) (L:List Fact) (c:outParam (List Value)) (t:outParam TypeId):Prop where mem:Fact.blk g c t∈L
class BlkTo (g:Nat) (c':List Value) (L:List Fact) (L':outParam (List Fact)):Prop where perm:∃c t M,L.Perm (Fact.blk g c t::M)∧L'.Perm (Fact.blk g c' t::M)
instance (priority:=low) Blk.tail {g:Nat} {c:List Value} {t:TypeId} [h:Blk g L c t]:Blk g (f'::L) c t:=⟨.tail _ h.mem⟩
instance Blk.head {g:Nat} {c:List Value} {t:TypeId}:Blk g (Fact.blk g c t::L) c t:=⟨.head _⟩
theorem St.blk (H:St T w0 W L) {g:Nat} {c:List Value} {t:TypeId} [h:Blk g L c t]:W.heap[g]?=some (.cells c.toArray t (0,0)):=H.holds _ h.mem
theorem St.alloc (H:St T w0 W L) (c:List Value) (t:TypeId):St T w0 (W.alloc (.cells c.toArray t)) (Fact.blk W.heap.size c t::L) :=
 H.call ((Below.refl _ _).alloc (Nat.le_refl _) _) (heap_alloc_new W _) (fun g hg=>by
  have:g=W.heap.size:=hg
  subst this;simp)
theorem St.drew (H:St T w0 W L):St T w0 W.drew L:=⟨H.fr.drew,fun f hf=>f.st W _ (H.holds f hf) (fun _ _=>rfl),H.own,H.apart⟩
end
end Go.Proofs.YtjjodibkmeefpaaGreatDoor

namespace Go.Proofs.YtjjodibkmeefpaaGreatDoor
open Go Go.RowKit

def Runs (P:Program) (n:Nat) (ρ:Nat->Value) (o:Oper) (W:World) (v:Value) (W':World):Prop:=(execOp (ev n ρ) o).run P W=.ok (.value v) W'
def Does (P:Program) (n:Nat) (ρ:Nat->Value) (o:Oper) (W W':World):Prop:=(execOp (ev n ρ) o).run P W=.ok .skip W'

section
variable {P:Program} {ops:Array Oper} {Q:Exit->Act->World->Prop} {rest:List Oper} {o:Oper} {n:Nat} {ρ:Nat->Value} {ds:List Deferred} {W W':World} {d:Tmp} {v:Value}

def Step (P:Program) (ops:Array Oper) (Q:Exit->Act->World->Prop) (o:Oper) (a:Act) (w:World) (K:Act->World->Prop):Prop:=Region.wanted o (yielded ops a.tmps)=true∧o.wp P a w K Q
theorem wn {a:Act} (hg:o.guard=none):Region.wanted o (yielded ops a.tmps)=true:=by simp [Region.wanted,hg]
theorem wanted_g {j:Nat} {want b:Bool} {oj:Oper} {e:Tmp} (hg:o.guard=some (j,want)) (hj:ops[j]?=some oj) (he:oj.dst=some e) (hv:ev n ρ (.tmp e)=.bool b):Region.wanted o (yielded ops (st n ρ ds).tmps)=(b == want):=by
 have hlt:Nat.blt e n=true:=by
  cases h:Nat.blt e n with
  | true=>rfl
  | false=>simp only [ev,h,cond_false] at hv;cases hv
 have h1:(st n ρ ds).tmps[e]?=some (.bool b):=by
  have h2:=st_getD (n:=n) (ρ:=ρ) (ds:=ds) e
  simp only [ev] at hv
  rw [hv] at h2
  rw [Array.getD_eq_getD_getElem?] at h2
  cases h3:(st n ρ ds).tmps[e]? with
  | none=>rw [h3] at h2;cases h2
  | some u=>rw [h3] at h2;exact congrArg some h2
 unfold Region.wanted yielded
 rw [hg]
 simp only [hj,he,Option.bind_some,h1]
 cases b <;> cases want <;> rfl
theorem w_g {j:Nat} {want:Bool} {oj:Oper} {e:Tmp} (hg:o.guard=some (j,want)) (hj:ops[j]?=some oj) (he:oj.dst=some e) (hv:ev n ρ (.tmp e)=.bool want):Region.wanted o (yielded ops (st n ρ ds).tmps)=true:=by
 rw [wanted_g hg hj he hv];simp
theorem wO {j:Nat} {want b:Bool} {oj:Oper} {e:Tmp} (hg:o.guard=some (j,want)) (hj:ops[j]?=some oj) (he:oj.dst=some e) (hv:ev n ρ (.tmp e)=.bool b) (hne:(b == want)=false):Region.wanted o (yielded ops (st n ρ ds).tmps)=false:=by
 rw [wanted_g hg hj he hv,hne]

theorem sf {a:Act} (h:Step P ops Q o a W (wpList P ops Q rest)):wpList P ops Q (o::rest) a W:=by
 unfold wpList
 rw [if_pos h.1]
 exact .inl h.2
theorem sr (hw:Region.wanted o (yielded ops (st n ρ ds).tmps)=true) (hd:o.dst=some d) (h:Runs P n ρ o W v W') (k:wpList P ops Q rest (st n (upd ρ d v) ds) W'):wpList P ops Q (o::rest) (st n ρ ds) W :=
 sf ⟨hw,by
  unfold Oper.wp
  rw [st_eval,show (execOp (ev n ρ) o).run P W=_ from h]
  show wpList P ops Q rest ((st n ρ ds).put o.dst v) W'
  rw [hd,st_put]
  exact k⟩
theorem sK (hw:Region.wanted o (yielded ops (st n ρ ds).tmps)=false) (hd:o.dst=some d) (k:wpList P ops Q rest (st n (upd ρ d undef) ds) W):wpList P ops Q (o::rest) (st n ρ ds) W:=by
 unfold wpList
 rw [hw,hd,st_put]
 exact k

section
variable {K:Act->World->Prop}
theorem e_run (hw:Region.wanted o (yielded ops (st n ρ ds).tmps)=true) (hd:o.dst=some d) (h:Runs P n ρ o W v W') (k:K (st n (upd ρ d v) ds) W'):Step P ops Q o (st n ρ ds) W K :=
 ⟨hw,by
  unfold Oper.wp
  rw [st_eval,show (execOp (ev n ρ) o).run P W=_ from h]
  show K ((st n ρ ds).put o.dst v) W'
  rw [hd,st_put]
  exact k⟩
theorem e_do (hw:Region.wanted o (yielded ops (st n ρ ds).tmps)=true) (hd:o.dst=none) (h:Does P n ρ o W W') (k:K (st n ρ ds) W'):Step P ops Q o (st n ρ ds) W K :=
 ⟨hw,by
  unfold Oper.wp
  rw [st_eval,show (execOp (ev n ρ) o).run P W=_ from h]
  show K ((st n ρ ds).put o.dst undef) W'
  rw [hd]
  exact k⟩
theorem e_call {f:FuncId} {fn:Func} {args:Array Operand} {ats:Array TypeId} {l:List Value} {S:Value->World->Prop} (hw:Region.wanted o (yielded ops (st n ρ ds).tmps)=true) (hd:o.dst=some d) (ho:o.op=.call { callee:=.value (.func f),args:=args,argTypes:=ats })
  (hf : P.funcs[f]? = some fn) (hb : fn.body.isNone = false) (hn : (fn.name == "runtime.NumGoroutine") = false) (hl : (args.toList.map (ev n ρ)) = l)
  (hc:Calls P f l.toArray W (fun e w'=>∃v,e=.returned v∧S v w')) (k:∀v W',S v W'->K (st n (upd ρ d v) ds) W'):Step P ops Q o (st n ρ ds) W K :=
 ⟨hw,by
  have he:(execOp (ev n ρ) o).run P W=.ok (.enter f l.toArray) W:=by
   unfold execOp
   simp only [ho,resolve,ev,Deferred.ofValue,invoke,callFunc,Sem.run_bind,Sem.run_pure,Result.andThen_ok]
   have hmap:args.map (ev n ρ)=l.toArray:=by
    rw [←hl];apply Array.ext';simp
   have hn' : fn.name ≠ "runtime.NumGoroutine" := by simpa using hn
   have hb':fn.body≠none:=by
    intro h;rw [h] at hb;cases hb
   simp [hf,hb',hn',hmap]
  unfold Oper.wp
  rw [st_eval,he]
  refine Calls.mono hc fun e w' hS=>?_
  obtain ⟨v,rfl,hS⟩:=hS
  show K ((st n ρ ds).put o.dst v) w'
  rw [hd,st_put]
  exact k v w' hS⟩
theorem e_callv {x:Operand} {f:FuncId} {fn:Func} {pre cap:Array Value} {args:Array Operand} {ats:Array TypeId} {l:List Value} {S:Value->World->Prop} (hw:Region.wanted o (yielded ops (st n ρ ds).tmps)=true) (hd:o.dst=some d) (ho:o.op=.call { callee:=.value x,args:=args,argTypes:=ats })
  (hx : ev n ρ x = .func (.func f) pre cap) (hf : P.funcs[f]? = some fn) (hb : fn.body.isNone = false) (hn : (fn.name == "runtime.NumGoroutine") = false) (hl : pre.toList ++ (args.toList.map (ev n ρ)) ++ cap.toList = l)
  (hc:Calls P f l.toArray W (fun e w'=>∃v,e=.returned v∧S v w')) (k:∀v W',S v W'->K (st n (upd ρ d v) ds) W'):Step P ops Q o (st n ρ ds) W K :=
 ⟨hw,by
  have he:(execOp (ev n ρ) o).run P W=.ok (.enter f l.toArray) W:=by
   unfold execOp
   simp only [ho,resolve,hx,Deferred.ofValue,invoke,callFunc,Sem.run_bind,Sem.run_pure,Result.andThen_ok]
   have hmap:pre++args.map (ev n ρ)++cap=l.toArray:=by
    rw [←hl];apply Array.ext';simp
   have hn' : fn.name ≠ "runtime.NumGoroutine" := by simpa using hn
   have hb':fn.body≠none:=by
    intro h;rw [h] at hb;cases hb
   simp [hf,hb',hn',hmap]
  unfold Oper.wp
  rw [st_eval,he]
  refine Calls.mono hc fun e w' hS=>?_
  obtain ⟨v,rfl,hS⟩:=hS
  show K ((st n ρ ds).put o.dst v) w'
  rw [hd,st_put]
  exact k v w' hS⟩
end
end
end Go.Proofs.YtjjodibkmeefpaaGreatDoor

namespace Go.Proofs.YtjjodibkmeefpaaGreatDoor
open Go Go.RowKit

section
variable {P:Program} {o:Oper} {n:Nat} {ρ:Nat->Value} {W:World} {v u:Value} {x y z:Operand} {t t':TypeId} {k k':IntKind} {a b:Int}
theorem d_move (ho:o.op=.move x) (hx:ev n ρ x=v):Runs P n ρ o W v W:=by unfold Runs execOp;simp [ho,hx]
theorem d_asg (ho:o.op=.assign x) (hx:ev n ρ x=v):Runs P n ρ o W v W:=by unfold Runs execOp;simp [ho,hx]
theorem mv_i (ho:o.op=.move x) (hx:ev n ρ x=.int k a):Runs P n ρ o W (.int k a) W:=d_move ho hx
theorem mv_b {c:Bool} (ho:o.op=.move x) (hx:ev n ρ x=.bool c):Runs P n ρ o W (.bool c) W:=d_move ho hx
theorem mv_bx {b c:Bool} (ho:o.op=.move x) (hx:ev n ρ x=.bool b) (hb:b=c):Runs P n ρ o W (.bool c) W:=d_move ho (by rw [hx,hb])
theorem mv_s {A:Option Addr} {m c:Nat} (ho:o.op=.move x) (hx:ev n ρ x=.slice A m c):Runs P n ρ o W (.slice A m c) W:=d_move ho hx
theorem mv_p {A:Option Addr} (ho:o.op=.move x) (hx:ev n ρ x=.pointer A):Runs P n ρ o W (.pointer A) W:=d_move ho hx
theorem mv_t {c:Array Value} (ho:o.op=.move x) (hx:ev n ρ x=.tuple c):Runs P n ρ o W (.tuple c) W:=d_move ho hx
theorem mv_str {c:ByteArray} (ho:o.op=.move x) (hx:ev n ρ x=.string c):Runs P n ρ o W (.string c) W:=d_move ho hx
theorem mv_f {f:Fn} {p c:Array Value} (ho:o.op=.move x) (hx:ev n ρ x=.func f p c):Runs P n ρ o W (.func f p c) W:=d_move ho hx
theorem as_i (ho:o.op=.assign x) (hx:ev n ρ x=.int k a):Runs P n ρ o W (.int k a) W:=d_asg ho hx
theorem as_b {c:Bool} (ho:o.op=.assign x) (hx:ev n ρ x=.bool c):Runs P n ρ o W (.bool c) W:=d_asg ho hx
theorem as_s {A:Option Addr} {m c:Nat} (ho:o.op=.assign x) (hx:ev n ρ x=.slice A m c):Runs P n ρ o W (.slice A m c) W:=d_asg ho hx
theorem as_p {A:Option Addr} (ho:o.op=.assign x) (hx:ev n ρ x=.pointer A):Runs P n ρ o W (.pointer A) W:=d_asg ho hx
theorem as_f {f:Fn} {p c:Array Value} (ho:o.op=.assign x) (hx:ev n ρ x=.func f p c):Runs P n ρ o W (.func f p c) W:=d_asg ho hx
theorem d_pickT (ho:o.op=.pick x y z) (hx:ev n ρ x=.bool true) {c:Bool} (hy:ev n ρ y=.bool c):Runs P n ρ o W (.bool c) W:=by unfold Runs execOp;simp [ho,hx,hy,asBool]
theorem d_pickF (ho:o.op=.pick x y z) (hx:ev n ρ x=.bool false) {c:Bool} (hz:ev n ρ z=.bool c):Runs P n ρ o W (.bool c) W:=by unfold Runs execOp;simp [ho,hx,hz,asBool]
theorem d_ext {c:Array Value} {i:Nat} (ho:o.op=.extract x i) (hx:ev n ρ x=.tuple c) (hi:c[i]?=some v):Runs P n ρ o W v W:=by unfold Runs execOp;simp [ho,hx,Instr.extract,hi]
theorem d_mkf {f:Fn} {p c:Array Operand} {p' c':List Value} (ho:o.op=.makeFunc f p c) (hp:p.toList.map (ev n ρ)=p') (hc:c.toList.map (ev n ρ)=c'):Runs P n ρ o W (.func f p'.toArray c'.toArray) W:=by
 subst hp hc
 unfold Runs execOp
 have e1:p.map (ev n ρ)=(p.toList.map (ev n ρ)).toArray:=by apply Array.ext';simp
 have e2:c.map (ev n ρ)=(c.toList.map (ev n ρ)).toArray:=by apply Array.ext';simp
 simp [ho,Instr.makeFunc,e1,e2]
def ifaceB (P:Program) (t:TypeId):Bool:=match P.underlying t with|some (.interface _)=>true|none=>true|_=>false
theorem d_eq (ho:o.op=.binOp .eql t x y t') (hx:ev n ρ x=.int k a) (hy:ev n ρ y=.int k b):Runs P n ρ o W (.bool (a == b)) W:=by unfold Runs execOp;simp [ho,hx,hy,eqGuard_at_int,binOp_eql]
theorem d_ne (ho:o.op=.binOp .neq t x y t') (hx:ev n ρ x=.int k a) (hy:ev n ρ y=.int k b):Runs P n ρ o W (.bool (a != b)) W:=by unfold Runs execOp;simp [ho,hx,hy,eqGuard_at_int,binOp_neq]
theorem d_lt (ho:o.op=.binOp .lss t x y t') (hx:ev n ρ x=.int k a) (hy:ev n ρ y=.int k b):Runs P n ρ o W (.bool (decide (a<b))) W:=by unfold Runs execOp;simp [ho,hx,hy,eqGuard_at_int,binOp_lss]
theorem d_le (ho:o.op=.binOp .leq t x y t') (hx:ev n ρ x=.int k a) (hy:ev n ρ y=.int k b):Runs P n ρ o W (.bool (decide (a<=b))) W:=by unfold Runs execOp;simp [ho,hx,hy,eqGuard_at_int,binOp_leq]
theorem d_gt (ho:o.op=.binOp .gtr t x y t') (hx:ev n ρ x=.int k a) (hy:ev n ρ y=.int k b):Runs P n ρ o W (.bool (decide (a>b))) W:=by unfold Runs execOp;simp [ho,hx,hy,eqGuard_at_int,binOp_gtr]
theorem d_ge (ho:o.op=.binOp .geq t x y t') (hx:ev n ρ x=.int k a) (hy:ev n ρ y=.int k b):Runs P n ρ o W (.bool (decide (a≥b))) W:=by unfold Runs execOp;simp [ho,hx,hy,eqGuard_at_int,binOp_geq]
theorem d_addW (ho:o.op=.binOp .add t x y t') (hx:ev n ρ x=.int k a) (hy:ev n ρ y=.int k b) {c:Int} (hc:k.wrap (a+b)=c):Runs P n ρ o W (.int k c) W:=by subst hc;unfold Runs execOp;simp [ho,hx,hy,eqGuard_at_int,binOp_add,Op.intArith]
theorem d_subW (ho:o.op=.binOp .sub t x y t') (hx:ev n ρ x=.int k a) (hy:ev n ρ y=.int k b) {c:Int} (hc:k.wrap (a - b)=c):Runs P n ρ o W (.int k c) W:=by subst hc;unfold Runs execOp;simp [ho,hx,hy,eqGuard_at_int,binOp_sub,Op.intArith]
theorem d_mulW (ho:o.op=.binOp .mul t x y t') (hx:ev n ρ x=.int k a) (hy:ev n ρ y=.int k b) {c:Int} (hc:k.wrap (a*b)=c):Runs P n ρ o W (.int k c) W:=by subst hc;unfold Runs execOp;simp [ho,hx,hy,eqGuard_at_int,binOp_mul,Op.intArith]
theorem d_add (ho:o.op=.binOp .add t x y t') (hx:ev n ρ x=.int .i64 a) (hy:ev n ρ y=.int .i64 b) (hr : -9223372036854775808<=a+b∧a+b<=9223372036854775807):Runs P n ρ o W (.int .i64 (a+b)) W:=d_addW ho hx hy (IntWalk.i64_in _ hr)
theorem d_sub (ho:o.op=.binOp .sub t x y t') (hx:ev n ρ x=.int .i64 a) (hy:ev n ρ y=.int .i64 b) (hr : -9223372036854775808<=a - b∧a - b<=9223372036854775807):Runs P n ρ o W (.int .i64 (a - b)) W:=d_subW ho hx hy (IntWalk.i64_in _ hr)
theorem d_mul (ho:o.op=.binOp .mul t x y t') (hx:ev n ρ x=.int .i64 a) (hy:ev n ρ y=.int .i64 b) (hr : -9223372036854775808<=a*b∧a*b<=9223372036854775807):Runs P n ρ o W (.int .i64 (a*b)) W:=d_mulW ho hx hy (IntWalk.i64_in _ hr)
theorem d_shr (ho:o.op=.binOp .shr t x y t') (hx:ev n ρ x=.int k a) {m:Nat} (hy:ev n ρ y=.int k' b) (hb:b=(m:Int)) (hm:m<=k.bits):Runs P n ρ o W (.int k (a / 2 ^ m)) W:=by
 subst hb
 unfold Runs execOp
 simp [ho,hx,hy,eqGuard_at_int,binOp_shr,shift_shr k k' a (m:Int) (by omega) (by omega)]
theorem d_remU (ho:o.op=.binOp .rem t x y t') (hx:ev n ρ x=.int k a) (hy:ev n ρ y=.int k b) (h0:0<=a∧1<=b):Runs P n ρ o W (.int k (a % b)) W:=by
 unfold Runs execOp
 have hb:b≠0:=by omega
 have e:a.tmod b=a % b:=IntWalk.rem_in a b h0.1
 simp [ho,hx,hy,eqGuard_at_int,binOp_rem,Op.intDiv,hb,e]
theorem d_quo (ho:o.op=.binOp .quo t x y t') (hx:ev n ρ x=.int k a) (hy:ev n ρ y=.int k b) (h0:0<=a∧1<=b) {c:Int} (hc:k.wrap (a / b)=c):Runs P n ρ o W (.int k c) W:=by
 subst hc
 unfold Runs execOp
 have hb:b≠0:=by omega
 have e:a.tdiv b=a / b:=Int.tdiv_eq_ediv_of_nonneg h0.1
 simp [ho,hx,hy,eqGuard_at_int,binOp_quo,Op.intDiv,hb,e]
theorem d_not {c:Bool} (ho:o.op=.unOp .not t x) (hx:ev n ρ x=.bool c):Runs P n ρ o W (.bool (!c)) W:=by unfold Runs execOp;simp [ho,hx,Op.unary]
theorem d_conv {q:IntKind} (ho:o.op=.convert t t' x) (hx:ev n ρ x=.int k a) (hs:(P.underlying t).isSome=true) (hd:P.underlying t'=some (.int q)) {c:Int} (hc:q.wrap a=c):Runs P n ρ o W (.int q c) W:=by
 subst hc
 obtain ⟨d,hd'⟩:=Option.isSome_iff_exists.mp hs
 unfold Runs execOp
 simp [ho,hx,convert,run_underlying hd',run_underlying hd,Conv.intToInt]
theorem d_same {c:Bool} {e:Bool} (ho:o.op=.binOp .eql t x y t') (hx:ev n ρ x=.bool c) (hy:ev n ρ y=.bool e) (hu:P.underlying t=some .bool):Runs P n ρ o W (.bool (c == e)) W:=by
 have h:=run_eql_bool (P:=P) W t c e hu
 unfold Runs execOp
 simp only [ho,hx,hy,eqGuard_at_bool,Sem.run_bind,Sem.run_pure,Result.andThen_ok,h]
theorem d_seq {c:ByteArray} {e:ByteArray} (ho:o.op=.binOp .eql t x y t') (hx:ev n ρ x=.string c) (hy:ev n ρ y=.string e) {r:Bool} (hr:(c.toList == e.toList)=r):Runs P n ρ o W (.bool r) W:=by
 subst hr
 unfold Runs execOp
 simp [ho,hx,hy,eqGuard_at_string,binOp,Op.stringOp]
theorem d_eqnil {A:Option Addr} {m c m' c':Nat} {e:TypeId} (ho:o.op=.binOp .eql t x y t') (hx:ev n ρ x=.slice A m c) (hy:ev n ρ y=.slice none m' c') (hu:P.underlying t=some (.slice e)):Runs P n ρ o W (.bool A.isNone) W:=by
 unfold Runs execOp
 simp [ho,hx,hy,eqGuard_at_slice,Lib.run_eql_slice_nil W t e A m c m' c' hu]

variable {args:Array Operand} {ats:Array TypeId}
theorem d_len {A:Option Addr} {m c:Nat} {e:TypeId} (ho:o.op=.call { callee:=.builtin .len,args:=#[x],argTypes:=#[t] }) (hx:ev n ρ x=.slice A m c) (hu:P.underlying t=some (.slice e)):Runs P n ρ o W (.int .i64 (m:Int)) W:=by
 unfold Runs execOp
 simp [ho,hx,resolve,invoke,builtin,Builtin.len_,run_underlying hu,goInt]
theorem d_min (ho:o.op=.call { callee:=.builtin .min,args:=#[x,y],argTypes:=#[t,t'] }) (hx:ev n ρ x=.int k a) (hy:ev n ρ y=.int k b):Runs P n ρ o W (.int k (min a b)) W:=by
 unfold Runs execOp
 have:(if b<a then b else a)=min a b:=by omega
 simp [ho,hx,hy,resolve,invoke,builtin,Builtin.min_,Builtin.min2,this]
def fOff (P:Program) (t:TypeId) (f:Nat):Option (Nat × TypeId):=match P.underlying t with
 | some (.struct fs)=>(fs[f]?).bind fun fl=>match (P.info? fl.type).map (·.size) with
  | some (_+1)=>some (fl.offset,fl.type)
  | _=>none
 | _=>none
theorem fOff_spec {f c:Nat} {e:TypeId} (h:fOff P t f=some (c,e)):∃fs fl i,P.underlying t=some (.struct fs)∧fs[f]?=some fl∧fl.offset=c∧fl.type=e∧P.info? e=some i∧i.size≠0:=by
 unfold fOff at h
 cases hu:P.underlying t with
 | none=>rw [hu] at h;cases h
 | some d =>
  rw [hu] at h
  cases d <;> simp only at h <;> try (cases h;done)
  rename_i fs
  cases hf:fs[f]? with
  | none=>rw [hf] at h;cases h
  | some fl =>
   rw [hf] at h
   simp only [Option.bind_some] at h
   cases hi:P.info? fl.type with
   | none=>rw [hi] at h;cases h
   | some i =>
    rw [hi] at h
    simp only [Option.map_some] at h
    split at h
    ·rename_i s hs
     cases h
     exact ⟨fs,fl,i,rfl,hf,rfl,rfl,hi,by have:=Option.some.inj hs;omega⟩
    ·cases h
theorem dF {g off f c:Nat} {e:TypeId} (ho:o.op=.fieldAddr t x f) (hx:ev n ρ x=.pointer (some ⟨g,off,none⟩)) (hf:fOff P t f=some (c,e)):Runs P n ρ o W (.pointer (some ⟨g,off+c,none⟩)) W:=by
 obtain ⟨fs,fl,i,hu,hfl,rfl,rfl,hi,hs⟩:=fOff_spec hf
 unfold Runs execOp
 simp [ho,hx,Instr.fieldAt,run_underlying hu,hfl,Instr.sureAddr,fieldPlace,sizeOf,typeInfo,hi,hs,Addr.add_mid]
end
end Go.Proofs.YtjjodibkmeefpaaGreatDoor

namespace Go.Proofs.YtjjodibkmeefpaaGreatDoor
open Go Go.RowKit

def over:List Value->List Value->List Value
 | c,[]=>c
 | [],_::_=>[]
 | _::c,v::vs=>v::over c vs
def spl:List Value->Nat->List Value->List Value
 | c,0,vs=>over c vs
 | [],_+1,_=>[]
 | x::c,k+1,vs=>x::spl c k vs
def sub (c:List Value) (k m:Nat):List Value:=(c.drop k).take m
theorem spl_nil:∀(c:List Value) (k:Nat),spl c k []=c
 | [],0=>rfl
 | _::_,0=>rfl
 | [],_+1=>rfl
 | x::c,k+1=>by rw [spl,spl_nil c k]
theorem spl_cons:∀(c:List Value) (k:Nat) (v:Value) (vs:List Value),spl c k (v::vs)=spl (c.set k v) (k+1) vs
 | [],0,_,_=>rfl
 | _::c,0,_,_=>by cases c <;> rfl
 | [],_+1,_,_=>rfl
 | x::c,k+1,v,vs=>by rw [spl,List.set_cons_succ,spl_cons c k v vs];rfl
theorem len_spl:∀(vs c:List Value) (k:Nat),(spl c k vs).length=c.length
 | [],c,k=>by rw [spl_nil]
 | v::vs,c,k=>by rw [spl_cons,len_spl vs,List.length_set]
theorem setCells_heap (g:Nat):∀(vs:List Value) (k:Nat) (W:World) (c:List Value) (t:TypeId),W.heap[g]?=some (.cells c.toArray t (0,0))->(W.setCells g k vs).heap[g]?=some (.cells (spl c k vs).toArray t (0,0))
 | [],k,W,c,t,h=>by rw [spl_nil];exact h
 | v::vs,k,W,c,t,h=>by
  rw [World.setCells,spl_cons]
  refine setCells_heap g vs (k+1) _ (c.set k v) t ?_
  simp [World.setCell,Array.getElem?_modify,h]
theorem setCells_fr (g:Nat):∀(vs:List Value) (k:Nat) (W:World),Fr (·=g) W (W.setCells g k vs)
 | [],_,_=>Fr.refl
 | v::vs,k,W=>by
  rw [World.setCells]
  have h1:Fr (·=g) W (W.setCell ⟨g,k,none⟩ v):=⟨rfl,rfl,rfl,by simp,fun i _ hi=>Below.heap_setCell W ⟨g,k,none⟩ v i hi⟩
  exact h1.trans (setCells_fr g vs (k+1) _) (fun _ _ h=>h)
theorem blk_cell {W:World} {g k:Nat} {c:List Value} {t:TypeId} {f:Nat × Nat} (h:W.heap[g]?=some (.cells c.toArray t f)):W.cell? ⟨g,k,none⟩=c[k]?:=by
 rw [cell_of_row W g k _ t f h];simp
theorem blk_range {W:World} {g k m:Nat} {c:List Value} {t:TypeId} {f:Nat × Nat} (h:W.heap[g]?=some (.cells c.toArray t f)):W.rangeAt g k (sub c k m):=fun j v hv=>by
 rw [blk_cell h]
 unfold sub at hv
 rw [List.getElem?_take] at hv
 split at hv
 ·rwa [List.getElem?_drop] at hv
 ·cases hv
theorem blk_there {W:World} {g k m:Nat} {c:List Value} {t:TypeId} (h:W.heap[g]?=some (.cells c.toArray t (0,0))) (hm:k+m<=c.length):W.there g k m:=fun j hj =>
 ⟨by rw [blk_cell h,List.getElem?_eq_getElem (by omega)];rfl,by simp [World.frozen?,h]⟩
theorem run_storeVar {P:Program} (w:World) (b k:Nat) (ty:TypeId) (v:Value) (vs:List Value) (hv:v.cells=vs.toArray) (ht:w.there b k vs.length) (hi:(P.info? ty).map (·.size)=some vs.length) (h1:vs.all (·.oneCell')=true) :
  (storeVar ty ⟨b,k,none⟩ v).run P w=.ok () (w.setCells b k vs):=by
 have:=run_storeCells_cells (P:=P) b k vs 0 w (fun j hj=>by simpa using (ht j hj).1) (fun j hj=>by simpa using (ht j hj).2) (fun v hv=>(List.all_eq_true.1 h1) v hv)
 cases hq:P.info? ty with
 | none=>simp [hq] at hi
 | some i =>
  have hs:vs.length=i.size:=by simp [hq] at hi;omega
  simp only [Nat.add_zero] at this
  simp [storeVar,sizeOf,typeInfo,hq,hv,hs,this]
def aggB (P:Program) (t:TypeId):Option Bool:=match P.underlying t with|some (.struct _)=>some true|some (.array _ _)=>some true|some _=>some false|none=>none
theorem run_isAgg {P:Program} {t:TypeId} {b:Bool} (h:aggB P t=some b) (W:World):(isAgg t).run P W=.ok b W:=by
 unfold aggB at h
 cases hu:P.underlying t with
 | none=>rw [hu] at h;cases h
 | some d =>
  rw [hu] at h
  unfold isAgg
  rw [Sem.run_bind,run_underlying hu W]
  cases d <;> simp at h <;> subst h <;> rfl
theorem run_load1 {P:Program} {W:World} {t:TypeId} {A:Addr} {v:Value} (ha:aggB P t=some false) (hc:W.cell? A=some v):(loadVar t A).run P W=.ok v W:=by
 simp [loadVar,Sem.run_bind,run_isAgg ha W,hc]
theorem run_loadM {P:Program} {W:World} {t:TypeId} {g k m:Nat} {cs:List Value} (ha:aggB P t=some true) (hs:(P.info? t).map (·.size)=some m) (hl:cs.length=m) (hc:W.rangeAt g k cs):(loadVar t ⟨g,k,none⟩).run P W=.ok (.agg cs.toArray) W:=by
 have hl':(loadCells ⟨g,k,none⟩ cs.length).run P W=.ok cs.toArray W :=
  run_loadCells_list (P:=P) W ⟨g,k,none⟩ cs (fun j v hv=>by rw [Addr.add_mid];exact hc j v hv)
 cases hq:P.info? t with
 | none=>simp [hq] at hs
 | some i =>
  have hs':i.size=cs.length:=by simp [hq] at hs;omega
  simp [loadVar,Sem.run_bind,run_isAgg ha W,sizeOf,typeInfo,hq,hs',hl']

section
variable {P:Program} {ops:Array Oper} {Q:Exit->Act->World->Prop} {rest:List Oper} {o:Oper} {n:Nat} {ρ:Nat->Value} {ds:List Deferred} {W W':World} {d:Tmp} {v u:Value} {x y z:Operand} {t t' e:TypeId} {k k':IntKind}
 {T:Nat->Prop} {w0:World} {L L':List Fact} {g i m:Nat} {c vs cs:List Value}

theorem d_ldC {A:Addr} (ho:o.op=.load t x) (hx:ev n ρ x=.pointer (some A)) (ha:aggB P t=some false) (hc:W.cell? A=some v):Runs P n ρ o W v W:=by
 unfold Runs execOp
 simp only [ho,hx,Instr.loadAt,Instr.sureAddr,Sem.run_bind,Sem.run_pure,Result.andThen_ok,run_load1 ha hc]
theorem d_ldmC (ho:o.op=.load t x) (hx:ev n ρ x=.pointer (some ⟨g,i,none⟩)) (ha:aggB P t=some true) (hs:(P.info? t).map (·.size)=some m) (hl:cs.length=m) (hc:W.rangeAt g i cs):Runs P n ρ o W (.agg cs.toArray) W:=by
 unfold Runs execOp
 simp only [ho,hx,Instr.loadAt,Instr.sureAddr,Sem.run_bind,Sem.run_pure,Result.andThen_ok,run_loadM ha hs hl hc]
theorem d_ld (ho:o.op=.load t x) (H:St T w0 W L) (hx:ev n ρ x=.pointer (some ⟨g,i,none⟩)) (ha:aggB P t=some false) [hb:Blk g L c t'] (hc:c[i]?=some v):Runs P n ρ o W v W :=
 d_ldC ho hx ha (by rw [blk_cell H.blk];exact hc)
theorem d_ldm (ho:o.op=.load t x) (H:St T w0 W L) (hx:ev n ρ x=.pointer (some ⟨g,i,none⟩)) (ha:aggB P t=some true) (hs:(P.info? t).map (·.size)=some m) [hb:Blk g L c t'] (hl:Nat.ble (i+m) c.length=true):Runs P n ρ o W (.agg (sub c i m).toArray) W :=
 d_ldmC ho hx ha hs (by have:=Nat.le_of_ble_eq_true hl;simp [sub];omega) (blk_range H.blk)
theorem d_ldB {S:Nat->Prop} {A:Option Addr} {m q:Nat} {l:List UInt8} {b:UInt8} (ho:o.op=.load t x) (hr:Rd W S 1 A m (l.map u8v)) (hb:l[q]?=some b) (hx:ev n ρ x=.pointer (A.map (·.add q))) (ha:aggB P t=some false):Runs P n ρ o W (u8v b) W:=by
 have hl:l.length=m:=by simpa using hr.1
 have hq:q<l.length:=(List.getElem?_eq_some_iff.1 hb).1
 obtain ⟨g,o',b',rfl,_,hb',hc⟩:=hr.byte (k:=q) (by omega)
 rw [hb] at hb'
 cases hb'
 exact d_ldC (A:=⟨g,o'+q,none⟩) ho (by rw [hx,Option.map_some,Addr.add_mid]) ha hc

theorem d_iaS {S:Nat->Prop} {A:Option Addr} {m c q s:Nat} {a:Int} {xs:List Value} (ho:o.op=.indexAddr t x y) (hr:Rd W S s A m xs) (hx:ev n ρ x=.slice A m c) (hy:ev n ρ y=.int k a) (ha:a=(q:Int)) (hq:q<m) (hu:P.underlying t=some (.slice e)) (hs:(P.info? e).map (·.size)=some s) :
  Runs P n ρ o W (.pointer (A.map (·.add (q*s)))) W:=by
 subst ha
 obtain ⟨g,o',rfl,_⟩:=hr.2 (by omega)
 cases hi:P.info? e with
 | none=>rw [hi] at hs;cases hs
 | some ie =>
  have hs':ie.size=s:=by simpa [hi] using hs
  unfold Runs execOp
  simp [ho,hx,hy,Instr.indexAt,asIntOf,run_underlying hu,sizeOf,typeInfo,hi,hs',hq]
theorem d_iaB {S:Nat->Prop} {A:Option Addr} {m c q:Nat} {a:Int} {l:List UInt8} (ho:o.op=.indexAddr t x y) (hr:Rd W S 1 A m (l.map u8v)) (hx:ev n ρ x=.slice A m c) (hy:ev n ρ y=.int k a) (ha:a=(q:Int)) (hq:q<m) (hu:P.underlying t=some (.slice e)) (hs:(P.info? e).map (·.size)=some 1) :
  Runs P n ρ o W (.pointer (A.map (·.add q))) W:=by
 have:=d_iaS (xs:=l.map u8v) ho hr hx hy ha hq hu hs
 rwa [Nat.mul_one] at this
theorem d_iaA {m q s:Nat} {a:Int} (ho:o.op=.indexAddr t x y) (hx:ev n ρ x=.pointer (some ⟨g,i,none⟩)) (hy:ev n ρ y=.int k a) (ha:a=(q:Int)) (hu:P.underlying t=some (.array m e)) (hq:q<m) (hs:(P.info? e).map (·.size)=some s) :
  Runs P n ρ o W (.pointer (some ⟨g,i+q*s,none⟩)) W:=by
 subst ha
 cases hi:P.info? e with
 | none=>rw [hi] at hs;cases hs
 | some ie =>
  have hs':ie.size=s:=by simpa [hi] using hs
  unfold Runs execOp
  simp [ho,hx,hy,Instr.indexAt,asIntOf,run_underlying hu,sizeOf,typeInfo,hi,hs',hq,Instr.sureAddr,Addr.add_mid]
theorem add0 (A:Option Addr):A.map (fun a=>a.add 0)=A:=by cases A <;> simp [Addr.add]
theorem sliced_head (A:Option Addr) (h c s:Nat):sliced A 0 h c s=.slice A h c:=by
 unfold sliced
 rw [Nat.zero_mul,Nat.sub_zero,Nat.sub_zero,add0,ite_self]
theorem elem_of {P:Program} {t e:TypeId} (h:P.underlying t=some (.slice e)):P.underlying t=some (.slice (P.elem t)):=by rw [h];simp [Program.elem,h]
end
end Go.Proofs.YtjjodibkmeefpaaGreatDoor

namespace Go.Proofs.YtjjodibkmeefpaaGreatDoor
open Go Go.RowKit

theorem fill_dense (s:Nat):∀(vals:List Value) (j:Nat) (cells:Array Value),(∀v∈vals,v.cells.size=s)->cells.size=(j+vals.length)*s ->
  ∃r,Instr.fill (fun i=>some (i*s,s)) cells (vals.zipIdx j |>.map fun x=>(x.2,x.1))=some r∧r.toList=cells.toList.take (j*s)++(vals.map fun v=>v.cells.toList).flatten
 | [],j,cells,_,hs=>⟨cells,rfl,by
   rw [List.take_of_length_le (by simp only [List.length_nil,Nat.add_zero] at hs;simp [hs])];simp⟩
 | v::vals,j,cells,hv,hs=>by
  have hvs:=hv v (by simp)
  simp only [List.length_cons] at hs
  have hfold:∀(q:List Value) (a:Nat) (cs:Array Value),a+q.length<=cs.size->j*s+a+q.length<=cs.size ->
    ((q.zipIdx a).foldl (fun cs (x:Value × Nat)=>cs.setIfInBounds (j*s+x.2) x.1) cs).toList=cs.toList.take (j*s+a)++q++cs.toList.drop (j*s+a+q.length):=by
   intro q
   induction q with
   | nil=>intro a cs _ _;simp
   | cons w q ih =>
    intro a cs h1 h2
    simp only [List.length_cons] at h1 h2
    rw [List.zipIdx_cons,List.foldl_cons,ih (a+1) _ (by simp;omega) (by simp;omega)]
    simp only [Array.toList_setIfInBounds,List.length_cons]
    have hlt:j*s+a<cs.toList.length:=by simp;omega
    rw [show j*s+(a+1)=j*s+a+1 by omega,show j*s+a+1+q.length=j*s+a+(q.length+1) by omega]
    rw [List.take_add_one,List.take_set_of_le (Nat.le_refl _),List.getElem?_set_self hlt,List.drop_set_of_lt (by omega)]
    simp
  have hm:(j+(vals.length+1))*s=j*s+s+vals.length*s:=by
   rw [Nat.add_mul,Nat.add_mul];omega
  have h0:=hfold v.cells.toList 0 cells (by simp;omega) (by simp;omega)
  simp only [Nat.add_zero,Array.length_toList,hvs] at h0
  have e1:(v.cells.zipIdx.foldl (fun cs (x:Value × Nat)=>cs.setIfInBounds (j*s+x.2) x.1) cells)=((v.cells.toList.zipIdx 0).foldl (fun cs (x:Value × Nat)=>cs.setIfInBounds (j*s+x.2) x.1) cells):=by
   rw [←Array.foldl_toList];simp
  obtain ⟨r,hr,hl⟩:=fill_dense s vals (j+1) (v.cells.zipIdx.foldl (fun cs (x:Value × Nat)=>cs.setIfInBounds (j*s+x.2) x.1) cells) (fun u hu=>hv u (by simp [hu])) (by
   have:((v.cells.toList.zipIdx 0).foldl (fun cs (x:Value × Nat)=>cs.setIfInBounds (j*s+x.2) x.1) cells).toList.length=cells.toList.length:=by
    rw [h0];simp;omega
   rw [e1]
   simp only [Array.length_toList] at this
   rw [this,hs,hm,Nat.add_mul,Nat.add_mul];omega)
  refine ⟨r,?_,?_⟩
  ·rw [List.zipIdx_cons,List.map_cons,Instr.fill]
   show (if (decide (v.cells.size≠s) || decide (j*s+v.cells.size>cells.size))=true then none else Instr.fill _ _ _)=some r
   rw [if_neg (by simp [hvs];omega)]
   exact hr
  ·rw [hl,e1,h0]
   have hlen:(cells.toList.take (j*s)).length=j*s:=by rw [List.length_take];simp;omega
   have h3:(j+1)*s=(cells.toList.take (j*s)++v.cells.toList).length:=by rw [List.length_append,hlen,Nat.add_mul];simp [hvs]
   rw [h3,List.take_left]
   simp

section
variable {P:Program} {ops:Array Oper} {Q:Exit->Act->World->Prop} {K:Act->World->Prop} {o:Oper} {n:Nat} {ρ:Nat->Value} {ds:List Deferred} {W W':World} {d:Tmp} {v u:Value} {x y z:Operand} {t t' e:TypeId} {k k':IntKind}
 {T:Nat->Prop} {w0:World} {L L':List Fact} {g i m:Nat} {c vs cs:List Value} {A:Option Addr}

theorem run_size (hs:(P.info? e).map (·.size)=some m) (W:World):(sizeOf e).run P W=.ok m W:=by
 cases hi:P.info? e with
 | none=>rw [hi] at hs;cases hs
 | some ie =>
  have hs':ie.size=m:=by simpa [hi] using hs
  simp [sizeOf,typeInfo,hi,hs']
theorem d_cutP {s c:Nat} {h:Nat} {a:Int} (ho:o.op=.slice t x none (some y) none) (hy:ev n ρ y=.int k a) (ha:a=(h:Int)) (hh:h<=c) (hx:ev n ρ x=.slice A m c) (hu:P.underlying t=some (.slice e)) (hs:(P.info? e).map (·.size)=some s):Runs P n ρ o W (.slice A h c) W:=by
 subst ha
 have he:=elem_of hu
 have e1:P.elem t=e:=by rw [he] at hu;cases hu;rfl
 have:=run_slice_h (P:=P) W t A m c he k (h:Int) (by omega) (by omega)
 unfold Runs execOp
 simp only [ho,hx,hy,Option.map_some,Option.map_none,run_sliceAt_slice W t _ _ _ _ he,this,e1,Sem.run_bind,run_size hs,Result.andThen_ok,Sem.run_pure,Int.toNat_natCast,sliced_head]
theorem d_cutS {s c:Nat} {l:Nat} {a:Int} (ho:o.op=.slice t x (some y) none none) (hy:ev n ρ y=.int k a) (ha:a=(l:Int)) (hl:l<=m) (hx:ev n ρ x=.slice A m c) (hu:P.underlying t=some (.slice e)) (hs:(P.info? e).map (·.size)=some s):Runs P n ρ o W (.slice (if c=l then A else A.map (·.add (l*s))) (m - l) (c - l)) W:=by
 subst ha
 have he:=elem_of hu
 have e1:P.elem t=e:=by rw [he] at hu;cases hu;rfl
 have:=run_slice_l (P:=P) W t A m c he k (l:Int) (by omega) (by omega)
 unfold Runs execOp
 simp only [ho,hx,hy,Option.map_some,Option.map_none,run_sliceAt_slice W t _ _ _ _ he,this,e1,Sem.run_bind,run_size hs,Result.andThen_ok,Sem.run_pure,Int.toNat_natCast,sliced]
theorem arr_of (h:P.underlying t=some (.array m e)):P.underlying t=some (.array (P.arrayLen t) (P.elem t)):=by rw [h];simp [Program.elem,Program.arrayLen,h]
theorem d_arrA {s:Nat} (ho:o.op=.slice t x none none none) (hx:ev n ρ x=.pointer (some ⟨g,i,none⟩)) (hu:P.underlying t=some (.array m e)) (hs:(P.info? e).map (·.size)=some s):Runs P n ρ o W (.slice (some ⟨g,i,none⟩) m m) W:=by
 have he:=arr_of hu
 have e1:P.elem t=e∧P.arrayLen t=m:=by rw [he] at hu;cases hu;exact ⟨rfl,rfl⟩
 have:=run_sliceAt_array_all (P:=P) W t ⟨g,i,none⟩ he
 unfold Runs execOp
 simp only [ho,hx,Option.map_none,this,e1.1,e1.2,Sem.run_bind,run_size hs,Result.andThen_ok,Sem.run_pure,slicedAt,Nat.zero_mul,Addr.add_zero',ite_self,Nat.sub_zero]
theorem d_arrP {s h:Nat} {a:Int} (ho:o.op=.slice t x none (some y) none) (hx:ev n ρ x=.pointer (some ⟨g,i,none⟩)) (hy:ev n ρ y=.int k a) (ha:a=(h:Int)) (hu:P.underlying t=some (.array m e)) (hh:h<=m) (hs:(P.info? e).map (·.size)=some s):Runs P n ρ o W (.slice (some ⟨g,i,none⟩) h m) W:=by
 subst ha
 have he:=arr_of hu
 have e1:P.elem t=e∧P.arrayLen t=m:=by rw [he] at hu;cases hu;exact ⟨rfl,rfl⟩
 have:=run_sliceAt_array_h (P:=P) W t ⟨g,i,none⟩ he k (h:Int) (by omega) (by rw [e1.2];omega)
 unfold Runs execOp
 simp only [ho,hx,hy,Option.map_some,Option.map_none,this,e1.1,e1.2,Sem.run_bind,run_size hs,Result.andThen_ok,Sem.run_pure,slicedAt,Nat.zero_mul,Addr.add_zero',ite_self,Nat.sub_zero,Int.toNat_natCast]
theorem d_arrS {s l:Nat} {a:Int} (ho:o.op=.slice t x (some y) none none) (hx:ev n ρ x=.pointer (some ⟨g,i,none⟩)) (hy:ev n ρ y=.int k a) (ha:a=(l:Int)) (hu:P.underlying t=some (.array m e)) (hl:l<m) (hs:(P.info? e).map (·.size)=some s):Runs P n ρ o W (.slice (some ⟨g,i+l*s,none⟩) (m - l) (m - l)) W:=by
 subst ha
 have he:=arr_of hu
 have e1:P.elem t=e∧P.arrayLen t=m:=by rw [he] at hu;cases hu;exact ⟨rfl,rfl⟩
 have:=run_sliceAt_array_l (P:=P) W t ⟨g,i,none⟩ he k (l:Int) (by omega) (by rw [e1.2];omega)
 unfold Runs execOp
 simp only [ho,hx,hy,Option.map_some,Option.map_none,this,e1.1,e1.2,Sem.run_bind,run_size hs,Result.andThen_ok,Sem.run_pure,slicedAt,Int.toNat_natCast,Addr.add_mid]
 rw [if_neg (by omega)]

theorem e_box (hw:Region.wanted o (yielded ops (st n ρ ds).tmps)=true) (hd:o.dst=some d) (ho:o.op=.box t x) (hx:ev n ρ x=v) (hv:v.cells=vs.toArray) (H:St T w0 W L)
  (k:∀g W',St T w0 W' (Fact.blk g vs t::L)->K (st n (upd ρ d (.pointer (some ⟨g,0,none⟩))) ds) W'):Step P ops Q o (st n ρ ds) W K:=by
 refine e_run hw hd (v:=.pointer (some ⟨W.heap.size,0,none⟩)) (W':=W.alloc (.cells vs.toArray t)) ?_ (k _ _ (H.alloc vs t))
 unfold Runs execOp
 simp [ho,hx,Instr.box,newVar,newRow,hv]
theorem e_alloc (hw:Region.wanted o (yielded ops (st n ρ ds).tmps)=true) (hd:o.dst=some d) (ho:o.op=.alloc t) (vs:List Value) (hz:((P.info? t).bind (·.zero)).map (·.cells)=some vs.toArray) (H:St T w0 W L)
  (k:∀g W',St T w0 W' (Fact.blk g vs t::L)->K (st n (upd ρ d (.pointer (some ⟨g,0,none⟩))) ds) W'):Step P ops Q o (st n ρ ds) W K:=by
 refine e_run hw hd (v:=.pointer (some ⟨W.heap.size,0,none⟩)) (W':=W.alloc (.cells vs.toArray t)) ?_ (k _ _ (H.alloc vs t))
 cases hi:P.info? t with
 | none=>rw [hi] at hz;cases hz
 | some it =>
  cases hzz:it.zero with
  | none=>rw [hi] at hz;simp [hzz] at hz
  | some q =>
   have hq:q.cells=vs.toArray:=by rw [hi] at hz;simpa [hzz] using hz
   unfold Runs execOp
   simp [ho,Instr.alloc,zeroValue,typeInfo,hi,hzz,newVar,newRow,hq]
theorem e_bsl {xs:List Operand} {vals:List Value} {s:Nat} {parts:Array (Nat × Operand)} (hw:Region.wanted o (yielded ops (st n ρ ds).tmps)=true) (hd:o.dst=some d) (ho:o.op=.buildSlice t m parts) (hp:parts.toList=(xs.zipIdx 0).map fun x=>(x.2,x.1)) (hl:xs.length=m) (hm:Nat.ble 1 m=true) (hxs:xs.map (ev n ρ)=vals)
  (hu:P.underlying t=some (.slice e)) (hs:(P.info? e).map (·.size)=some s) (hz:((P.info? e).bind (·.zero)).isSome=true) (hsm:(Nat.ble 1 s && Nat.ble (m*s) 16777216)=true) (hv:vals.all (fun v=>v.cells.size == s)=true) (hvs:(vals.map fun v=>v.cells.toList).flatten=vs) (H:St T w0 W L)
  (k:∀g W',St T w0 W' (Fact.blk g vs e::L)->K (st n (upd ρ d (.slice (some ⟨g,0,none⟩) m m)) ds) W'):Step P ops Q o (st n ρ ds) W K:=by
 refine e_run hw hd (v:=.slice (some ⟨W.heap.size,0,none⟩) m m) (W':=W.alloc (.cells vs.toArray e)) ?_ (k _ _ (H.alloc vs e))
 simp only [Bool.and_eq_true] at hsm
 have h1:=Nat.le_of_ble_eq_true hm
 have h2:=Nat.le_of_ble_eq_true hsm.1
 have h3:=Nat.le_of_ble_eq_true hsm.2
 cases hi:P.info? e with
 | none=>rw [hi] at hs;cases hs
 | some ie =>
  have hs':ie.size=s:=by simpa [hi] using hs
  rw [hi,Option.bind_some] at hz
  obtain ⟨zv,hzv⟩:=Option.isSome_iff_exists.1 hz
  have hpe:(parts.map fun x=>(x.1,ev n ρ x.2)).toList=(vals.zipIdx 0).map fun x=>(x.2,x.1):=by
   rw [Array.toList_map,hp,←hxs,List.zipIdx_map,List.map_map,List.map_map]
   rfl
  obtain ⟨r,hr,hrl⟩:=fill_dense s vals 0 ((Array.range (m*ie.size)).map (zv.cells[· % zv.cells.size]!)) (fun v hv'=>by simpa using List.all_eq_true.1 hv v hv') (by
   rw [←hxs];simp [hs',hl])
  have hr':r=vs.toArray:=by
   apply Array.ext'
   rw [hrl,hvs];simp
  have:=run_buildSlice (P:=P) W t e m (parts.map fun x=>(x.1,ev n ρ x.2)) r ie zv hu hi hzv (by rw [hs'];omega) (by rw [hs'];exact Nat.ne_of_gt (Nat.mul_pos h1 h2)) (by rw [hpe,hs'];rw [hs'] at hr;exact hr)
  unfold Runs execOp
  simp only [ho,Sem.run_bind,this,Result.andThen_ok,Sem.run_pure,hr']
theorem dB {parts:Array (Nat × Operand)} (ho:o.op=.build t parts) (hb:P.built t (parts.toList.map fun x=>(x.1,ev n ρ x.2))=some vs.toArray):Runs P n ρ o W (.agg vs.toArray) W:=by
 have h2:(parts.map fun x=>(x.1,ev n ρ x.2)).toList=parts.toList.map fun x=>(x.1,ev n ρ x.2):=by simp
 have:=run_build (P:=P) W t (parts.map fun x=>(x.1,ev n ρ x.2)) vs.toArray (by rw [h2];exact hb)
 unfold Runs execOp
 simp only [ho,Sem.run_bind,this,Result.andThen_ok,Sem.run_pure]

theorem e_sto {c:List Value} (hw:Region.wanted o (yielded ops (st n ρ ds).tmps)=true) (hd:o.dst=none) (ho:o.op=.store t x y) (hx:ev n ρ x=.pointer (some ⟨g,i,none⟩)) (hy:ev n ρ y=v) (hv:v.cells=vs.toArray) (hs:(P.info? t).map (·.size)=some vs.length) (h1:vs.all (·.oneCell')=true) (H:St T w0 W L) [hb:Blk g L c t']
  (hl:Nat.ble (i+vs.length) c.length=true) [ht:Turn (Fact.blk g c t') (Fact.blk g (spl c i vs) t') L L'] (k:∀W',St T w0 W' L'->K (st n ρ ds) W'):Step P ops Q o (st n ρ ds) W K:=by
 refine e_do hw hd (W':=W.setCells g i vs) ?_ (k _ (H.turn (f:=Fact.blk g c t') (f':=Fact.blk g (spl c i vs) t') (setCells_fr g vs i W) (setCells_heap g vs i W c t' H.blk) (fun g hg=>.inl hg)))
 have:=run_storeVar (P:=P) W g i t v vs hv (blk_there H.blk (Nat.le_of_ble_eq_true hl)) hs h1
 unfold Does execOp
 simp [ho,hx,hy,Instr.storeAt,Instr.sureAddr,this]
theorem St.nilrow (H:St T w0 W L) (e size:Nat):St T w0 W (Fact.row e size (.slice none 0 0) 0 []::L):=by
 refine ⟨H.fr,fun f hf=>?_,fun f hf g hg=>?_,List.pairwise_cons.2 ⟨fun f _ g hg=>(by cases hg),H.apart⟩⟩
 ·rcases List.mem_cons.1 hf with rfl|hf
  ·exact World.ownsRow_nil _ _ _ _
  ·exact H.holds f hf
 ·rcases List.mem_cons.1 hf with rfl|hf
  ·cases hg
  ·exact H.own f hf g hg
theorem row_form {w:World} {base e size:Nat} {v:Value} {n:Nat} {xs:List Value} (h:w.ownsRow base e size v n xs):∃A c,v=.slice A n c∧n<=c∧c<=9223372036854775807:=by
 rcases h.2 with ⟨rfl,h0⟩|⟨g,cap,cur,hv,_,_,h1,h2,_⟩
 ·exact ⟨none,0,by rw [h0],by omega,by omega⟩
 ·exact ⟨_,cap,hv,h1,by simpa [maxLen] using h2⟩
class RowTo (e s:Nat) (v:Value) (m:Nat) (L:List Fact) (xs:outParam (List Value)) (L'':outParam (Fact->List Fact)):Prop where perm:∃M,L.Perm (Fact.row e s v m xs::M)∧∀f,(L'' f).Perm (f::M)
instance (priority:=low) RowTo.tail {e s m:Nat} {v:Value} {xs:List Value} {L:List Fact} {L'':Fact->List Fact} {x:Fact} [h:RowTo e s v m L xs L'']:RowTo e s v m (x::L) xs (fun f=>x::L'' f):=⟨by
 obtain ⟨M,h1,h2⟩:=h.perm
 exact ⟨x::M,(h1.cons x).trans (.swap _ _ _),fun f=>((h2 f).cons x).trans (.swap _ _ _)⟩⟩
instance RowTo.head {e s m:Nat} {v:Value} {xs:List Value} {L:List Fact}:RowTo e s v m (Fact.row e s v m xs::L) xs (fun f=>f::L):=⟨L,.refl _,fun _=>.refl _⟩
theorem e_app {tt:TypeId} {c m q cq s by':Nat} {B:Option Addr} {xs news:List Value} {S:Nat->Prop} {L'':Fact->List Fact} (hw:Region.wanted o (yielded ops (st n ρ ds).tmps)=true) (hd:o.dst=some d) (ho:o.op=.call { callee:=.builtin .append,args:=#[x,y],argTypes:=#[tt,tt] })
  (hu:P.underlying tt=some (.slice e)) (hi:(P.info? e).map (fun i=>(i.zero.map (·.cells.size),i.size,i.bytes))=some (some s,s,by')) (hsz:Nat.ble 1 s=true)
  (hx:ev n ρ x=.slice A m c) (hy:ev n ρ y=.slice B q cq) (H:St T w0 W L) [ht:RowTo e s (.slice A m c) m L xs L''] (hr:Rd W S s B q news) (h1:news.all (·.oneCell')=true) (hm:m+q<=1099511627776) (hby:Nat.ble by' 100=true)
  (k:∀A' c' W',m+q<=c'->c'<=9223372036854775807->St T w0 W' (L'' (Fact.row e s (.slice A' (m+q) c') (m+q) (xs++news)))->K (st n (upd ρ d (.slice A' (m+q) c')) ds) W'):Step P ops Q o (st n ρ ds) W K:=by
 cases hie:P.info? e with
 | none=>rw [hie] at hi;cases hi
 | some ie =>
  rw [hie,Option.map_some] at hi
  have hi':=Option.some.inj hi
  simp only [Prod.mk.injEq] at hi'
  obtain ⟨hz,hs,hb⟩:=hi'
  cases hzz:ie.zero with
  | none=>rw [hzz] at hz;cases hz
  | some zv =>
   have hzs:zv.cells.size=s:=by rw [hzz] at hz;simpa using hz
   obtain ⟨M,hp1,hp2⟩:=ht.perm
   have H1:=H.perm hp1
   have hown:W.ownsRow 0 e s (.slice A m c) m xs:=H1.holds _ (.head _)
   have hbb:=Nat.le_of_ble_eq_true hby
   obtain ⟨v',w',hrun,h2,h3,h5⟩:=run_app (P:=P) W 0 tt o.type e ie zv s by' hu hie hzz hs hb hzs (Nat.le_of_ble_eq_true hsz) (.slice A m c) m xs hown S B q cq news hr (fun u hu=>List.all_eq_true.1 h1 u hu) (by simp only [maxLen];omega)
    (Nat.le_trans (Nat.mul_le_mul hm hbb) (by omega)) (Nat.zero_le _)
   obtain ⟨A',c',rfl,hc1,hc2⟩:=row_form h2
   have hlt:=World.ownsRow.lt h2
   have HT:=(H1.turn0 (f':=Fact.row e s (.slice A' (m+q) c') (m+q) (xs++news))
    (W':=w') ⟨h3.os,h3.tape,h3.output,h3.size,fun i hi hne=>h3.block i hi (fun e=>hne e.symm)⟩ h2 (fun g hg=>by
     have hg':(Value.slice A' (m+q) c').ownBlock=some g:=hg
     rcases h5 with h5|h5
     ·left;show (Value.slice A m c).ownBlock=some g;rw [←h5];exact hg'
     ·right;rw [h5] at hg';have:=hlt g (by rw [h5];exact hg');cases hg';exact ⟨Nat.le_refl _,this.2⟩)).perm (hp2 _).symm
   refine e_run hw hd (v:=.slice A' (m+q) c') (W':=w') ?_ (k _ _ _ hc1 hc2 HT)
   unfold Runs execOp
   simp only [ho,resolve,invoke,builtin,Sem.run_bind,Sem.run_pure,Result.andThen_ok,List.map_toArray,List.map_cons,List.map_nil,hx,hy,hrun]
end
end Go.Proofs.YtjjodibkmeefpaaGreatDoor

namespace Go.Proofs.YtjjodibkmeefpaaGreatDoor
open Go Go.RowKit

def nT:Nat->Prop:=fun _=>False
structure New (w w':World) (f:Fact):Prop where
 b:Below w.heap.size w w'
 p:f.p w'
 f:∀g,f.fp g->w.heap.size<=g∧g<w'.heap.size
def Is (w:World) (x v:Value) (w':World):Prop:=v=x∧Below w.heap.size w w'
def Ret (S:Value->World->Prop) (e:Ending) (w':World):Prop:=∃v,e=.returned v∧S v w'
def updl (ρ:Nat->Value):List (Nat × Value)->Nat->Value
 | []=>ρ
 | x::l=>upd (updl ρ l) x.1 x.2
def inM (lo:Nat) (M:List Nat) (j:Nat):Bool:=Nat.ble lo j || M.contains j
def ovr (lo:Nat) (M:List Nat) (ρ vs:Nat->Value):Nat->Value:=fun j=>bif inM lo M j then vs j else ρ j
def Eqo (lo:Nat) (M:List Nat) (ρ ρ':Nat->Value):Prop:=∀j,inM lo M j=false->ρ' j=ρ j
section
variable {lo:Nat} {M:List Nat} {ρ ρ':Nat->Value} {d:Nat} {v:Value}
theorem Eqo.refl:Eqo lo M ρ ρ:=fun _ _=>rfl
theorem Eqo.upd (h:Eqo lo M ρ ρ') (hd:inM lo M d=true):Eqo lo M ρ (upd ρ' d v):=fun j hj=>by
 have:Nat.beq j d=false:=by
  cases hq:Nat.beq j d with
  | false=>rfl
  | true=>rw [Nat.eq_of_beq_eq_true hq,hd] at hj;cases hj
 show (bif Nat.beq j d then v else ρ' j)=_
 rw [this];exact h j hj
theorem Eqo.ovr:Eqo lo M ρ (ovr lo M ρ ρ'):=fun j hj=>by
 show (bif inM lo M j then ρ' j else ρ j)=_
 rw [hj];rfl
theorem Eqo.updl:∀(l:List (Nat × Value)) {ρ':Nat->Value},Eqo lo M ρ ρ'->(l.all fun x=>inM lo M x.1)=true->Eqo lo M ρ (updl ρ' l)
 | [],_,h,_=>h
 | x::l,_,h,hl=>by
  simp only [List.all_cons,Bool.and_eq_true] at hl
  exact Eqo.upd (Eqo.updl l h hl.2) hl.1
theorem Eqo.frame (h:Eqo lo M ρ ρ'):∀(l:List (Nat × Value)),(∀x∈l,ρ' x.1=x.2)->ρ'=Go.Proofs.YtjjodibkmeefpaaGreatDoor.updl (Go.Proofs.YtjjodibkmeefpaaGreatDoor.ovr lo M ρ ρ') l
 | [],_=>by
  funext j
  show _=(bif inM lo M j then ρ' j else ρ j)
  cases hj:inM lo M j with
  | true=>rfl
  | false=>exact h j hj
 | x::l,hl=>by
  have ih:=Eqo.frame h l (fun y hy=>hl y (by simp [hy]))
  funext j
  show _=(bif Nat.beq j x.1 then x.2 else Go.Proofs.YtjjodibkmeefpaaGreatDoor.updl (Go.Proofs.YtjjodibkmeefpaaGreatDoor.ovr lo M ρ ρ') l j)
  cases hq:Nat.beq j x.1 with
  | true=>rw [Nat.eq_of_beq_eq_true hq];exact hl x (by simp)
  | false=>rw [←ih];rfl
end
def slotsOk (ρ:Nat->Value):List (Nat × Value)->Prop
 | []=>True
 | x::l=>ρ x.1=x.2∧slotsOk ρ l
theorem slotsOk.mem {ρ:Nat->Value}:∀{l:List (Nat × Value)},slotsOk ρ l->∀x∈l,ρ x.1=x.2
 | [],_,_,h=>by cases h
 | y::l,h,x,hx=>by
  rcases List.mem_cons.1 hx with rfl|hx
  ·exact h.1
  ·exact slotsOk.mem h.2 x hx
theorem vi {k:IntKind} {a b:Int} (h:a=b):Value.int k a=.int k b:=by rw [h]
theorem vb {a b:Bool} (h:a=b):Value.bool a=.bool b:=by rw [h]

section
variable {P:Program} {Q:Exit->Act->World->Prop} {a:Act} {w:World} {cs:List Code} {next:Act->World->Prop} {id:Nat}
theorem kL {c:Code} {n:Nat} {ρ:Nat->Value} {ds:List Deferred} (lo:Nat) (M:List Nat) (J:Nat->List (Nat × Value)->World->Prop) (m:Nat) (l:List (Nat × Value)) (h0:J m l w) (hl:slotsOk ρ l)
  (round:∀m l ρv w,J m l w->c.wp P (Exit.then (fun a' w'=>∃m' l' ρ',m'<m∧a'=st n ρ' ds∧Eqo lo M ρ ρ'∧slotsOk ρ' l'∧J m' l' w') (Exit.then (wpK P Q cs) Q)) (st n (updl (ovr lo M ρ ρv) l) ds) w):wpK P Q (.loop c::cs) (st n ρ ds) w:=by
 intro b k fs
 have key:∀m l ρ' w,J m l w->Eqo lo M ρ ρ'->slotsOk ρ' l->∃e a' w',Exit.then (wpK P Q cs) Q e a' w'∧Arrives P (lone (b.at (st n ρ' ds) (.code c::.inLoop c::k)) fs w) b k fs e a' w':=by
  intro m
  induction m using Nat.strongRecOn with
  | _ m ih =>
   intro l ρ' w hJ hE hs
   have hr:=round m l ρ' w hJ
   rw [←hE.frame l hs.mem] at hr
   obtain ⟨e,a₁,w₁,hq,harr⟩:=hr b (.inLoop c::k) fs
   cases e with
   | normal =>
    obtain ⟨m',l',ρ'',hlt,rfl,hE',hs',hJ'⟩:=hq
    obtain ⟨e₂,a₂,w₂,hq₂,harr₂⟩:=ih m' hlt l' ρ'' w₁ hJ' hE' hs'
    exact ⟨e₂,a₂,w₂,hq₂,.of_steps (Steps.trans harr (.one step_inLoop)) harr₂⟩
   | exit id=>exact ⟨.exit id,a₁,w₁,hq,.pass (x:=.inLoop c) rfl (fun _ _=>.inl (by simp)) harr⟩
   | goto l=>exact ⟨.goto l,a₁,w₁,hq,.pass (x:=.inLoop c) rfl (fun _ _=>.inl (by simp)) harr⟩
   | ret=>exact ⟨.ret,a₁,w₁,hq,.pass (x:=.inLoop c) rfl (fun _ _=>.inl (by simp)) harr⟩
   | panic ch=>exact ⟨.panic ch,a₁,w₁,hq,.pass (x:=.inLoop c) rfl (fun _ _=>.inl (by simp)) harr⟩
   | outgrown=>exact ⟨.outgrown,a₁,w₁,hq,.pass (x:=.inLoop c) rfl (fun _ _=>.inl (by simp)) harr⟩
 obtain ⟨e,a',w',hq,harr⟩:=key m l ρ w h0 Eqo.refl hl
 exact ⟨e,a',w',hq,.of_steps (.one step_loop) harr⟩
theorem kn (h:Q .normal a w):wpK P Q [] a w:=h
theorem kY (h:next a w):Exit.then next Q .normal a w:=h
theorem zE (h:wpK P Q cs a w):Exit.inBlock id (Exit.then (wpK P Q cs) Q) .normal a w:=h
theorem xQ (h:Q (.exit id) a w):Exit.then next Q (.exit id) a w:=h
theorem r_then (h:Q .ret a w):Exit.then next Q .ret a w:=h
theorem r_blk (h:Q .ret a w):Exit.inBlock id Q .ret a w:=h
end

section
variable {T:Nat->Prop} {w0 W W':World} {L L':List Fact} {f f':Fact} {S:Nat->Prop} {v:Value} {l:List UInt8}
theorem St.new (H:St T w0 W L) (h:New W W' f):St T w0 W' (f::L):=H.call h.b h.p h.f
theorem St.bs (H:St nT w0 W L) (h:Bs w0 S v l):Bs W S v l:=h.keep fun g hg _=>H.fr.block g hg (fun h=>h)
theorem St.rd (H:St nT w0 W L) {size:Nat} {A:Option Addr} {n:Nat} {xs:List Value} (h:Rd w0 S size A n xs):Rd W S size A n xs:=h.keep fun g hg _=>H.fr.block g hg (fun h=>h)
theorem St.under (H:St nT w0 W L):Below w0.heap.size w0 W:=H.fr.below (Nat.le_refl _) (fun _ h=>h.elim)
theorem rd_blk {W:World} {g m size:Nat} {c:List Value} {t:TypeId} (h:W.heap[g]?=some (.cells c.toArray t (0,0))) (hl:c.length=m*size):Rd W (·=g) size (some ⟨g,0,none⟩) m c :=
 ⟨hl,fun _=>⟨g,0,rfl,⟨by
  rcases Nat.lt_or_ge g W.heap.size with h1|h1
  ·exact h1
  ·rw [Array.getElem?_eq_none h1] at h
   exact absurd h (by simp),rfl⟩,fun j u hu=>by rw [Nat.zero_add,blk_cell h];exact hu⟩⟩
theorem St.give (H:St nT w0 W L) [h:In f L]:New w0 W f:=⟨H.under,H.get,fun g hg=>by
 have:=H.own f h.mem g hg
 exact ⟨this.1.resolve_left (fun h=>h),this.2⟩⟩
end
theorem l_get {l:List UInt8} {k:Nat} (h:k<l.length):l[k]?=some (l.getD k 0):=by rw [List.getD_eq_getElem?_getD,List.getElem?_eq_getElem h];rfl
theorem take_u8 {l:List UInt8} {k:Nat} (h:k+1<=l.length):(l.take (k+1)).map u8v=(l.take k).map u8v++[u8v (l.getD k 0)]:=by
 rw [List.take_add_one,List.map_append,l_get (by omega)];rfl
def NewB (t:TypeId) (w:World) (l:List UInt8) (v:Value) (w':World):Prop:=∃A c,v=.slice A l.length c∧l.length<=c∧c<=9223372036854775807∧New w w' (Fact.row t 1 v l.length (l.map u8v))
end Go.Proofs.YtjjodibkmeefpaaGreatDoor

namespace Go.Proofs.YtjjodibkmeefpaaGreatDoor
open Go Go.RowKit

def canB (md:Region.Mode) (ops:Array Oper):List (Nat × Bool)->Array Bool->Bool
 | [],listed=>(Region.ready md ops listed).isEmpty
 | (i,r)::rest,listed=>(bif r then (Region.ready md ops listed).contains i && Region.free md ops listed i else Region.ready md ops listed == [i]) && canB md ops rest (listed.setIfInBounds i true)
def wpC (P:Program) (ops:Array Oper) (S:World->Prop) (Q:Exit->Act->World->Prop):List (Nat × Bool)->Act->World->Prop
 | [],a,w=>Q .normal a w
 | (i,true)::l,a,w=>∃o v,ops[i]?=some o∧YieldsIf P ops S o v a∧wpC P ops S Q l (a.put o.dst v) w
 | (i,false)::l,a,w=>wpOp P ops Q i (fun a' w'=>S w'∧wpC P ops S Q l a' w') a w
def NoPan (Q:Exit->Act->World->Prop) (e:Exit) (a:Act) (w:World):Prop:=(∀c,e≠.panic c)∧Q e a w
section
variable {P:Program} {ops:Array Oper} {Q:Exit->Act->World->Prop} {md:Region.Mode} {S:World->Prop}
theorem wpC_sound (hsel:Region.noSelect ops=true) (hQ:∀c a d v w,Q (.panic c) (Act.put a d v) w->Q (.panic c) a w):∀(l:List (Nat × Bool)) (listed:Array Bool) (a:Act) (w:World),
  canB md ops l listed=true->S w->wpC P ops S Q l a w->wpAnyH P md ops Q S l.length listed a w
 | [],listed,a,w,hB,_,h=>wpAnyH_done (by simpa [canB] using hB) h 0
 | (i,true)::l,listed,a,w,hB,hS,h=>by
  obtain ⟨o,v,hi,hy,h⟩:=h
  simp only [canB,cond_true,Bool.and_eq_true] at hB
  exact wpAnyH_take hi hsel hB.1.2 hB.1.1 (fun c a w=>hQ c a o.dst v w) hy hS (wpC_sound hsel hQ l _ _ _ hB.2 hS h)
 | (i,false)::l,listed,a,w,hB,hS,h=>by
  simp only [canB,cond_false,Bool.and_eq_true,beq_iff_eq] at hB
  refine wpAnyH_all (rs:=[i]) hB.1 (by simp) (fun j hj=>?_)
  obtain rfl:j=i:=by simpa using hj
  exact wpOp_mono (fun a' w' h'=>⟨h'.1,wpC_sound hsel hQ l _ _ _ hB.2 h'.1 h'.2⟩) h
end
section
variable {P:Program} {Q:Exit->Act->World->Prop} {cs:List Code} {n:Nat} {ρ:Nat->Value} {ds:List Deferred} {w w0:World} {T:Nat->Prop} {L:List Fact}
theorem k_draw {id:Nat} {l:List Oper} (order:List (Nat × Bool)) (Lc:List Fact) (hm:P.follows .mixedOrders=true) (hB:(Region.noSelect l.toArray && (order.length == l.length) && canB .any l.toArray order (Array.replicate l.toArray.size false))=true) (H:St T w0 w L) (hs:Lc.Sublist L)
  (k:∀W,St T w0 W L->wpC P l.toArray (fun W=>St T w0 W Lc) (NoPan (Exit.then (wpK P Q cs) Q)) order (st n ρ ds) W):wpK P Q (.region id l.toArray true::cs) (st n ρ ds) w:=by
 simp only [Bool.and_eq_true,beq_iff_eq] at hB
 obtain ⟨⟨h1,h2⟩,h3⟩:=hB
 have hN:(Code.region id l.toArray true).wp P (NoPan (Exit.then (wpK P Q cs) Q)) (st n ρ ds) w:=by
  refine wp_region_held (S:=fun W=>St T w0 W Lc) hm ?_
  have:=wpC_sound (P:=P) (md:=.any) (S:=fun W=>St T w0 W Lc) (Q:=NoPan (Exit.then (wpK P Q cs) Q)) h1 (fun c a d v w h=>absurd rfl (h.1 c)) order (Array.replicate l.toArray.size false) (st n ρ ds) w.drew h3 (H.drew.sub hs) (k _ H.drew)
  rw [h2] at this
  simpa using this
 exact Code.wp_mono (fun _ _ _ h=>h.2) hN
end
section
variable {P:Program} {ops:Array Oper} {S:World->Prop} {Q:Exit->Act->World->Prop} {n:Nat} {ρ:Nat->Value} {ds:List Deferred} {W:World} {l:List (Nat × Bool)} {i:Nat} {o:Oper} {d:Tmp} {v:Value} {next:Act->World->Prop} {a:Act}
theorem c_nil (h:next a W):wpC P ops S (NoPan (Exit.then next Q)) [] a W:=⟨fun _ h=>(by cases h),h⟩
theorem c_run (hi:ops[i]?=some o) (hw:Region.wanted o (yielded ops (st n ρ ds).tmps)=true) (hd:o.dst=some d) (h:∀W,S W->Runs P n ρ o W v W) (k:wpC P ops S Q l (st n (upd ρ d v) ds) W):wpC P ops S Q ((i,true)::l) (st n ρ ds) W :=
 ⟨o,v,hi,.inl ⟨hw,fun W hS=>by rw [st_eval];exact h W hS⟩,by rw [hd,st_put];exact k⟩
theorem cK (hi:ops[i]?=some o) (hw:Region.wanted o (yielded ops (st n ρ ds).tmps)=false) (hd:o.dst=some d) (k:wpC P ops S Q l (st n (upd ρ d undef) ds) W):wpC P ops S Q ((i,true)::l) (st n ρ ds) W :=
 ⟨o,undef,hi,.inr ⟨hw,rfl⟩,by rw [hd,st_put];exact k⟩
theorem cf (hi:ops[i]?=some o) (h:Step P ops Q o a W (fun a' w'=>S w'∧wpC P ops S Q l a' w')):wpC P ops S Q ((i,false)::l) a W:=by
 unfold wpC wpOp
 simp only [hi]
 rw [if_pos h.1]
 exact .inl h.2
end
end Go.Proofs.YtjjodibkmeefpaaGreatDoor

namespace Go.Proofs.YtjjodibkmeefpaaGreatDoor
open Go Go.RowKit

section
variable {P:Program} {ops:Array Oper} {Q:Exit->Act->World->Prop} {K:Act->World->Prop} {o:Oper} {n:Nat} {ρ:Nat->Value} {ds:List Deferred} {W W':World} {d:Tmp} {v u:Value} {x y z:Operand} {t t' e:TypeId} {k k':IntKind}
 {T:Nat->Prop} {w0:World} {L L':List Fact} {g i m:Nat} {c vs cs:List Value} {A:Option Addr}
theorem d_cap {m c:Nat} (ho:o.op=.call { callee:=.builtin .cap,args:=#[x],argTypes:=#[t] }) (hx:ev n ρ x=.slice A m c) (hu:P.underlying t=some (.slice e)):Runs P n ρ o W (.int .i64 (c:Int)) W:=by
 unfold Runs execOp
 simp [ho,hx,resolve,invoke,builtin,Builtin.cap_,run_underlying hu,goInt]
theorem e_bsl0 {s:Nat} (hw:Region.wanted o (yielded ops (st n ρ ds).tmps)=true) (hd:o.dst=some d) (ho:o.op=.buildSlice t 0 #[]) (hu:P.underlying t=some (.slice e)) (hs:(P.info? e).map (·.size)=some s) (H:St T w0 W L)
  (k:∀g W',St T w0 W' (Fact.row e s (.slice (some ⟨g,0,none⟩) 0 0) 0 []::L)->K (st n (upd ρ d (.slice (some ⟨g,0,none⟩) 0 0)) ds) W'):Step P ops Q o (st n ρ ds) W K:=by
 have hrow:(W.alloc (.cells #[] e)).ownsRow 0 e s (.slice (some ⟨W.heap.size,0,none⟩) 0 0) 0 [] :=
  ⟨by simp,.inr ⟨W.heap.size,0,#[],rfl,Nat.zero_le _,heap_alloc_new W _,Nat.le_refl _,Nat.zero_le _,by simp,by simp⟩⟩
 refine e_run hw hd (v:=.slice (some ⟨W.heap.size,0,none⟩) 0 0) (W':=W.alloc (.cells #[] e)) ?_ (k _ _ (H.call (f:=Fact.row e s (.slice (some ⟨W.heap.size,0,none⟩) 0 0) 0 []) ((Below.refl _ _).alloc (Nat.le_refl _) _) hrow (fun g hg=>by
  have:some W.heap.size=some g:=hg
  cases this;simp)))
 cases hi:P.info? e with
 | none=>rw [hi] at hs;cases hs
 | some ie =>
  unfold Runs execOp
  simp [ho,Instr.buildSlice,run_underlying hu,sizeOf,typeInfo,hi,newRow,Instr.fill,Array.range_zero']
theorem zeroC (k:Nat):Builtin.zeroCells (Value.int .u8 0).cells k=((List.replicate k (0:UInt8)).map u8v).toArray:=by
 apply Array.ext
 ·simp [Builtin.zeroCells,Value.cells]
 ·intro i h1 h2
  simp [Builtin.zeroCells,Value.cells,Nat.mod_one]
theorem e_appz {tt ti:TypeId} {kq kt:IntKind} {a:Int} {q:Nat} (hw:Region.wanted o (yielded ops (st n ρ ds).tmps)=true) (hd:o.dst=some d) (ho:o.op=.call { callee:=.builtin .append,args:=#[x,y],argTypes:=#[tt,ti] })
  (hu:P.underlying tt=some (.slice e)) (hut:P.underlying ti=some (.int kt)) (hi:(P.info? e).map (fun i=>(i.zero,i.size,i.bytes))=some (some (.int .u8 0),1,1))
  (hx:ev n ρ x=.slice none 0 0) (hy:ev n ρ y=.int kq a) (ha:a=(q:Int)) (h0:0<q) (hm:q<=1099511627776) (H:St T w0 W L)
  (k:∀A' c' W',q<=c'->c'<=9223372036854775807->St T w0 W' (Fact.row e 1 (.slice A' q c') q ((List.replicate q 0).map u8v)::L)->K (st n (upd ρ d (.slice A' q c')) ds) W'):Step P ops Q o (st n ρ ds) W K:=by
 subst ha
 obtain ⟨i,hi,hz,hs1,hb1⟩:=info_parts hi
 have hr:=Lib.run_append_grow_zeros (P:=P) W tt ti o.type e i (.int .u8 0) kq kt hu hut hi hz none 0 0 [] (by simp [Builtin.firstCells]) q h0 (by omega) (by omega) (by omega) (by rw [hb1];omega)
   (by rw [hb1];exact growslice_fits (by omega) (by omega))
 have hge:=grownCap_ge W (0+q) 0 e
 have hcm':=grownCap_le_maxLen W (0+q) 0 e (by simp only [maxLen];omega)
 rw [Nat.zero_add] at hr hge hcm'
 have hrow:(W.drew.alloc (.cells ([].toArray++Builtin.zeroCells (Value.int .u8 0).cells q++Builtin.zeroCells (Value.int .u8 0).cells (grownCap W q 0 e - q)) e)).ownsRow 0 e 1 (.slice (some ⟨W.heap.size,0,none⟩) q (grownCap W q 0 e)) q ((List.replicate q 0).map u8v):=by
  refine ⟨by simp,.inr ⟨W.heap.size,_,_,rfl,Nat.zero_le _,heap_alloc_new W.drew _,hge,hcm',?_,?_⟩⟩
  ·rw [zeroC,zeroC];simp;omega
  ·rw [zeroC,zeroC]
   have e1:([].toArray++((List.replicate q (0:UInt8)).map u8v).toArray++((List.replicate (grownCap W q 0 e - q) (0:UInt8)).map u8v).toArray).toList=(List.replicate q (0:UInt8)).map u8v++(List.replicate (grownCap W q 0 e - q) (0:UInt8)).map u8v:=by simp
   have e2:q*1=((List.replicate q (0:UInt8)).map u8v).length:=by simp
   rw [e1,e2]
   exact List.take_left
 refine e_run hw hd (v:=.slice (some ⟨W.heap.size,0,none⟩) q (grownCap W q 0 e)) (W':=_) ?_ (k _ _ _ hge (by simpa [maxLen] using hcm') (H.drew.call (f:=Fact.row e 1 (.slice (some ⟨W.heap.size,0,none⟩) q (grownCap W q 0 e)) q ((List.replicate q 0).map u8v)) ((Below.refl _ _).alloc (Nat.le_refl _) _) hrow (fun g hg=>by
  have:some W.heap.size=some g:=hg
  cases this;simp)))
 unfold Runs execOp
 simp only [ho,resolve,invoke,builtin,Sem.run_bind,Sem.run_pure,Result.andThen_ok,List.map_toArray,List.map_cons,List.map_nil,hx,hy,hr]
theorem St.rowcut {m c q s:Nat} {xs:List Value} (H:St T w0 W (Fact.row e s (.slice A m c) m xs::L)) (hq:q<=m) (hnn:A.isSome=true):St T w0 W (Fact.row e s (.slice A q c) q (xs.take (q*s))::L):=by
 refine H.turn0 (f':=Fact.row e s (.slice A q c) q (xs.take (q*s))) Fr.refl ?_ (fun g hg=>.inl ?_)
 ·have h:W.ownsRow 0 e s (.slice A m c) m xs:=H.holds _ (.head _)
  refine ⟨by rw [List.length_take,h.1];have:=Nat.mul_le_mul_right s hq;omega,?_⟩
  rcases h.2 with ⟨h1,_⟩|⟨g,cap,cur,hv,hb,hh,h1,h2,h3,h4⟩
  ·cases h1;cases hnn
  ·cases hv
   refine .inr ⟨g,c,cur,rfl,hb,hh,by omega,h2,h3,?_⟩
   rw [←h4,List.take_take,Nat.min_eq_left (Nat.mul_le_mul_right s hq)]
 ·cases A with
  | none=>cases hnn
  | some a=>exact hg
theorem St.torow {s:Nat} (H:St T w0 W (Fact.blk g vs e::L)) (m:Nat) (hm:vs.length=m*s) (hl:m<=9223372036854775807):St T w0 W (Fact.row e s (.slice (some ⟨g,0,none⟩) m m) m vs::L):=by
 refine H.turn0 (f':=Fact.row e s (.slice (some ⟨g,0,none⟩) m m) m vs) Fr.refl ?_ (fun g' hg=>.inl ?_)
 ·have h:W.heap[g]?=some (.cells vs.toArray e (0,0)):=H.holds _ (.head _)
  exact ⟨hm,.inr ⟨g,m,_,rfl,Nat.zero_le _,h,Nat.le_refl _,by simpa [maxLen] using hl,by simpa using hm,by
   rw [←hm];exact List.take_length⟩⟩
 ·have:some g=some g':=hg
  cases this;rfl
end
class RowAt (A:Option Addr) (L:List Fact) (e s m c:outParam Nat) (xs:outParam (List Value)):Prop where mem:Fact.row e s (.slice A m c) m xs∈L
instance (priority:=low) RowAt.tail {A:Option Addr} {L:List Fact} {e s m c:Nat} {xs:List Value} {f:Fact} [h:RowAt A L e s m c xs]:RowAt A (f::L) e s m c xs:=⟨.tail _ h.mem⟩
instance RowAt.head {A:Option Addr} {L:List Fact} {e s m c:Nat} {xs:List Value}:RowAt A (Fact.row e s (.slice A m c) m xs::L) e s m c xs:=⟨.head _⟩
theorem St.rowrd {T:Nat->Prop} {w0 W:World} {L:List Fact} {A:Option Addr} {e s m c:Nat} {xs:List Value} (H:St T w0 W L) [h:RowAt A L e s m c xs]:Rd W (0<=·) s A m xs:=Rd.of_own (H.holds _ h.mem)
theorem d_ldR0 {P:Program} {o:Oper} {n:Nat} {ρ:Nat->Value} {W:World} {v:Value} {x:Operand} {t:TypeId} {S:Nat->Prop} {A:Option Addr} {m q s:Nat} {xs:List Value} (ho:o.op=.load t x) (hr:Rd W S s A m xs) (hx:ev n ρ x=.pointer (A.map (·.add (q*s)))) (ha:aggB P t=some false) (hv:xs[q*s]?=some v):Runs P n ρ o W v W:=by
 have hlt:q*s<xs.length:=(List.getElem?_eq_some_iff.1 hv).1
 have hm:0<m:=by
  rcases Nat.eq_zero_or_pos m with h|h
  ·subst h;rw [hr.1] at hlt;simp at hlt
  ·exact h
 obtain ⟨g,o',rfl,_,hc⟩:=hr.2 hm
 exact d_ldC (A:=⟨g,o'+q*s,none⟩) ho (by rw [hx,Option.map_some,Addr.add_mid]) ha (hc _ _ hv)
theorem d_ldmR {P:Program} {o:Oper} {n:Nat} {ρ:Nat->Value} {W:World} {x:Operand} {t:TypeId} {S:Nat->Prop} {A:Option Addr} {m q s j:Nat} {xs:List Value} (ho:o.op=.load t x) (hr:Rd W S s A m xs) (hx:ev n ρ x=.pointer (A.map (·.add (q*s)))) (ha:aggB P t=some true) (hs:(P.info? t).map (·.size)=some j) (hj:0<m) (hl:q*s+j<=xs.length):Runs P n ρ o W (.agg (sub xs (q*s) j).toArray) W:=by
 obtain ⟨g,o',rfl,_,hc⟩:=hr.2 hj
 refine d_ldmC (g:=g) (i:=o'+q*s) ho (by rw [hx,Option.map_some,Addr.add_mid]) ha hs (by simp [sub];omega) (fun i v hv=>?_)
 unfold sub at hv
 rw [List.getElem?_take] at hv
 split at hv
 ·rw [List.getElem?_drop] at hv
  rw [Nat.add_assoc]
  exact hc _ _ hv
 ·cases hv
theorem row_some {W:World} {S:Nat->Prop} {s m:Nat} {A:Option Addr} {xs:List Value} (h:Rd W S s A m xs) (hm:0<m):A.isSome=true:=by
 obtain ⟨g,o,rfl,_⟩:=h.2 hm;rfl
theorem all_u8L (l:List UInt8):(l.map u8v).all (·.oneCell')=true:=List.all_eq_true.2 (fun u hu=>one_u8 l u hu)
def wpHd (P:Program) (c:Code) (Q:Exit->Act->World->Prop) (a:Act) (w:World):Prop :=
 ∀(b:Frame) (k:List Item) (fs:List Frame),∃e a' w',Q e a' w'∧Arrives P (lone (b.at a (.code c::.inLoop c::k)) fs w) b k fs e a' w'
section
variable {P:Program} {Q:Exit->Act->World->Prop} {a:Act} {w:World} {c:Code} {cs:List Code}
theorem hd_of (h:c.wp P (Exit.then (wpHd P c Q) Q) a w):wpHd P c Q a w:=by
 intro b k fs
 obtain ⟨e,a₁,w₁,hq,harr⟩:=h b (.inLoop c::k) fs
 cases e with
 | normal =>
  obtain ⟨e₂,a₂,w₂,hq₂,harr₂⟩:=hq b k fs
  exact ⟨e₂,a₂,w₂,hq₂,.of_steps (Steps.trans harr (.one step_inLoop)) harr₂⟩
 | exit id=>exact ⟨.exit id,a₁,w₁,hq,.pass (x:=.inLoop c) rfl (fun _ _=>.inl (by simp)) harr⟩
 | goto l=>exact ⟨.goto l,a₁,w₁,hq,.pass (x:=.inLoop c) rfl (fun _ _=>.inl (by simp)) harr⟩
 | ret=>exact ⟨.ret,a₁,w₁,hq,.pass (x:=.inLoop c) rfl (fun _ _=>.inl (by simp)) harr⟩
 | panic ch=>exact ⟨.panic ch,a₁,w₁,hq,.pass (x:=.inLoop c) rfl (fun _ _=>.inl (by simp)) harr⟩
 | outgrown=>exact ⟨.outgrown,a₁,w₁,hq,.pass (x:=.inLoop c) rfl (fun _ _=>.inl (by simp)) harr⟩
theorem k_unr (h:c.wp P (Exit.then (wpHd P c (Exit.then (wpK P Q cs) Q)) (Exit.then (wpK P Q cs) Q)) a w):wpK P Q (.loop c::cs) a w:=by
 intro b k fs
 obtain ⟨e,a',w',hq,harr⟩:=hd_of h b k fs
 exact ⟨e,a',w',hq,.of_steps (.one step_loop) harr⟩
end
def Gat (w:World) (g:Nat) (c:List Value):Prop:=g<w.heap.size∧w.rangeAt g 0 c
section
variable {P:Program} {o:Oper} {n:Nat} {ρ:Nat->Value} {W w:World} {v:Value} {x:Operand} {t:TypeId} {L:List Fact} {g i m:Nat} {c:List Value}
theorem Gat.keep (h:Gat w g c) (hb:Below w.heap.size w W):Gat W g c:=⟨Nat.lt_of_lt_of_le h.1 hb.size,fun j v hv=>by rw [hb.cell (p:=⟨g,0+j,none⟩) h.1];exact h.2 j v hv⟩
theorem St.gat (H:St nT w W L) (h:Gat w g c):Gat W g c:=h.keep H.under
theorem d_ldG (ho:o.op=.load t x) (hg:Gat W g c) (hx:ev n ρ x=.pointer (some ⟨g,i,none⟩)) (ha:aggB P t=some false) (hc:c[i]?=some v):Runs P n ρ o W v W :=
 d_ldC ho hx ha (by have:=hg.2 i v hc;rwa [Nat.zero_add] at this)
theorem d_ldmG (ho:o.op=.load t x) (hg:Gat W g c) (hx:ev n ρ x=.pointer (some ⟨g,i,none⟩)) (ha:aggB P t=some true) (hs:(P.info? t).map (·.size)=some m) (hl:Nat.ble (i+m) c.length=true):Runs P n ρ o W (.agg (sub c i m).toArray) W :=
 d_ldmC ho hx ha hs (by have:=Nat.le_of_ble_eq_true hl;simp [sub];omega) (fun j v hv=>by
  unfold sub at hv
  rw [List.getElem?_take] at hv
  split at hv
  ·rw [List.getElem?_drop] at hv
   have:=hg.2 (i+j) v hv
   rwa [Nat.zero_add] at this
  ·cases hv)
theorem Gat.rd {s q:Nat} (h:Gat w g c) (hs:c.length=i+q*s):Rd w (·=g) s (some ⟨g,i,none⟩) q (c.drop i) :=
 ⟨by rw [List.length_drop];omega,fun _=>⟨g,i,rfl,⟨h.1,rfl⟩,fun j u hu=>by
  rw [List.getElem?_drop] at hu
  have:=h.2 (i+j) u hu
  rwa [Nat.zero_add] at this⟩⟩
end
theorem bs_cut {W:World} {S:Nat->Prop} {A:Option Addr} {n c a b:Nat} {l:List UInt8} (h:Bs W S (.slice A n c) l) (hl:l.length=n) (hab:a<=b) (hb:b<=n):Bs W S (.slice (if c=a then A else A.map (·.add (a*1))) (b - a) (c - a)) ((l.drop a).take (b - a)):=by
 subst hl
 obtain ⟨A',c',hv,h1,h2,hr⟩:=h.op
 cases hv
 refine Bs.mk ?_ (by omega) (by omega)
 have:=hr.cut hab hb h1
 rw [Nat.mul_one] at this ⊢
 rwa [Nat.mul_one,←List.map_drop,←List.map_take] at this
theorem gat_of {W:World} {g:Nat} {c:List Value} {t:TypeId} {q:Nat × Nat} (h:W.heap[g]?=some (.cells c.toArray t q)):Gat W g c :=
 ⟨by
  rcases Nat.lt_or_ge g W.heap.size with h1|h1
  ·exact h1
  ·rw [Array.getElem?_eq_none h1] at h
   exact absurd h (by simp),fun j v hv=>by rw [Nat.zero_add,blk_cell h];exact hv⟩
theorem St.newB {w W:World} {L:List Fact} {t:TypeId} {A:Option Addr} {m c:Nat} {xs:List Value} {L'':Fact->List Fact} {l:List UInt8} (H:St nT w W L) [h:RowTo t 1 (.slice A m c) m L xs L''] (hm:l.length=m) (hx:xs=l.map u8v) (hc:m<=c) (hd:c<=9223372036854775807):NewB t w l (.slice A m c) W:=by
 subst hm hx
 obtain ⟨M,h1,_⟩:=h.perm
 exact ⟨A,c,rfl,hc,hd,(H.perm h1).give⟩
theorem bs_row {W:World} {A:Option Addr} {e m c:Nat} {l:List UInt8} (h:W.ownsRow 0 e 1 (.slice A m c) m (l.map u8v)) (hl:l.length=m):Bs W (0<=·) (.slice A m c) l:=by
 subst hl
 obtain ⟨A',c',hv,h1,h2⟩:=row_form h
 cases hv
 exact Bs.mk (Rd.of_own h) h1 h2
theorem St.rowbs {T:Nat->Prop} {w0 W:World} {L:List Fact} {A:Option Addr} {e m c:Nat} {l:List UInt8} (H:St T w0 W L) [h:RowAt A L e 1 m c (l.map u8v)] (hl:l.length=m):Bs W (0<=·) (.slice A m c) l:=bs_row (H.holds _ h.mem) hl
end Go.Proofs.YtjjodibkmeefpaaGreatDoor

namespace Go.Proofs.YtjjodibkmeefpaaGreatDoor
open Go Go.RowKit
def Pk.toU (n:Int):Nat:=(n % 18446744073709551616).toNat
def Pk.le (u w:Nat):List UInt8:=(List.range w).map fun i=>UInt8.ofNat (u / 256 ^ i)
def Pk.int (u:Nat):List UInt8:=if u<253 then [UInt8.ofNat u] else if u<65536 then 253::Pk.le u 2 else if u<4294967296 then 254::Pk.le u 4 else 255::Pk.le u 8
theorem Pk.toU_lt (n:Int):Pk.toU n<18446744073709551616:=by unfold Pk.toU;omega
theorem Pk.toU_pos (n:Int) (h0:0<=n) (h1:n<18446744073709551616):Pk.toU n=n.toNat:=by unfold Pk.toU;rw [Int.emod_eq_of_lt h0 h1]
theorem Pk.toU_cast (n:Int):(Pk.toU n:Int)=n % 18446744073709551616:=by unfold Pk.toU;omega
theorem Pk.le_succ (u w:Nat):Pk.le u (w+1)=Pk.le u w++[UInt8.ofNat (u / 256 ^ w)]:=by simp [Pk.le,List.range_succ]
theorem Pk.len_le (u w:Nat):(Pk.le u w).length=w:=by simp [Pk.le]
theorem Pk.len_int (u:Nat):(Pk.int u).length<=9:=by
 unfold Pk.int;split <;> (try split) <;> (try split) <;> simp [Pk.len_le]
theorem u64_wrap (n:Int):IntKind.u64.wrap n=(Pk.toU n:Int):=by
 rw [Pk.toU_cast];simp [IntKind.wrap,IntKind.bits,IntKind.signed]
theorem shr_le (u k:Nat):(u:Int) / 2 ^ (8*k)=((u / 256 ^ k:Nat):Int):=by
 have e:(256:Nat) ^ k=2 ^ (8*k):=by rw [Nat.pow_mul]
 rw [e];simp
theorem u8_eq2 (n:Nat):IntKind.u8.wrap ((n:Int) % 256)=((UInt8.ofNat n).toNat:Int):=by rw [IntKind.wrap_u8];simp
theorem u64_div (u k:Nat) (h:u<18446744073709551616):IntKind.u64.wrap (((u / 256 ^ k:Nat):Int) / 256)=((u / 256 ^ (k+1):Nat):Int):=by
 have e:u / 256 ^ (k+1)=u / 256 ^ k / 256:=by rw [Nat.pow_succ,Nat.div_div_eq_div_mul]
 have h1:u / 256 ^ k<=u:=Nat.div_le_self _ _
 rw [e]
 generalize u / 256 ^ k=q at *
 rw [IntWalk.u64_in _ (by omega)]
 omega
theorem Pk.int_1 {u:Nat} (h:u<253):Pk.int u=[UInt8.ofNat u]:=by unfold Pk.int;rw [if_pos h]
theorem Pk.int_2 {u:Nat} (h:253<=u) (h2:u<65536):Pk.int u=253::Pk.le u 2:=by unfold Pk.int;rw [if_neg (by omega),if_pos h2]
theorem Pk.int_4 {u:Nat} (h:65536<=u) (h2:u<4294967296):Pk.int u=254::Pk.le u 4:=by unfold Pk.int;rw [if_neg (by omega),if_neg (by omega),if_pos h2]
theorem Pk.int_8 {u:Nat} (h:4294967296<=u):Pk.int u=255::Pk.le u 8:=by unfold Pk.int;rw [if_neg (by omega),if_neg (by omega),if_neg (by omega)]
end Go.Proofs.YtjjodibkmeefpaaGreatDoor

namespace Go.Proofs.YtjjodibkmeefpaaGreatDoor
open Go Go.RowKit
abbrev RS:=List UInt8 × Int
namespace Pk
def wide (c:UInt8):Nat:=if c=253 then 2 else if c=254 then 4 else if c=255 then 8 else 0
def least (c:UInt8):Nat:=if c=253 then 253 else if c=254 then 65536 else 4294967296
def ofLe:List UInt8->Nat
 | []=>0
 | c::r=>c.toNat+256*ofLe r
def next (n:Nat) (s:RS):List UInt8 × RS:=if s.2≠0 then ([],s) else if s.1.length<n then ([],([],4)) else (s.1.take n,(s.1.drop n,0))
def num (c:UInt8) (b:List UInt8) (s:RS):Nat × RS:=if 9223372036854775808<=ofLe b then (0,([],15)) else if ofLe b<least c then (0,([],10)) else (ofLe b,s)
def rInt (s:RS):Nat × RS :=
 match next 1 s with
 | ([],s1)=>(0,s1)
 | (c::_,s1)=>if wide c=0 then (c.toNat,s1) else if (next (wide c) s1).2.2≠0 then (0,(next (wide c) s1).2) else num c (next (wide c) s1).1 (next (wide c) s1).2
def rC (most:Int) (s:RS):Nat × RS:=if (rInt s).2.2=0∧most<((rInt s).1:Int) then (0,([],3)) else rInt s
def rB (most:Int) (s:RS):List UInt8 × RS:=next (rC most s).1 (rC most s).2
def full (n:Nat) (b:List UInt8):List UInt8:=b++List.replicate (n - b.length) 0
def rBytes (n:Nat) (s:RS):List UInt8 × RS:=(full n (next n s).1,(next n s).2)

def Ok (s:RS):Prop:=(s.2≠0->s.1=[])∧0<=s.2∧s.2<=24
end Pk
end Go.Proofs.YtjjodibkmeefpaaGreatDoor

namespace Go.Proofs.YtjjodibkmeefpaaGreatDoor
open Go Go.RowKit

section
variable {T:Nat->Prop} {w0 W W':World} {L L':List Fact} {f f' fn:Fact} {S:Nat->Prop} {v:Value} {l:List UInt8} {g:Nat} {c:List Value}
theorem St.mut (H:St T w0 W L) [h:Turn f f' L L'] (hb:Fr f.fp W W') (hp:f'.p W') (hf:∀g,f'.fp g->f.fp g):St T w0 W' L':=H.turn hb hp (fun g hg=>.inl (hf g hg))
theorem St.begin (hp:f.p W) (hf:∀g,f.fp g->g<W.heap.size):St f.fp W W [f] :=
 ⟨Fr.refl,fun x hx=>by
  obtain rfl:x=f:=by simpa using hx
  exact hp,fun x hx g hg=>by
  obtain rfl:x=f:=by simpa using hx
  exact ⟨.inl hg,hf g hg⟩,by simp⟩
theorem blk_lt {g:Nat} {c:List Value} {t:TypeId} {q:Nat × Nat} (h:W.heap[g]?=some (.cells c.toArray t q)):g<W.heap.size:=by
 rcases Nat.lt_or_ge g W.heap.size with h1|h1
 ·exact h1
 ·rw [Array.getElem?_eq_none h1] at h;cases h
def NewBT (T:Nat->Prop) (t:TypeId) (w:World) (l:List UInt8) (v:Value) (w':World):Prop :=
 ∃A c,v=.slice A l.length c∧l.length<=c∧c<=9223372036854775807∧w'.ownsRow 0 t 1 v l.length (l.map u8v)∧(∀g,v.ownBlock=some g->w.heap.size<=g∧g<w'.heap.size)∧Fr T w w'
end

def RefR (t:TypeId) (r:Nat) (A:Option Addr) (c:Nat) (cur:List UInt8) (s:RS):Fact :=
 ⟨(·=r),fun W=>∃a:Nat,W.heap[r]?=some (.cells [.slice A cur.length c,.int .i64 (a:Int),.int .i64 s.2].toArray t (0,0))∧a<=cur.length∧s.1=(if s.2=0 then cur.drop a else []),
  fun _ _ h k=>by obtain ⟨a,h1,h2⟩:=h;exact ⟨a,(k r rfl).trans h1,h2⟩⟩
def PrgR (t:TypeId) (r:Nat) (A0:Option Addr) (c0:Nat) (cur:List UInt8) (s:RS):Fact :=
 ⟨(·=r),fun W=>∃(A:Option Addr) (c o:Nat),W.heap[r]?=some (.cells [.slice A s.1.length c,.int .i64 s.2].toArray t (0,0))∧o<=cur.length∧s.1=(if s.2=0 then cur.drop o else [])∧s.1.length<=c∧c<=c0∧(0<s.1.length->A=A0.map (·.add o)),
  fun _ _ h k=>by obtain ⟨A,c,o,h1,h2⟩:=h;exact ⟨A,c,o,(k r rfl).trans h1,h2⟩⟩
def NextP (u t:TypeId) (r:Nat) (A:Option Addr) (c:Nat) (cur:List UInt8) (w:World) (l:List UInt8) (s':RS) (v:Value) (w':World):Prop:=NewBT (·=r) u w l v w'∧(RefR t r A c cur s').p w'
def ValP (t:TypeId) (r:Nat) (A:Option Addr) (c:Nat) (cur:List UInt8) (w:World) (x:Value) (s':RS) (v:Value) (w':World):Prop:=v=x∧(RefR t r A c cur s').p w'∧Fr (·=r) w w'
end Go.Proofs.YtjjodibkmeefpaaGreatDoor

namespace Go.Proofs.YtjjodibkmeefpaaGreatDoor
open Go Go.RowKit

section
variable {P:Program} {ops:Array Oper} {Q:Exit->Act->World->Prop} {o:Oper} {n:Nat} {ρ:Nat->Value} {ds:List Deferred} {W w0:World} {K:Act->World->Prop} {T:Nat->Prop} {L L':List Fact} {t t':TypeId} {x y:Operand} {g i m:Nat} {v:Value} {vs:List Value}
theorem e_stoK {c:List Value} (c':List Value) (hw:Region.wanted o (yielded ops (st n ρ ds).tmps)=true) (hd:o.dst=none) (ho:o.op=.store t x y) (hx:ev n ρ x=.pointer (some ⟨g,i,none⟩)) (hy:ev n ρ y=v) (hv:v.cells=vs.toArray) (hs:(P.info? t).map (·.size)=some m) (hm:vs.length=m) (h1:vs.all (·.oneCell')=true) (H:St T w0 W L) [hb:Blk g L c t']
  (hl:i+m<=c.length) (hc:spl c i vs=c') [ht:Turn (Fact.blk g c t') (Fact.blk g c' t') L L'] (k:∀W',St T w0 W' L'->K (st n ρ ds) W'):Step P ops Q o (st n ρ ds) W K:=by
 subst hm hc
 refine e_do hw hd (W':=W.setCells g i vs) ?_ (k _ (H.turn (f:=Fact.blk g c t') (f':=Fact.blk g (spl c i vs) t') (setCells_fr g vs i W) (setCells_heap g vs i W c t' H.blk) (fun g hg=>.inl hg)))
 have:=run_storeVar (P:=P) W g i t v vs hv (blk_there H.blk hl) hs h1
 unfold Does execOp
 simp [ho,hx,hy,Instr.storeAt,Instr.sureAddr,this]
theorem d_ldm0 {c:List Value} (ho:o.op=.load t x) (H:St T w0 W L) (hx:ev n ρ x=.pointer (some ⟨g,0,none⟩)) (ha:aggB P t=some true) (hs:(P.info? t).map (·.size)=some m) [hb:Blk g L c t'] (hl:c.length=m):Runs P n ρ o W (.agg c.toArray) W:=by
 subst hl
 have:=d_ldm (P:=P) (n:=n) (ρ:=ρ) (i:=0) ho H hx ha hs (hb:=hb) (Nat.ble_eq_true_of_le (by omega))
 simpa [sub] using this
theorem q_retc {fn:Func} {R:Ending->World->Prop} {p:Tmp} {c:List Value} (hr:fn.results=#[.cell p t]) (H:St T w0 W L) (hx:ev n ρ (.tmp p)=.pointer (some ⟨g,0,none⟩)) (ha:aggB P t=some true) [hb:Blk g L c t'] (hs:(P.info? t).map (·.size)=some c.length)
  (h:R (.returned (.agg c.toArray)) W):bodyPost P fn R .ret (st n ρ []) W:=by
 refine ⟨rfl,.agg c.toArray,?_,h⟩
 unfold aggB at ha
 cases hu:P.underlying t with
 | none=>rw [hu] at ha;cases ha
 | some d =>
  rw [hu] at ha
  exact results_cell_row hr _ W g t' c.toArray (0,0) d (by rw [st_getD];exact hx) H.blk hu (by cases d <;> simp_all) (by simpa using hs)
end
theorem St.add {T:Nat->Prop} {w0 W W':World} {L M:List Fact} (H:St T w0 W L) (K:St nT W W' M):St T w0 W' (M++L):=by
 have H':=H.below K.under
 refine ⟨H'.fr,fun x hx=>?_,fun x hx g hg=>?_,List.pairwise_append.2 ⟨K.apart,H'.apart,fun x hx y hy g hg hyg=>?_⟩⟩
 ·rcases List.mem_append.1 hx with hx|hx
  ·exact K.holds x hx
  ·exact H'.holds x hx
 ·rcases List.mem_append.1 hx with hx|hx
  ·have h1:=K.own x hx g hg
   have:=H.fr.size
   exact ⟨.inr (by have:=h1.1.resolve_left (fun h=>h);omega),h1.2⟩
  ·exact H'.own x hx g hg
 ·have h1:=(K.own x hx g hg).1.resolve_left (fun h=>h)
  have h2:=(H.own y hy g hyg).2
  omega
theorem spl_len:∀(c:List Value) (k:Nat) (vs:List Value),k+vs.length<=c.length->spl c k vs=c.take k++vs++c.drop (k+vs.length)
 | c,0,vs,h=>by
  rw [show spl c 0 vs=over c vs by cases c <;> rfl]
  induction vs generalizing c with
  | nil=>cases c <;> simp [over]
  | cons v vs ih =>
   cases c with
   | nil=>simp at h
   | cons x c =>
    have:=ih c (by simp at h ⊢;omega)
    simp only [List.take_zero,List.nil_append,Nat.zero_add] at this ⊢
    rw [over,this];simp
 | [],k+1,vs,h=>by simp at h
 | x::c,k+1,vs,h=>by
  rw [spl,spl_len c k vs (by simp at h;omega),show k+1+vs.length=k+vs.length+1 by omega];simp
theorem spl_all {c vs:List Value} (h:vs.length=c.length):spl c 0 vs=vs:=by
 rw [spl_len c 0 vs (by omega)]
 rw [show 0+vs.length=c.length by omega,List.drop_length]
 simp
def hz (n k:Nat) (b:List UInt8):List Value:=(Pk.full n (b.take k)).map u8v
end Go.Proofs.YtjjodibkmeefpaaGreatDoor

namespace Go.Proofs.YtjjodibkmeefpaaGreatDoor
open Go Go.RowKit

def Pan (x:Value) (Ψ:World->Prop):Ending->World->Prop:=fun e w'=>e=.panicked [{ v:=x,recovered:=false }]∧Ψ w'
section
variable {P:Program} {ops:Array Oper} {Q:Exit->Act->World->Prop} {o:Oper} {n:Nat} {ρ:Nat->Value} {ds:List Deferred} {W w:World} {K:Act->World->Prop} {d:Tmp} {x y:Operand} {v z:Value} {Ψ:World->Prop} {t t':TypeId}
theorem d_s2a {m c j:Nat} {e:TypeId} {A:Option Addr} (ho:o.op=.sliceToArrayPointer t x) (hx:ev n ρ x=.slice A m c) (hu:P.underlying t=some (.array j e)) (hl:j<=m):Runs P n ρ o W (.pointer A) W:=by
 unfold Runs execOp
 have:¬m<j:=by omega
 simp [ho,hx,Instr.arrayAt,Sem.run_bind,run_underlying hu W,this]

end

def PanLo (lo:Nat) (Q:Exit->Act->World->Prop) (e:Exit) (a:Act) (w:World):Prop :=
 (∀c,e=.panic c->∀a':Act,a'.defers=a.defers->(∀j,j<lo->a'.tmps[j]?=a.tmps[j]?)->Q e a' w)∧Q e a w
end Go.Proofs.YtjjodibkmeefpaaGreatDoor

namespace Go.Proofs.YtjjodibkmeefpaaGreatDoor
open Go Go.RowKit

theorem Fr.mono' {T T':Nat->Prop} {w w':World} (h:Fr T w w') (ht:∀g,T g->T' g):Fr T' w w':=⟨h.os,h.tape,h.output,h.size,fun k hk hn=>h.block k hk (fun q=>hn (ht k q))⟩
section
variable {P:Program} {ops:Array Oper} {Q:Exit->Act->World->Prop} {o:Oper} {n:Nat} {ρ:Nat->Value} {ds:List Deferred} {W w w0:World} {K:Act->World->Prop} {T:Nat->Prop} {L L':List Fact} {x y:Operand} {v:Value} {t e:TypeId} {A B:Option Addr}
end
section
variable {P:Program} {ops:Array Oper} {Q:Exit->Act->World->Prop} {md:Region.Mode} {S:World->Prop}
end
section
variable {P:Program} {Q:Exit->Act->World->Prop} {cs:List Code} {n:Nat} {ρ:Nat->Value} {ds:List Deferred} {w w0:World} {T:Nat->Prop} {L:List Fact}
def dstsFrom (lo:Nat) (l:List Oper):Bool:=l.all fun o=>match o.dst with|none=>true|some d=>Nat.ble lo d
end
end Go.Proofs.YtjjodibkmeefpaaGreatDoor

namespace Go.Proofs.YtjjodibkmeefpaaGreatDoor
open Go Go.RowKit

def LeftP (A0:Option Addr) (n0 c0:Nat) (A:Option Addr) (c o:Nat) (ys:List UInt8) (s:RS):Prop :=
 ys.length=n0∧o<=n0∧s.1.length<=c∧c<=9223372036854775807∧(s.2=0->s.1=ys.drop o∧c+o=c0∧(0<s.1.length->A=A0.map (·.add o)))∧(s.2≠0->s.1=[])
def HeldP (A0:Option Addr) (o:Nat) (ys:List UInt8) (v:Value) (b:List UInt8):Prop :=
 ∃B cb q,v=.slice B b.length cb∧b.length<=cb∧cb<=9223372036854775807∧(0<b.length->B=A0.map (·.add q))∧q+b.length<=o∧(ys.drop q).take b.length=b
def RdT (r:Nat) (A0:Option Addr) (n0 c0:Nat) (g:Nat):Prop:=g=r∨(Value.slice A0 n0 c0).ownBlock=some g
def RdYB (u t r:Nat) (A0:Option Addr) (n0 c0:Nat) (Y:List UInt8->Prop) (v:Value) (b:List UInt8) (s:RS):Fact :=
 ⟨RdT r A0 n0 c0,fun W=>∃(A:Option Addr) (c o:Nat) (ys:List UInt8),W.heap[r]?=some (.cells [.slice A s.1.length c,.int .i64 s.2].toArray t (0,0))∧W.ownsRow 0 u 1 (.slice A0 n0 c0) n0 (ys.map u8v)∧¬(Value.slice A0 n0 c0).ownBlock=some r∧LeftP A0 n0 c0 A c o ys s∧HeldP A0 o ys v b∧Y ys,
  fun _ _ h k=>by
   obtain ⟨A,c,o,ys,h1,h2,h3⟩:=h
   exact ⟨A,c,o,ys,(k r (.inl rfl)).trans h1,ownsRow_keep h2 (fun g hg=>k g (.inr hg)),h3⟩⟩
abbrev RdYP (u t r:Nat) (A0:Option Addr) (n0 c0:Nat) (Y:List UInt8->Prop) (s:RS):Fact:=RdYB u t r A0 n0 c0 Y (.slice none 0 0) [] s
abbrev RdB (u t r:Nat) (A0:Option Addr) (n0 c0:Nat) (v:Value) (b:List UInt8) (s:RS):Fact:=RdYB u t r A0 n0 c0 (fun _=>True) v b s
abbrev RdP (u t r:Nat) (A0:Option Addr) (n0 c0:Nat) (s:RS):Fact:=RdB u t r A0 n0 c0 (.slice none 0 0) [] s
theorem held_nil {A0:Option Addr} {o:Nat} {ys:List UInt8}:HeldP A0 o ys (.slice none 0 0) []:=⟨none,0,0,rfl,Nat.le_refl _,by omega,fun h=>absurd h (by decide),by simp,by simp⟩
section
variable {T:Nat->Prop} {w w0 W W':World} {L:List Fact} {u t r n0 c0:Nat} {A0 A:Option Addr} {v:Value} {b:List UInt8} {s:RS} {Y:List UInt8->Prop}
theorem RdB.lt (h:(RdYB u t r A0 n0 c0 Y v b s).p W):∀g,RdT r A0 n0 c0 g->g<W.heap.size:=by
 obtain ⟨A,c,o,ys,h1,h2,_⟩:=h
 rintro g (rfl|hg)
 ·exact blk_lt h1
 ·exact (World.ownsRow.lt h2 g hg).2
theorem RdB.two (h:(RdYB u t r A0 n0 c0 Y v b s).p W):∃(A:Option Addr) (c o:Nat) (ys:List UInt8),Y ys∧LeftP A0 n0 c0 A c o ys s∧HeldP A0 o ys v b∧n0<=c0∧c0<=9223372036854775807 ∧
  St (RdT r A0 n0 c0) W W [Fact.blk r [.slice A s.1.length c,.int .i64 s.2] t,Fact.row u 1 (.slice A0 n0 c0) n0 (ys.map u8v)]:=by
 have hlt:=RdB.lt h
 obtain ⟨A,c,o,ys,h1,h2,h3,h4,h5,h6⟩:=h
 obtain ⟨_,_,hv,hc1,hc2⟩:=row_form h2
 cases hv
 refine ⟨A,c,o,ys,h6,h4,h5,hc1,hc2,Fr.refl,fun x hx=>?_,fun x hx g hg=>?_,?_⟩
 ·simp only [List.mem_cons,List.not_mem_nil,or_false] at hx
  rcases hx with rfl|rfl
  ·exact h1
  ·exact h2
 ·simp only [List.mem_cons,List.not_mem_nil,or_false] at hx
  rcases hx with rfl|rfl
  ·exact ⟨.inl (.inl hg),hlt g (.inl hg)⟩
  ·exact ⟨.inl (.inr hg),hlt g (.inr hg)⟩
 ·refine List.pairwise_cons.2 ⟨fun x hx g hg hxg=>?_,by simp⟩
  simp only [List.mem_cons,List.not_mem_nil,or_false] at hx
  subst hx
  cases hg
  exact h3 hxg
theorem RdB.of {m:Nat} {e:Int} {c o:Nat} {ys:List UInt8} (hY:Y ys) (H:St T w0 W L) [hb:Blk r L [.slice A m c,.int .i64 e] t] [hr:In (Fact.row u 1 (.slice A0 n0 c0) n0 (ys.map u8v)) L] (hne:¬(Value.slice A0 n0 c0).ownBlock=some r) (hm:m=s.1.length) (he:e=s.2) (hL:LeftP A0 n0 c0 A c o ys s) (hH:HeldP A0 o ys v b):(RdYB u t r A0 n0 c0 Y v b s).p W:=by
 subst hm he
 exact ⟨A,c,o,ys,H.blk,H.get (f:=Fact.row u 1 (.slice A0 n0 c0) n0 (ys.map u8v)),hne,hL,hH,hY⟩
theorem row_addr {xs:List Value} (h:W.ownsRow 0 u 1 (.slice A0 n0 c0) n0 xs):A0=none∨∃g,A0=some ⟨g,0,none⟩:=by
 rcases h.2 with ⟨h1,_⟩|⟨g,cap,cur,hv,_⟩
 ·cases h1;exact .inl rfl
 ·cases hv;exact .inr ⟨g,rfl⟩
theorem RdB.bs (h:(RdYB u t r A0 n0 c0 Y v b s).p W):Bs W (0<=·) v b:=by
 obtain ⟨A,c,o,ys,h1,h2,h3,⟨h4,h5,_⟩,⟨B,cb,q,rfl,h6,h7,h8,h9,h10⟩,_⟩:=h
 refine Bs.mk ?_ h6 h7
 rcases Nat.eq_zero_or_pos b.length with hz|hz
 ·exact ⟨by simp,fun h=>by omega⟩
 ·obtain ⟨_,_,hv,hc1,hc2⟩:=row_form h2
  cases hv
  have hb:=bs_cut (bs_row h2 h4) h4 (a:=q) (b:=q+b.length) (by omega) (by omega)
  rw [if_neg (by omega),Nat.mul_one,Nat.add_sub_cancel_left,h10,←h8 hz] at hb
  obtain ⟨_,_,hv,_,_,hr⟩:=hb.op
  cases hv
  exact hr
theorem St.old {f:Fact} (H:St T W W L) (hp:f.p W) (hlt:∀g,f.fp g->g<W.heap.size) (hd:∀x∈L,∀g,f.fp g->¬x.fp g):St (fun g=>f.fp g∨T g) W W (f::L):=by
 refine ⟨Fr.refl,fun x hx=>?_,fun x hx g hg=>?_,List.pairwise_cons.2 ⟨fun x hx g hg=>hd x hx g hg,H.apart⟩⟩
 ·rcases List.mem_cons.1 hx with rfl|hx
  ·exact hp
  ·exact H.holds x hx
 ·rcases List.mem_cons.1 hx with rfl|hx
  ·exact ⟨.inl (.inl hg),hlt g hg⟩
  ·have h:=H.own x hx g hg
   exact ⟨h.1.imp .inr id,h.2⟩
theorem RdB.rd {B:Option Addr} {cb:Nat} (h:(RdYB u t r A0 n0 c0 Y (.slice B b.length cb) b s).p W):Rd W (0<=·) 1 B b.length (b.map u8v):=by
 obtain ⟨_,_,hv,_,_,hr⟩:=(RdB.bs h).op
 cases hv
 exact hr
theorem St.merge {f f' F:Fact} (H:St T w0 W (f::f'::L)) (hp:F.p W) (hfp:∀g,F.fp g->f.fp g∨f'.fp g):St T w0 W (F::L):=by
 have h1:=List.pairwise_cons.1 H.apart
 have h2:=List.pairwise_cons.1 h1.2
 refine ⟨H.fr,fun x hx=>?_,fun x hx g hg=>?_,List.pairwise_cons.2 ⟨fun x hx g hg hxg=>?_,h2.2⟩⟩
 ·rcases List.mem_cons.1 hx with rfl|hx
  ·exact hp
  ·exact H.holds x (.tail _ (.tail _ hx))
 ·rcases List.mem_cons.1 hx with rfl|hx
  ·rcases hfp g hg with h|h
   ·exact H.own _ (.head _) g h
   ·exact H.own _ (.tail _ (.head _)) g h
  ·exact H.own x (.tail _ (.tail _ hx)) g hg
 ·rcases hfp g hg with h|h
  ·exact h1.1 x (.tail _ hx) g h hxg
  ·exact h2.1 x hx g h hxg
theorem RdB.make {m c:Nat} {l:List UInt8} (hY:Y l) (H:St T w0 W (Fact.blk r [.slice A m c,.int .i64 0] t::Fact.row u 1 (.slice A m c) m (l.map u8v)::L)) (hm:l.length=m):St T w0 W (RdYP u t r A m c Y (l,0)::L):=by
 have h2:W.ownsRow 0 u 1 (.slice A m c) m (l.map u8v):=H.holds _ (.tail _ (.head _))
 obtain ⟨_,_,hv,hc1,hc2⟩:=row_form h2
 cases hv
 subst hm
 refine H.merge ⟨A,c,0,l,H.holds _ (.head _),h2,(List.pairwise_cons.1 H.apart).1 _ (.head _) r rfl,⟨rfl,Nat.zero_le _,hc1,hc2,fun _=>⟨rfl,rfl,fun _=>?_⟩,fun h=>absurd rfl h⟩,held_nil,hY⟩ (fun g hg=>hg)
 rcases row_addr h2 with rfl|⟨g,rfl⟩
 ·rfl
 ·simp [Addr.add_mid]
end
end Go.Proofs.YtjjodibkmeefpaaGreatDoor

namespace Go.Proofs.YtjjodibkmeefpaaGreatDoor
open Go Go.RowKit

def Fact.obj (g:Nat) (o:Obj):Fact:=⟨(·=g),fun W=>W.heap[g]?=some o,fun _ _ h k=>(k g rfl).trans h⟩
section
variable {P:Program} {ops:Array Oper} {Q:Exit->Act->World->Prop} {rest:List Oper} {o:Oper} {n m:Nat} {ρ:Nat->Value} {ds:List Deferred} {W W' w w0:World} {d:Tmp} {v:Value} {F:Fence} {x:Operand} {T:Nat->Prop} {L:List Fact} {cs:List Code}
theorem rX (hF:∀f,F.fn f) (hnd:∀c,o.op≠.defer c) (hw:Region.wanted o (yielded ops (st n ρ ds).tmps)=true) (hd:o.dst=some d) (h:Runs P n ρ o W v W') (k:wpListIn F m P ops Q rest (st n (upd ρ d v) ds) W'):wpListIn F m P ops Q (o::rest) (st n ρ ds) W:=by
 unfold wpListIn
 rw [if_pos hw]
 refine ⟨fun f _=>hF f,?_⟩
 rw [Oper.semAt_eq _ _ _ hnd,st_eval,show (execOp (ev n ρ) o).run P W=_ from h,Oper.uponIn_value,hd,st_put]
 exact k
theorem r_nil {a:Act} (h:Q .normal a W):wpListIn F m P ops Q [] a W:=wpListIn_nil h
theorem r_yield {l:Nat} {args:Array Operand} {ats:Array TypeId} {la:List Value} {R:Ending->World->Prop} (hF:∀f,F.fn f) (hdep:F.depth=none) (hw:Region.wanted o (yielded ops (st n ρ ds).tmps)=true) (hd:o.dst=some d) (ho:o.op=.call { callee:=.value x,args:=args,argTypes:=ats })
  (hx:ev n ρ x=.func (.yield l) #[] #[]) (hl:args.toList.map (ev n ρ)=la) (hY:YieldAt F (m - 1) P l la.toArray W R) (hR:∀e W',R e W'->∃b,e=.returned (.bool b))
  (k:∀b W',R (.returned (.bool b)) W'->wpListIn F m P ops Q rest (st n (upd ρ d (.bool b)) ds) W'):wpListIn F m P ops Q (o::rest) (st n ρ ds) W:=by
 unfold wpListIn
 rw [if_pos hw]
 refine ⟨fun f _=>hF f,?_⟩
 obtain ⟨fn,tmps,assign,body,hy,hr⟩:=hY
 have he:(execOp (ev n ρ) o).run P W=.ok (.round l fn tmps assign body) W:=by
  unfold execOp
  have hmap:args.map (ev n ρ)=la.toArray:=by
   rw [←hl];apply Array.ext';simp
  simp [ho,resolve,hx,Deferred.ofValue,invoke,hmap,hy]
 rw [Oper.semAt_eq _ _ _ (fun c h=>by rw [ho] at h;cases h),st_eval,he,Oper.uponIn_round]
 refine ⟨fun h=>(by rw [hdep] at h;cases h),hr.mono (fun e W' q=>?_)⟩
 obtain ⟨b,rfl⟩:=hR e W' q
 show wpListIn F m P ops Q rest ((st n ρ ds).put o.dst (.bool b)) W'
 rw [hd,st_put]
 exact k b W' q
theorem k_regionY {id:Nat} {l:List Oper} (h:wpListIn Fence.wide 2 P l.toArray (Exit.then (wpK P Q cs) Q) l (st n ρ ds) w):wpK P Q (.region id l.toArray false::cs) (st n ρ ds) w :=
 (wpIn_wide (n:=2)).1 (wpIn_region_lit h)
theorem k_enterM {f:FuncId} {fn:Func} {c:Code} {l:List Value} {R:Ending->World->Prop} (hf:P.funcs[f]?=some fn) (hb:fn.body=some c) (hl:Nat.ble l.length fn.ntmps=true)
  (h:wpK P (bodyPostM Fence.wide 3 P fn R) [c] (st fn.ntmps (argsρ l) []) w):Calls P f l.toArray w R:=by
 refine (callsIn_wide (n:=3)).1 (callsIn_of_wp_marks hf hb trivial ?_)
 rw [st_args l (Nat.le_of_ble_eq_true hl)]
 exact wpIn_wide.2 (Code.wp_mono (fun e a w q=>by cases e <;> exact q) h)
theorem take_obj {D:Nat} (H:St T w0 W (Fact.obj D (.deferred (some []))::L)):(Instr.takeDeferred D).run P W=.ok [] (W.putObj D (.deferred none))∧St T w0 (W.putObj D (.deferred none)) L:=by
 have h:W.heap[D]?=some (.deferred (some [])):=H.holds _ (.head _)
 have hlt:D<W.heap.size:=(Array.getElem?_eq_some_iff.1 h).1
 have hg:=grownBy_putObj' W D (.deferred none)
 exact ⟨run_takeDeferred h,(H.turn0 (f':=Fact.obj D (.deferred none)) ⟨hg.os,hg.tape,hg.output,hg.size,fun k hk hn=>hg.block k hk (fun e=>hn (by cases e;rfl))⟩ (World.putObj_heap_same hlt) (fun g hg=>.inl hg)).drop⟩
theorem Gat.same {g:Nat} {c:List Value} (h:Gat w g c) (hb:W.heap[g]?=w.heap[g]?):Gat W g c:=⟨lt_of_block h.1 hb,fun j v hv=>(World.cell?_of_block (a:=⟨g,0+j,none⟩) hb).trans (h.2 j v hv)⟩
theorem d_ldmA {t:TypeId} {S:Nat->Prop} {A:Option Addr} {m:Nat} {xs:List Value} (ho:o.op=.load t x) (hr:Rd W S 1 A m xs) (hx:ev n ρ x=.pointer A) (ha:aggB P t=some true) (hs:(P.info? t).map (·.size)=some m) (hm:0<m):Runs P n ρ o W (.agg xs.toArray) W:=by
 have hA:A.map (·.add (0*1))=A:=by
  obtain ⟨g,i,rfl,_⟩:=hr.2 hm
  simp [Addr.add_mid]
 have hl:xs.length=m:=by rw [hr.1,Nat.mul_one]
 have:=d_ldmR (P:=P) (n:=n) (ρ:=ρ) (q:=0) ho hr (by rw [hx,hA]) ha hs hm (by rw [hl];omega)
 simpa [sub,←hl] using this
def KeepG (K0:Nat->Prop) (W W':World):Prop:=∀g,K0 g->W'.heap[g]?=W.heap[g]?
end
theorem Rd.swap {w:World} {S S':Nat->Prop} {size n:Nat} {A:Option Addr} {xs:List Value} (h:Rd w S size A n xs) (hS:0<n->∀a,A=some a->S' a.block):Rd w S' size A n xs :=
 ⟨h.1,fun hn=>by
  obtain ⟨g,o,rfl,hg,hc⟩:=h.2 hn
  exact ⟨g,o,rfl,⟨hg.1,hS hn _ rfl⟩,hc⟩⟩
end Go.Proofs.YtjjodibkmeefpaaGreatDoor

namespace Go.Proofs.YtjjodibkmeefpaaGreatDoor
open Go Go.RowKit

def LoadsTo (P:Program) (t:TypeId) (g:Nat) (v:Value) (W:World):Prop:=(loadVar t ⟨g,0,none⟩).run P W=.ok v W
section
variable {P:Program} {n:Nat} {ρ:Nat->Value} {W w w0:World} {v:Value} {T:Nat->Prop} {L:List Fact} {t t':TypeId} {g:Nat}
theorem loads1 (ha:aggB P t=some false) (h:W.heap[g]?=some (.cells [v].toArray t' (0,0))):LoadsTo P t g v W:=by
 exact run_load1 ha (by rw [blk_cell h];rfl)
theorem loadsM {c:List Value} (ha:aggB P t=some true) (hs:(P.info? t).map (·.size)=some c.length) (h:W.heap[g]?=some (.cells c.toArray t' (0,0))):LoadsTo P t g (.agg c.toArray) W:=by
 unfold LoadsTo
 unfold aggB at ha
 cases hu:P.underlying t with
 | none=>rw [hu] at ha;cases ha
 | some d =>
  rw [hu] at ha
  exact run_loadVar_row W g t' t c.toArray (0,0) d h hu (by cases d <;> simp_all) (by simpa using hs)
theorem run_resc {fn:Func} {p:Tmp} {a:Act} (hr:fn.results=#[.cell p t]) (hp:a.tmps.getD p undef=.pointer (some ⟨g,0,none⟩)) (h:LoadsTo P t g v W):(results fn a.tmps).run P W=.ok v W:=by
 have hp':a.tmps[p]?.getD undef=.pointer (some ⟨g,0,none⟩):=by simpa using hp
 unfold LoadsTo at h
 simp [results,hr,hp',asAddr,h]
end
end Go.Proofs.YtjjodibkmeefpaaGreatDoor

namespace Go.Proofs.YtjjodibkmeefpaaGreatDoor
open Go Go.RowKit

theorem d_eqarr {P:Program} {o:Oper} {n:Nat} {ρ:Nat->Value} {W:World} {t t' e:TypeId} {x y:Operand} {m:Nat} {a b:List UInt8} (ho:o.op=.binOp .eql t x y t') (hx:ev n ρ x=.agg (a.map u8v).toArray) (hy:ev n ρ y=.agg (b.map u8v).toArray) (hu:P.underlying t=some (.array m e)) (he:P.underlying e=some (.int .u8)) (hs:(P.info? e).map (·.size)=some 1) (ha:a.length=m) (hb:b.length=m) (hm:P.eqGuardType P.depth t=false):Runs P n ρ o W (.bool (a == b)) W:=by
 have h:(Op.equalIn 10000 t (.agg (a.map u8v).toArray) (.agg (b.map u8v).toArray)).run P W=.ok (a == b) W:=run_equalIn_bytes (P:=P) W 9998 t e m hu he (run_size hs) a b ha hb
 have hg:=run_eqGuard_agg (P:=P) W .eql t x y (a.map u8v).toArray (b.map u8v).toArray hm
 have h2:(binOp .eql t (.agg (a.map u8v).toArray) (.agg (b.map u8v).toArray)).run P W=.ok (.bool (a == b)) W:=by
  simp only [binOp]
  simp [Op.equal,Op.maxDepth,h]
 unfold Runs execOp
 simp only [ho,hx,hy,hg,Sem.run_bind,Sem.run_pure,Result.andThen_ok,h2]
theorem RdB.spoilt {u t r n0 c0:Nat} {A0:Option Addr} {b ys':List UInt8} {s:RS} {W':World} {q o:Nat} (A:Option Addr) (c:Nat) (ys:List UInt8) (h1:W'.heap[r]?=some (.cells [.slice A s.1.length c,.int .i64 s.2].toArray t (0,0))) (hne:¬(Value.slice A0 n0 c0).ownBlock=some r) (hL:LeftP A0 n0 c0 A c o ys s) (hq:q+b.length<=o) (hR:W'.ownsRow 0 u 1 (.slice A0 n0 c0) n0 (ys'.map u8v)) (hl:ys'.length=ys.length) (hd:ys'.drop (q+b.length)=ys.drop (q+b.length)):(RdP u t r A0 n0 c0 s).p W':=by
 refine ⟨A,c,o,ys',h1,hR,hne,⟨by rw [hl];exact hL.1,hL.2.1,hL.2.2.1,hL.2.2.2.1,fun he=>?_,hL.2.2.2.2.2⟩,held_nil,trivial⟩
 have h:=hL.2.2.2.2.1 he
 refine ⟨?_,h.2⟩
 have e1:=congrArg (List.drop (o - (q+b.length))) hd
 rw [List.drop_drop,List.drop_drop,Nat.add_sub_cancel' hq] at e1
 rw [h.1,e1]
theorem d_diff {P:Program} {o:Oper} {n:Nat} {ρ:Nat->Value} {W:World} {t t':TypeId} {x y:Operand} {a b:Bool} (ho:o.op=.binOp .neq t x y t') (hx:ev n ρ x=.bool a) (hy:ev n ρ y=.bool b) (hu:P.underlying t=some .bool):Runs P n ρ o W (.bool (!(a == b))) W:=by
 unfold Runs execOp
 simp [ho,hx,hy,eqGuard_at_bool,run_neq_bool _ t a b hu]
def askC:List (Int × Int)->List Value
 | []=>[]
 | x::l=>.int .i64 x.1::.int .i64 x.2::askC l
def Fact.two (f f':Fact):Fact:=⟨fun g=>f.fp g∨f'.fp g,fun W=>f.p W∧f'.p W,fun W W' h k=>⟨f.st W W' h.1 (fun g hg=>k g (.inl hg)),f'.st W W' h.2 (fun g hg=>k g (.inr hg))⟩⟩
theorem St.two {T:Nat->Prop} {w0 W:World} {L:List Fact} {f f':Fact} (H:St T w0 W (f::f'::L)):St T w0 W (Fact.two f f'::L) :=
 H.merge ⟨H.holds _ (.head _),H.holds _ (.tail _ (.head _))⟩ (fun _ hg=>hg)
theorem bs_own {W:World} {A:Option Addr} {e m c:Nat} {l:List UInt8} (h:W.ownsRow 0 e 1 (.slice A m c) m (l.map u8v)) (hl:l.length=m):Bs W (fun g=>(Value.slice A m c).ownBlock=some g) (.slice A m c) l:=by
 have hb:=bs_row h hl
 subst hl
 obtain ⟨_,_,hv,h1,h2,hr⟩:=hb.op
 cases hv
 exact Bs.mk (hr.swap (fun _ a ha=>by subst ha;rfl)) h1 h2
end Go.Proofs.YtjjodibkmeefpaaGreatDoor

namespace Go.Proofs.YtjjodibkmeefpaaGreatDoor
open Go Go.RowKit Go.WideShapes Go.ChangeShapes Go.Deep

abbrev Rep (α:Type):=World->(Nat->Prop)->List Value->α->Prop
def RI:Rep Int:=fun _ _ cs n=>cs=[.int .i64 n] ∧ -9223372036854775808<=n∧n<=9223372036854775807
def RA (m:Nat):Rep (List UInt8):=fun _ _ cs l=>cs=l.map u8v∧l.length=m
def RB:Rep (List UInt8):=fun W S cs l=>∃v,cs=[v]∧Bs W S v l
def RL {α:Type} (s:Nat) (R:Rep α):Rep (List α):=fun W S cs l=>∃A c xs,cs=[.slice A l.length c]∧l.length<=c∧c<=9223372036854775807∧Rd W S s A l.length xs∧∀(i:Nat) (x:α),l[i]?=some x->R W S (sub xs (i*s) s) x
def Keeps {α:Type} (R:Rep α):Prop:=∀(W W':World) (S:Nat->Prop) (cs:List Value) (a:α),R W S cs a->(∀g,g<W.heap.size->S g->W'.heap[g]?=W.heap[g]?)->R W' S cs a
theorem keeps_I:Keeps RI:=fun _ _ _ _ _ h _=>h
theorem keeps_A {m:Nat}:Keeps (RA m):=fun _ _ _ _ _ h _=>h
theorem keeps_B:Keeps RB:=fun _ _ _ _ _ h k=>by
 obtain ⟨v,h1,h2⟩:=h
 exact ⟨v,h1,h2.keep k⟩
theorem keeps_L {α:Type} {s:Nat} {R:Rep α} (hR:Keeps R):Keeps (RL s R):=fun _ _ _ _ _ h k=>by
 obtain ⟨A,c,xs,h1,h2,h3,h4,h5⟩:=h
 exact ⟨A,c,xs,h1,h2,h3,h4.keep k,fun i x hx=>hR _ _ _ _ _ (h5 i x hx) k⟩
def Opens (P:Program) (t:TypeId) {α:Type} (R:Rep α):Prop:=∀(H:Type) (enc:TypeId × Value->H) (W:World) (sp:Nat->Bool) (hd:Bool) (fuel:Nat) (cs:List Value) (x:DataW H × List MemPlace),DataW.trod enc P W 0 sp hd fuel t cs=some x->∃a,R W (·<W.heap.size) cs a

theorem sub_flat {s:Nat}:∀(L:List (List Value)) (i:Nat) (c:List Value),(∀c∈L,c.length=s)->L[i]?=some c->sub L.flatten (i*s) s=c
 | [],_,_,_,h=>by simp at h
 | x::L,0,c,hl,h=>by
  obtain rfl:x=c:=by simpa using h
  have hx:=hl x (.head _)
  simp [sub,hx]
 | x::L,i+1,c,hl,h=>by
  have ih:=sub_flat L i c (fun c hc=>hl c (.tail _ hc)) (by simpa using h)
  have hx:=hl x (.head _)
  unfold sub at ih ⊢
  rw [List.flatten_cons,show (i+1)*s=x.length+i*s by rw [Nat.add_mul,hx];omega,List.drop_append,List.drop_eq_nil_of_le (by omega),Nat.add_sub_cancel_left,List.nil_append]
  exact ih
section
variable {P:Program} {t e:TypeId}
end
def cutsOf:List Nat->List Value->Nat->List Value
 | [],_,_=>[]
 | m::ms,cs,k=>(cs.drop k).take m++cutsOf ms cs (k+m)
end Go.Proofs.YtjjodibkmeefpaaGreatDoor

namespace Go.Proofs.YtjjodibkmeefpaaGreatDoor
open Go Go.RowKit

theorem w_gu {ops:Array Oper} {o oj:Oper} {n:Nat} {ρ:Nat->Value} {ds:List Deferred} {j:Nat} {want:Bool} {e:Tmp} (hg:o.guard=some (j,want)) (hj:ops[j]?=some oj) (he:oj.dst=some e) (hv:ev n ρ (.tmp e)=undef) (_h:True=True):Region.wanted o (yielded ops (st n ρ ds).tmps)=false:=by
 have h2:=st_getD (n:=n) (ρ:=ρ) (ds:=ds) e
 simp only [ev] at hv
 rw [hv] at h2
 unfold Region.wanted yielded
 rw [hg]
 simp only [hj,he,Option.bind_some]
 cases h3:(st n ρ ds).tmps[e]? with
 | none=>rfl
 | some u =>
  rw [Array.getD_eq_getD_getElem?,h3] at h2
  simp only [Option.getD_some] at h2
  subst h2
  rfl

theorem Eqo.ovr2 {lo lo2:Nat} {M M2:List Nat} {ρ ρ1 ρv:Nat->Value} (h:Eqo lo M ρ ρ1) (hb:(Nat.ble lo lo2 && M2.all (inM lo M))=true):Eqo lo M ρ (Go.Proofs.YtjjodibkmeefpaaGreatDoor.ovr lo2 M2 ρ1 ρv):=fun j hj=>by
 simp only [Bool.and_eq_true] at hb
 show (bif inM lo2 M2 j then ρv j else ρ1 j)=_
 cases hq:inM lo2 M2 j with
 | false=>exact h j hj
 | true =>
  exfalso
  unfold inM at hq
  rw [Bool.or_eq_true] at hq
  rcases hq with hq|hq
  ·have h1:=Nat.le_of_ble_eq_true hq
   have h2:=Nat.le_of_ble_eq_true hb.1
   have h3:Nat.ble lo j=true:=Nat.ble_eq_true_of_le (by omega)
   unfold inM at hj
   rw [h3] at hj
   cases hj
  ·have h1:j∈M2:=by simpa using hq
   have h2:=List.all_eq_true.1 hb.2 j h1
   rw [hj] at h2
   cases h2

theorem sub_skip {a b:List Value} {n k m:Nat} (h:a.length=n):sub (a++b) (n+k) m=sub b k m:=by
 subst h
 unfold sub
 rw [List.drop_append,List.drop_eq_nil_of_le (by omega),Nat.add_sub_cancel_left,List.nil_append]
theorem sub_head {a b:List Value} {m:Nat} (h:a.length=m):sub (a++b) 0 m=a:=by
 subst h
 simp [sub]
theorem sa {a:List Value} {m:Nat} (h:a.length=m):sub a 0 m=a:=by
 subst h
 simp [sub]
theorem sub_sub {c:List Value} {a m b k:Nat} (h:b+k<=m):sub (sub c a m) b k=sub c (a+b) k:=by
 unfold sub
 rw [List.drop_take,List.take_take,List.drop_drop,Nat.min_eq_left (by omega)]
theorem sub_get {c:List Value} {a:Nat} {v:Value} (h:sub c a 1=[v]):c[a]?=some v:=by
 have h0:(sub c a 1)[0]?=some v:=by rw [h];rfl
 unfold sub at h0
 rwa [List.getElem?_take_of_lt (by omega),List.getElem?_drop,Nat.add_zero] at h0
theorem len_sub {c:List Value} {a m:Nat} (h:a+m<=c.length):(sub c a m).length=m:=by
 unfold sub
 rw [List.length_take,List.length_drop];omega
theorem sub_len {c:List Value} {a m:Nat} (h:(sub c a m).length=m) (hm:0<m):a+m<=c.length:=by
 unfold sub at h
 rw [List.length_take,List.length_drop] at h;omega
def Lens {α:Type} (R:Rep α) (m:Nat):Prop:=∀(W:World) (S:Nat->Prop) (cs:List Value) (a:α),R W S cs a->cs.length=m
theorem lens_I:Lens RI 1:=fun _ _ _ _ h=>by rw [h.1];rfl
theorem lens_A {m:Nat}:Lens (RA m) m:=fun _ _ _ _ h=>by rw [h.1,List.length_map,h.2]
theorem get_lt {α:Type} {l:List α} {i:Nat} (h:i<l.length):∃x,l[i]?=some x:=⟨l[i],List.getElem?_eq_getElem h⟩
theorem take_get {α:Type} {l:List α} {i:Nat} {x:α} (h:l[i]?=some x):l.take (i+1)=l.take i++[x]:=by rw [List.take_add_one,h];rfl

section
variable {P:Program} {o:Oper} {n:Nat} {ρ:Nat->Value} {W w0:World} {v:Value} {x y:Operand} {t t' e:TypeId} {k:IntKind} {g i q s m c off a0:Nat} {a:Int} {S T:Nat->Prop} {xs L cs:List Value} {LF:List Fact}
theorem dG (ho:o.op=.indexAddr t x y) (hr:Rd W S s (some ⟨g,i,none⟩) m xs) (hx:ev n ρ x=.slice (some ⟨g,i,none⟩) m c) (hy:ev n ρ y=.int k a) (ha:a=(q:Int)) (hq:q<m) (hu:P.underlying t=some (.slice e)) (hs:(P.info? e).map (·.size)=some s) :
  Runs P n ρ o W (.pointer (some ⟨g,i+q*s,none⟩)) W:=by
 have:=d_iaS ho hr hx hy ha hq hu hs
 rwa [Option.map_some,Addr.add_mid] at this
theorem dE (ho:o.op=.load t x) (hr:Rd W S s (some ⟨g,i,none⟩) m xs) (hq:q<m) (hL:sub xs (q*s) s=L) (hv:sub L off 1=[v]) (hs:Nat.blt off s=true) (hx:ev n ρ x=.pointer (some ⟨g,a0,none⟩)) (ha:a0=i+(q*s+off)) (hg:aggB P t=some false):Runs P n ρ o W v W:=by
 subst hL ha
 have hs':off<s:=by rwa [Nat.blt_eq] at hs
 obtain ⟨g',o',he,_,hc⟩:=hr.2 (by omega)
 cases he
 rw [sub_sub (by omega)] at hv
 exact d_ldC ho hx hg (hc _ _ (sub_get hv))
theorem dN (ho:o.op=.load t x) (hr:Rd W S s (some ⟨g,i,none⟩) m xs) (hq:q<m) (hL:sub xs (q*s) s=L) {j:Nat} (hv:sub L off j=cs) (hs:Nat.ble (off+j) s=true) (hx:ev n ρ x=.pointer (some ⟨g,a0,none⟩)) (ha:a0=i+(q*s+off)) (hg:aggB P t=some true) (hsz:(P.info? t).map (·.size)=some j):Runs P n ρ o W (.agg cs.toArray) W:=by
 subst hL ha hv
 have hs':=Nat.le_of_ble_eq_true hs
 obtain ⟨g',o',he,_,hc⟩:=hr.2 (by omega)
 cases he
 rw [sub_sub hs']
 have hl:=hr.1
 have hq2:q*s+s<=xs.length:=by
  rw [hl]
  have:=Nat.mul_le_mul_right s (show q+1<=m by omega)
  rw [Nat.add_mul] at this;omega
 refine d_ldmC (g:=g) (i:=i+(q*s+off)) ho hx hg hsz (len_sub (by omega)) (fun d u hu=>?_)
 unfold sub at hu
 rw [List.getElem?_take] at hu
 split at hu
 ·rw [List.getElem?_drop] at hu
  rw [Nat.add_assoc]
  exact hc _ _ hu
 ·cases hu
theorem dX (ho:o.op=.load t x) (H:St T w0 W LF) [hb:Blk g LF L t'] (hv:sub L off 1=[v]) (hx:ev n ρ x=.pointer (some ⟨g,a0,none⟩)) (ha:a0=off) (hg:aggB P t=some false):Runs P n ρ o W v W:=by
 subst ha
 exact d_ld ho H hx hg (hb:=hb) (sub_get hv)
theorem dM (ho:o.op=.load t x) (H:St T w0 W LF) [hb:Blk g LF L t'] {j:Nat} (hv:sub L off j=cs) (hl:cs.length=j) (hj:Nat.blt 0 j=true) (hx:ev n ρ x=.pointer (some ⟨g,a0,none⟩)) (ha:a0=off) (hg:aggB P t=some true) (hsz:(P.info? t).map (·.size)=some j):Runs P n ρ o W (.agg cs.toArray) W:=by
 subst ha hv
 exact d_ldm ho H hx hg hsz (hb:=hb) (Nat.ble_eq_true_of_le (sub_len hl (by rwa [Nat.blt_eq] at hj)))
end
end Go.Proofs.YtjjodibkmeefpaaGreatDoor

namespace Go.Proofs.YtjjodibkmeefpaaGreatDoor
open Go Go.RowKit

section
variable {P:Program} {ops:Array Oper} {Q:Exit->Act->World->Prop} {o:Oper} {n:Nat} {ρ:Nat->Value} {ds:List Deferred} {W w0:World} {K:Act->World->Prop} {T:Nat->Prop} {L L':List Fact} {x y:Operand} {v:Value} {t t' e dT sT:TypeId} {g i m off a0 gs os dl dc sl sc:Nat} {c cs xs:List Value} {d:Tmp} {S:Nat->Prop}
theorem d_ldGM (ho:o.op=.load t x) (hg:Gat W g c) (hv:sub c off m=cs) (hl:cs.length=m) (hm:Nat.blt 0 m=true) (hx:ev n ρ x=.pointer (some ⟨g,a0,none⟩)) (ha:a0=off) (hag:aggB P t=some true) (hsz:(P.info? t).map (·.size)=some m):Runs P n ρ o W (.agg cs.toArray) W:=by
 subst ha hv
 exact d_ldmG ho hg hx hag hsz (Nat.ble_eq_true_of_le (sub_len hl (by rwa [Nat.blt_eq] at hm)))
theorem d_nearr {a b:List UInt8} (ho:o.op=.binOp .neq t x y t') (hx:ev n ρ x=.agg (a.map u8v).toArray) (hy:ev n ρ y=.agg (b.map u8v).toArray) (hu:P.underlying t=some (.array m e)) (he:P.underlying e=some (.int .u8)) (hs:(P.info? e).map (·.size)=some 1) (ha:a.length=m) (hb:b.length=m) (hm:P.eqGuardType P.depth t=false):Runs P n ρ o W (.bool (!(a == b))) W:=by
 have h:(Op.equalIn 10000 t (.agg (a.map u8v).toArray) (.agg (b.map u8v).toArray)).run P W=.ok (a == b) W:=run_equalIn_bytes (P:=P) W 9998 t e m hu he (run_size hs) a b ha hb
 have hg:=run_eqGuard_agg (P:=P) W .neq t x y (a.map u8v).toArray (b.map u8v).toArray hm
 have h2:(binOp .neq t (.agg (a.map u8v).toArray) (.agg (b.map u8v).toArray)).run P W=.ok (.bool (!(a == b))) W:=by
  simp only [binOp]
  simp [Op.equal,Op.maxDepth,h]
 unfold Runs execOp
 simp only [ho,hx,hy,hg,Sem.run_bind,Sem.run_pure,Result.andThen_ok,h2]
theorem setRow_fr (w:World) (g:Nat) (cs:Array Value):Fr (·=g) w (w.setRow g cs):=⟨rfl,rfl,rfl,by simp [World.setRow],fun k _ hn=>setRow_other w g k cs hn⟩
theorem e_copy (c':List Value) (hw:Region.wanted o (yielded ops (st n ρ ds).tmps)=true) (hd:o.dst=some d) (ho:o.op=.call { callee:=.builtin .copy,args:=#[x,y],argTypes:=#[dT,sT] }) (hu:P.underlying dT=some (.slice e)) (hs:(P.info? e).map (·.size)=some 1)
  (hx:ev n ρ x=.slice (some ⟨g,off,none⟩) dl dc) (hy:ev n ρ y=.slice (some ⟨gs,os,none⟩) sl sc) (H:St T w0 W L) [hb:Blk g L c t'] (hr:Rd W S 1 (some ⟨gs,os,none⟩) sl xs) (hm:min sl dl=m) (hm0:0<m) (hfit:off+m<=c.length) (h1:xs.all (·.oneCell')=true) (hc:spl c off (xs.take m)=c') [ht:Turn (Fact.blk g c t') (Fact.blk g c' t') L L']
  (k:∀W',St T w0 W' L'->K (st n (upd ρ d (.int .i64 (m:Int))) ds) W'):Step P ops Q o (st n ρ ds) W K:=by
 have hxl:xs.length=sl:=by rw [hr.1,Nat.mul_one]
 have hml:(xs.take m).length=m:=by rw [List.length_take];omega
 obtain ⟨g',o',he,_,hcell⟩:=hr.2 (by omega)
 cases he
 have hrun:=run_copy_row (P:=P) W dT sT o.type e g off dl dc ⟨gs,os,none⟩ sl sc c.toArray t' (xs.take m) hu hs H.blk (by rw [hml,←hm]) (fun j v hv=>by
  rw [List.getElem?_take] at hv
  split at hv
  ·rw [Addr.add_mid];exact hcell j v hv
  ·cases hv) (by rw [hml];simpa using hfit) (fun v hv=>List.all_eq_true.1 h1 v (List.mem_of_mem_take hv))
 rw [hml] at hrun
 have hce:c.take off++xs.take m++c.drop (off+m)=c':=by
  rw [←hc,spl_len _ _ _ (by rw [hml];exact hfit),hml]
 refine e_run hw hd (v:=.int .i64 (m:Int)) (W':=W.setRow g c'.toArray) ?_ (k _ (H.turn (f:=Fact.blk g c t') (f':=Fact.blk g c' t') (setRow_fr W g c'.toArray) (setRow_heap W g c.toArray c'.toArray t' (0,0) H.blk) (fun g hg=>.inl hg)))
 unfold Runs execOp
 simp only [ho,resolve,invoke,builtin,Sem.run_bind,Sem.run_pure,Result.andThen_ok,List.map_toArray,List.map_cons,List.map_nil,hx,hy]
 rw [show (c.toArray.toList.take off++xs.take m++c.toArray.toList.drop (off+m)).toArray=c'.toArray by rw [←hce]] at hrun
 rw [hrun]
 rfl
end
inductive Tr where
 | nil
 | rd (i:Nat) (t:Tr)
 | ef (i:Nat) (t:Tr)
 | many (n:Nat) (rs:List Nat) (f:Nat->Tr)
def Tr.len:Tr->Nat
 | .nil=>0
 | .rd _ t=>t.len+1
 | .ef _ t=>t.len+1
 | .many n _ _=>n+1
def canT (md:Region.Mode) (ops:Array Oper):Tr->Array Bool->Bool
 | .nil,listed=>(Region.ready md ops listed).isEmpty
 | .rd i t,listed=>((Region.ready md ops listed).contains i && Region.free md ops listed i) && canT md ops t (listed.setIfInBounds i true)
 | .ef i t,listed=>(Region.ready md ops listed == [i]) && canT md ops t (listed.setIfInBounds i true)
 | .many n rs f,listed=>(Region.ready md ops listed == rs) && (!rs.isEmpty && rs.all fun j=>((f j).len == n) && canT md ops (f j) (listed.setIfInBounds j true))
def wpT (P:Program) (ops:Array Oper) (Q:Exit->Act->World->Prop):Tr->(World->Prop)->Act->World->Prop
 | .nil,_,a,w=>Q .normal a w
 | .rd i t,S,a,w=>∃o v,ops[i]?=some o∧YieldsIf P ops S o v a∧wpT P ops Q t S (a.put o.dst v) w
 | .ef i t,S,a,w=>wpOp P ops Q i (fun a' w'=>∃S':World->Prop,(∀W,S' W->S W)∧S' w'∧wpT P ops Q t S' a' w') a w
 | .many _ rs f,S,a,w=>∀j∈rs,wpOp P ops Q j (fun a' w'=>∃S':World->Prop,(∀W,S' W->S W)∧S' w'∧wpT P ops Q (f j) S' a' w') a w
section
variable {P:Program} {ops:Array Oper} {Q:Exit->Act->World->Prop} {md:Region.Mode}
theorem wpAnyH_mono {S S':World->Prop} (hS:∀w,S' w->S w):∀(fuel:Nat) (listed:Array Bool) (a:Act) (w:World),wpAnyH P md ops Q S' fuel listed a w->wpAnyH P md ops Q S fuel listed a w
 | 0,_,_,_,h=>h
 | fuel+1,_,_,_,h=>⟨h.1,fun i hi=>wpOp_mono (fun a' w' h'=>⟨hS _ h'.1,wpAnyH_mono hS fuel _ a' w' h'.2⟩) (h.2 i hi)⟩
theorem wpT_sound (hsel:Region.noSelect ops=true) (hQ:∀c a d v w,Q (.panic c) (Act.put a d v) w->Q (.panic c) a w):∀(l:Tr) (S:World->Prop) (listed:Array Bool) (a:Act) (w:World),
  canT md ops l listed=true->S w->wpT P ops Q l S a w->wpAnyH P md ops Q S l.len listed a w
 | .nil,S,listed,a,w,hB,_,h=>wpAnyH_done (by simpa [canT] using hB) h 0
 | .rd i t,S,listed,a,w,hB,hS,h=>by
  obtain ⟨o,v,hi,hy,h⟩:=h
  simp only [canT,Bool.and_eq_true] at hB
  exact wpAnyH_take hi hsel hB.1.2 hB.1.1 (fun c a w=>hQ c a o.dst v w) hy hS (wpT_sound hsel hQ t S _ _ _ hB.2 hS h)
 | .ef i t,S,listed,a,w,hB,hS,h=>by
  simp only [canT,Bool.and_eq_true,beq_iff_eq] at hB
  refine wpAnyH_all (rs:=[i]) hB.1 (by simp) (fun j hj=>?_)
  obtain rfl:j=i:=by simpa using hj
  refine wpOp_mono (fun a' w' h'=>?_) h
  obtain ⟨S',h1,h2,h3⟩:=h'
  exact ⟨h1 _ h2,wpAnyH_mono h1 _ _ _ _ (wpT_sound hsel hQ t S' _ _ _ hB.2 h2 h3)⟩
 | .many n rs f,S,listed,a,w,hB,hS,h=>by
  simp only [canT,Bool.and_eq_true,beq_iff_eq,List.all_eq_true] at hB
  refine wpAnyH_all (rs:=rs) hB.1 (by have:=hB.2.1;intro e;subst e;simp at this) (fun q hq=>?_)
  refine wpOp_mono (fun a' w' h'=>?_) (h q hq)
  have hq2:=hB.2.2 q hq
  obtain ⟨S',h1,h2,h3⟩:=h'
  have:=wpT_sound hsel hQ (f q) S' _ _ _ hq2.2 h2 h3
  rw [hq2.1] at this
  exact ⟨h1 _ h2,wpAnyH_mono h1 _ _ _ _ this⟩
end
section
variable {P:Program} {Q:Exit->Act->World->Prop} {cs:List Code} {n:Nat} {ρ:Nat->Value} {ds:List Deferred} {w w0:World} {T:Nat->Prop} {L:List Fact}
theorem k_drawT {id:Nat} {l:List Oper} (order:Tr) (Lc:List Fact) (hm:P.follows .mixedOrders=true) (hB:(Region.noSelect l.toArray && (order.len == l.length) && canT .any l.toArray order (Array.replicate l.toArray.size false))=true) (H:St T w0 w L) (hs:Lc.Sublist L)
  (k:∀W,St T w0 W L->wpT P l.toArray (NoPan (Exit.then (wpK P Q cs) Q)) order (fun W=>St T w0 W Lc) (st n ρ ds) W):wpK P Q (.region id l.toArray true::cs) (st n ρ ds) w:=by
 simp only [Bool.and_eq_true,beq_iff_eq] at hB
 obtain ⟨⟨h1,h2⟩,h3⟩:=hB
 have hN:(Code.region id l.toArray true).wp P (NoPan (Exit.then (wpK P Q cs) Q)) (st n ρ ds) w:=by
  refine wp_region_held (S:=fun W=>St T w0 W Lc) hm ?_
  have:=wpT_sound (P:=P) (md:=.any) (Q:=NoPan (Exit.then (wpK P Q cs) Q)) h1 (fun c a d v w h=>absurd rfl (h.1 c)) order (fun W=>St T w0 W Lc) (Array.replicate l.toArray.size false) (st n ρ ds) w.drew h3 (H.drew.sub hs) (k _ H.drew)
  rw [h2] at this
  simpa using this
 exact Code.wp_mono (fun _ _ _ h=>h.2) hN
theorem k_cut {c:Code} (lo:Nat) (M:List Nat) (J:List (Nat × Value)->World->Prop)
  (h:wpK P (Exit.then (fun a w=>∃l ρ',a=st n ρ' ds∧Eqo lo M ρ ρ'∧slotsOk ρ' l∧J l w) Q) [c] (st n ρ ds) w)
  (rest:∀l ρv w,J l w->wpK P Q cs (st n (updl (ovr lo M ρ ρv) l) ds) w):wpK P Q (c::cs) (st n ρ ds) w:=by
 refine Code.wp_mono (fun e a w q=>?_) (ko h)
 cases e with
 | normal =>
  obtain ⟨l,ρ',rfl,hE,hs,hJ⟩:=q
  have:=rest l ρ' w hJ
  rwa [←hE.frame l hs.mem] at this
 | _=>exact q
theorem n_then {next:Act->World->Prop} {a:Act} (h:next a w):Exit.then next Q .normal a w:=h
end
section
variable {P:Program} {ops:Array Oper} {S:World->Prop} {Q:Exit->Act->World->Prop} {n:Nat} {ρ:Nat->Value} {ds:List Deferred} {W:World} {l:Tr} {i:Nat} {o:Oper} {d:Tmp} {v:Value} {next:Act->World->Prop} {a:Act}
theorem t_nil (h:next a W):wpT P ops (NoPan (Exit.then next Q)) .nil S a W:=⟨fun _ h=>(by cases h),h⟩
theorem t_run (hi:ops[i]?=some o) (hw:Region.wanted o (yielded ops (st n ρ ds).tmps)=true) (hd:o.dst=some d) (h:∀W,S W->Runs P n ρ o W v W) (k:wpT P ops Q l S (st n (upd ρ d v) ds) W):wpT P ops Q (.rd i l) S (st n ρ ds) W :=
 ⟨o,v,hi,.inl ⟨hw,fun W hS=>by rw [st_eval];exact h W hS⟩,by rw [hd,st_put];exact k⟩
theorem t_skip (hi:ops[i]?=some o) (hw:Region.wanted o (yielded ops (st n ρ ds).tmps)=false) (hd:o.dst=some d) (k:wpT P ops Q l S (st n (upd ρ d undef) ds) W):wpT P ops Q (.rd i l) S (st n ρ ds) W :=
 ⟨o,undef,hi,.inr ⟨hw,rfl⟩,by rw [hd,st_put];exact k⟩
theorem tf (hi:ops[i]?=some o) (h:Step P ops Q o a W (fun a' w'=>∃S':World->Prop,(∀W,S' W->S W)∧S' w'∧wpT P ops Q l S' a' w')):wpT P ops Q (.ef i l) S a W:=by
 unfold wpT wpOp
 simp only [hi]
 rw [if_pos h.1]
 exact .inl h.2
theorem t_none {m:Nat} {f:Nat->Tr}:wpT P ops Q (.many m [] f) S a W:=fun _ h=>by cases h
theorem t_each {m:Nat} {rs:List Nat} {f:Nat->Tr} (h1:wpT P ops Q (.ef i (f i)) S a W) (h2:wpT P ops Q (.many m rs f) S a W):wpT P ops Q (.many m (i::rs) f) S a W:=fun q hq=>by
 rcases List.mem_cons.1 hq with rfl|hq
 ·exact h1
 ·exact h2 q hq
end
end Go.Proofs.YtjjodibkmeefpaaGreatDoor

namespace Go.Proofs.YtjjodibkmeefpaaGreatDoor
open Go Go.RowKit

def EqT (P:Program) (d:Nat) (t:TypeId) (a b:Value) (r:Bool):Prop:=∀W,(Op.equalIn d t a b).run P W=.ok r W
section
variable {P:Program} {d off m:Nat} {t e:TypeId} {c c':List Value} {a b:Value} {r r2:Bool}
def PartT (P:Program) (e:TypeId) (c:List Value) (off:Nat) (v:Value):Prop:=∀W,(part e c.toArray off).run P W=.ok v W
theorem part_1 (ha:aggB P e=some false) (hv:sub c off 1=[a]):PartT P e c off a:=fun W=>by
 have hc:c.toArray[off]?=some a:=by simpa using sub_get hv
 simp [part,run_isAgg ha W,hc]
theorem part_M (ha:aggB P e=some true) (hs:(P.info? e).map (·.size)=some m):PartT P e c off (.agg (sub c off m).toArray):=fun W=>by
 cases hi:P.info? e with
 | none=>rw [hi] at hs;cases hs
 | some i =>
  have hs':i.size=m:=by simpa [hi] using hs
  simp [part,run_isAgg ha W,sizeOf,typeInfo,hi,hs',sub]
theorem eq_i {k k':IntKind} {x y:Int} (hu:P.underlying t=some (.int k')):EqT P (d+1) t (.int k x) (.int k y) (x == y):=fun W=>run_equalIn_int W d t k k' x y hu
theorem eq_u8s {x y:List UInt8} (hu:P.underlying t=some (.array m e)) (he:P.underlying e=some (.int .u8)) (hs:(P.info? e).map (·.size)=some 1) (hx:x.length=m) (hy:y.length=m):EqT P (d+2) t (.agg (x.map u8v).toArray) (.agg (y.map u8v).toArray) (x == y):=fun W=>run_equalIn_bytes (P:=P) W d t e m hu he (run_size hs) x y hx hy
theorem part_Me {cs:List Value} (ha:aggB P e=some true) (hs:(P.info? e).map (·.size)=some m) (hv:sub c off m=cs):PartT P e c off (.agg cs.toArray):=hv ▸ part_M ha hs
def EqF (P:Program) (d:Nat) (c c':List Value) (fs:List Field) (r:Bool):Prop:=∀W,(Op.eqFields d c.toArray c'.toArray fs).run P W=.ok r W
theorem eqf_nil:EqF P d c c' [] true:=fun W=>rfl
theorem eqf_cons {f : Field} {fs : List Field} (hn : (f.name != "_") = true) (ha : PartT P f.type c f.offset a) (hb : PartT P f.type c' f.offset b) (h : EqT P d f.type a b r) (h2 : EqF P d c c' fs r2) : EqF P d c c' (f :: fs) (r && r2) := fun W => by
 have hn' : f.name ≠ "_" := by simpa using hn
 unfold Op.eqFields
 rw [if_pos hn']
 simp only [Sem.run_bind,ha W,hb W,h W,Result.andThen_ok]
 cases r with
 | false=>rfl
 | true=>simpa using h2 W
theorem eq_st {fs:List Field} (ht:P.underlying t=some (.struct (P.fieldsOf t))) (hf:(P.fieldsOf t).toList=fs) (hp:P.stoodInHeld t=false) (h:EqF P d c c' fs r):EqT P (d+1) t (.agg c.toArray) (.agg c'.toArray) r:=fun W=>by
 rw [run_equalIn_struct W d t _ _ ht hp,hf]
 exact h W
end
section
variable {P:Program} {o:Oper} {n:Nat} {ρ:Nat->Value} {W:World} {t t':TypeId} {x y:Operand} {c c':Array Value} {r:Bool}
theorem d_eqst (ho:o.op=.binOp .eql t x y t') (hx:ev n ρ x=.agg c) (hy:ev n ρ y=.agg c') (h:EqT P 10000 t (.agg c) (.agg c') r) (hm:P.eqGuardType P.depth t=false):Runs P n ρ o W (.bool r) W:=by
 have hg:=run_eqGuard_agg (P:=P) W .eql t x y c c' hm
 have h1:=h W
 have h2:(binOp .eql t (.agg c) (.agg c')).run P W=.ok (.bool r) W:=by
  simp only [binOp]
  simp [Op.equal,Op.maxDepth,h1]
 unfold Runs execOp
 simp only [ho,hx,hy,hg,Sem.run_bind,Sem.run_pure,Result.andThen_ok,h2]
theorem d_nest (ho:o.op=.binOp .neq t x y t') (hx:ev n ρ x=.agg c) (hy:ev n ρ y=.agg c') (h:EqT P 10000 t (.agg c) (.agg c') r) (hm:P.eqGuardType P.depth t=false):Runs P n ρ o W (.bool (!r)) W:=by
 have hg:=run_eqGuard_agg (P:=P) W .neq t x y c c' hm
 have h1:=h W
 have h2:(binOp .neq t (.agg c) (.agg c')).run P W=.ok (.bool (!r)) W:=by
  simp only [binOp]
  simp [Op.equal,Op.maxDepth,h1]
 unfold Runs execOp
 simp only [ho,hx,hy,hg,Sem.run_bind,Sem.run_pure,Result.andThen_ok,h2]
end
end Go.Proofs.YtjjodibkmeefpaaGreatDoor

namespace Go.Proofs.YtjjodibkmeefpaaGreatDoor
open Go Go.RowKit
namespace Pk
def blob (p:List UInt8):List UInt8:=int p.length++p
end Pk
end Go.Proofs.YtjjodibkmeefpaaGreatDoor

namespace Go.Proofs.YtjjodibkmeefpaaGreatDoor
open Go Go.RowKit
universe u

theorem U {α:Sort u} {a:α}:a=a:=rfl
section
variable {P:Program} {ops:Array Oper} {S:World->Prop} {Q:Exit->Act->World->Prop} {rest:List Oper} {l:List (Nat × Bool)} {i:Nat} {op:Op} {n:Nat} {ρ:Nat->Value} {ds:List Deferred} {W W' w0:World} {d:Tmp} {v:Value} {x y z:Operand} {ty:TypeId} {pos:String} {af:Array Edge} {A:Option Addr} {m c g off:Nat} {k:IntKind} {a b:Int} {t t' e:TypeId} {T:Nat->Prop} {L L':List Fact} {K:Act->World->Prop} {vs:List Value} {w:World} {cs:List Code} {q r:Bool} {f:Fn} {u p:Array Value}
theorem sR (h:Runs P n ρ ⟨some d,op,ty,pos,af,none⟩ W v W') (k:wpList P ops Q rest (st n (upd ρ d v) ds) W'):wpList P ops Q (⟨some d,op,ty,pos,af,none⟩::rest) (st n ρ ds) W:=sr (wn rfl) rfl h k
theorem cR (hi:ops[i]?=some ⟨some d,op,ty,pos,af,none⟩) (h:∀W,S W->Runs P n ρ ⟨some d,op,ty,pos,af,none⟩ W v W) (k:wpC P ops S Q l (st n (upd ρ d v) ds) W):wpC P ops S Q ((i,true)::l) (st n ρ ds) W:=c_run hi (wn rfl) rfl h k
theorem tR {l:Tr} (hi:ops[i]?=some ⟨some d,op,ty,pos,af,none⟩) (h:∀W,S W->Runs P n ρ ⟨some d,op,ty,pos,af,none⟩ W v W) (k:wpT P ops Q l S (st n (upd ρ d v) ds) W):wpT P ops Q (.rd i l) S (st n ρ ds) W:=t_run hi (wn rfl) rfl h k
theorem sMi (hx:ev n ρ x=.int k a) (h:wpList P ops Q rest (st n (upd ρ d (.int k a)) ds) W):wpList P ops Q (⟨some d,.move x,ty,pos,af,none⟩::rest) (st n ρ ds) W:=sR (mv_i rfl hx) h
theorem sAi (hx:ev n ρ x=.int k a) (h:wpList P ops Q rest (st n (upd ρ d (.int k a)) ds) W):wpList P ops Q (⟨some d,.assign x,ty,pos,af,none⟩::rest) (st n ρ ds) W:=sR (as_i rfl hx) h
theorem cMi (hi:ops[i]?=some ⟨some d,.move x,ty,pos,af,none⟩) (hx:ev n ρ x=.int k a) (h:wpC P ops S Q l (st n (upd ρ d (.int k a)) ds) W):wpC P ops S Q ((i,true)::l) (st n ρ ds) W:=cR hi (fun W _=>mv_i rfl hx) h
theorem cAi (hi:ops[i]?=some ⟨some d,.assign x,ty,pos,af,none⟩) (hx:ev n ρ x=.int k a) (h:wpC P ops S Q l (st n (upd ρ d (.int k a)) ds) W):wpC P ops S Q ((i,true)::l) (st n ρ ds) W:=cR hi (fun W _=>as_i rfl hx) h
theorem sMs (hx:ev n ρ x=.slice A m c) (h:wpList P ops Q rest (st n (upd ρ d (.slice A m c)) ds) W):wpList P ops Q (⟨some d,.move x,ty,pos,af,none⟩::rest) (st n ρ ds) W:=sR (mv_s rfl hx) h
theorem sAs (hx:ev n ρ x=.slice A m c) (h:wpList P ops Q rest (st n (upd ρ d (.slice A m c)) ds) W):wpList P ops Q (⟨some d,.assign x,ty,pos,af,none⟩::rest) (st n ρ ds) W:=sR (as_s rfl hx) h
theorem cMs (hi:ops[i]?=some ⟨some d,.move x,ty,pos,af,none⟩) (hx:ev n ρ x=.slice A m c) (h:wpC P ops S Q l (st n (upd ρ d (.slice A m c)) ds) W):wpC P ops S Q ((i,true)::l) (st n ρ ds) W:=cR hi (fun W _=>mv_s rfl hx) h
theorem cAs (hi:ops[i]?=some ⟨some d,.assign x,ty,pos,af,none⟩) (hx:ev n ρ x=.slice A m c) (h:wpC P ops S Q l (st n (upd ρ d (.slice A m c)) ds) W):wpC P ops S Q ((i,true)::l) (st n ρ ds) W:=cR hi (fun W _=>as_s rfl hx) h
theorem sMp (hx:ev n ρ x=.pointer A) (h:wpList P ops Q rest (st n (upd ρ d (.pointer A)) ds) W):wpList P ops Q (⟨some d,.move x,ty,pos,af,none⟩::rest) (st n ρ ds) W:=sR (mv_p rfl hx) h
theorem sAp (hx:ev n ρ x=.pointer A) (h:wpList P ops Q rest (st n (upd ρ d (.pointer A)) ds) W):wpList P ops Q (⟨some d,.assign x,ty,pos,af,none⟩::rest) (st n ρ ds) W:=sR (as_p rfl hx) h
theorem cMp (hi:ops[i]?=some ⟨some d,.move x,ty,pos,af,none⟩) (hx:ev n ρ x=.pointer A) (h:wpC P ops S Q l (st n (upd ρ d (.pointer A)) ds) W):wpC P ops S Q ((i,true)::l) (st n ρ ds) W:=cR hi (fun W _=>mv_p rfl hx) h
theorem cAp (hi:ops[i]?=some ⟨some d,.assign x,ty,pos,af,none⟩) (hx:ev n ρ x=.pointer A) (h:wpC P ops S Q l (st n (upd ρ d (.pointer A)) ds) W):wpC P ops S Q ((i,true)::l) (st n ρ ds) W:=cR hi (fun W _=>as_p rfl hx) h
theorem sMb (hx:ev n ρ x=.bool q) (h:wpList P ops Q rest (st n (upd ρ d (.bool q)) ds) W):wpList P ops Q (⟨some d,.move x,ty,pos,af,none⟩::rest) (st n ρ ds) W:=sR (mv_b rfl hx) h
theorem sAb (hx:ev n ρ x=.bool q) (h:wpList P ops Q rest (st n (upd ρ d (.bool q)) ds) W):wpList P ops Q (⟨some d,.assign x,ty,pos,af,none⟩::rest) (st n ρ ds) W:=sR (as_b rfl hx) h
theorem sMt (hx:ev n ρ x=.tuple u) (h:wpList P ops Q rest (st n (upd ρ d (.tuple u)) ds) W):wpList P ops Q (⟨some d,.move x,ty,pos,af,none⟩::rest) (st n ρ ds) W:=sR (mv_t rfl hx) h
theorem sMf (hx:ev n ρ x=.func f p u) (h:wpList P ops Q rest (st n (upd ρ d (.func f p u)) ds) W):wpList P ops Q (⟨some d,.move x,ty,pos,af,none⟩::rest) (st n ρ ds) W:=sR (mv_f rfl hx) h
theorem sFa {j c:Nat} {e:TypeId} (hx:ev n ρ x=.pointer (some ⟨g,off,none⟩)) (hf:fOff P t j=some (c,e)) (h:wpList P ops Q rest (st n (upd ρ d (.pointer (some ⟨g,off+c,none⟩))) ds) W):wpList P ops Q (⟨some d,.fieldAddr t x j,ty,pos,af,none⟩::rest) (st n ρ ds) W:=sR (dF rfl hx hf) h
theorem sLn (hx:ev n ρ x=.slice A m c) (hu:P.underlying t=some (.slice e)) (h:wpList P ops Q rest (st n (upd ρ d (.int .i64 (m:Int))) ds) W):wpList P ops Q (⟨some d,.call { callee:=.builtin .len,args:=#[x],argTypes:=#[t] },ty,pos,af,none⟩::rest) (st n ρ ds) W:=sR (d_len rfl hx hu) h
theorem sLt (hx:ev n ρ x=.int k a) (hy:ev n ρ y=.int k b) (h:wpList P ops Q rest (st n (upd ρ d (.bool (decide (a<b)))) ds) W):wpList P ops Q (⟨some d,.binOp .lss t x y t',ty,pos,af,none⟩::rest) (st n ρ ds) W:=sR (d_lt rfl hx hy) h
theorem sEq (hx:ev n ρ x=.int k a) (hy:ev n ρ y=.int k b) (h:wpList P ops Q rest (st n (upd ρ d (.bool (a == b))) ds) W):wpList P ops Q (⟨some d,.binOp .eql t x y t',ty,pos,af,none⟩::rest) (st n ρ ds) W:=sR (d_eq rfl hx hy) h
theorem sNe (hx:ev n ρ x=.int k a) (hy:ev n ρ y=.int k b) (h:wpList P ops Q rest (st n (upd ρ d (.bool (a != b))) ds) W):wpList P ops Q (⟨some d,.binOp .neq t x y t',ty,pos,af,none⟩::rest) (st n ρ ds) W:=sR (d_ne rfl hx hy) h
theorem sAd (hx:ev n ρ x=.int .i64 a) (hy:ev n ρ y=.int .i64 b) (hr : -9223372036854775808<=a+b∧a+b<=9223372036854775807) (h:wpList P ops Q rest (st n (upd ρ d (.int .i64 (a+b))) ds) W):wpList P ops Q (⟨some d,.binOp .add t x y t',ty,pos,af,none⟩::rest) (st n ρ ds) W:=sR (d_add rfl hx hy hr) h
theorem sPT (hx:ev n ρ x=.bool true) (hy:ev n ρ y=.bool q) (h:wpList P ops Q rest (st n (upd ρ d (.bool q)) ds) W):wpList P ops Q (⟨some d,.pick x y z,ty,pos,af,none⟩::rest) (st n ρ ds) W:=sR (d_pickT rfl hx hy) h
theorem sPF (hx:ev n ρ x=.bool false) (hy:ev n ρ z=.bool q) (h:wpList P ops Q rest (st n (upd ρ d (.bool q)) ds) W):wpList P ops Q (⟨some d,.pick x y z,ty,pos,af,none⟩::rest) (st n ρ ds) W:=sR (d_pickF rfl hx hy) h
theorem sBt (hx:ev n ρ x=.bool q) (hb:q=true) (h:wpList P ops Q rest (st n (upd ρ d (.bool true)) ds) W):wpList P ops Q (⟨some d,.move x,ty,pos,af,none⟩::rest) (st n ρ ds) W:=sR (mv_bx rfl hx hb) h
theorem sBf (hx:ev n ρ x=.bool q) (hb:q=false) (h:wpList P ops Q rest (st n (upd ρ d (.bool false)) ds) W):wpList P ops Q (⟨some d,.move x,ty,pos,af,none⟩::rest) (st n ρ ds) W:=sR (mv_bx rfl hx hb) h
theorem sLd {i:Nat} {C:List Value} (H:St T w0 W L) (hx:ev n ρ x=.pointer (some ⟨g,i,none⟩)) (ha:aggB P t=some false) [hb:Blk g L C t'] (hc:C[i]?=some v) (h:wpList P ops Q rest (st n (upd ρ d v) ds) W):wpList P ops Q (⟨some d,.load t x,ty,pos,af,none⟩::rest) (st n ρ ds) W:=sR (d_ld rfl H hx ha hc) h
theorem sEx {j:Nat} (hx:ev n ρ x=.tuple u) (hi:u[j]?=some v) (h:wpList P ops Q rest (st n (upd ρ d v) ds) W):wpList P ops Q (⟨some d,.extract x j,ty,pos,af,none⟩::rest) (st n ρ ds) W:=sR (d_ext rfl hx hi) h
theorem cFa {j c:Nat} {e:TypeId} (hi:ops[i]?=some ⟨some d,.fieldAddr t x j,ty,pos,af,none⟩) (hx:ev n ρ x=.pointer (some ⟨g,off,none⟩)) (hf:fOff P t j=some (c,e)) (h:wpC P ops S Q l (st n (upd ρ d (.pointer (some ⟨g,off+c,none⟩))) ds) W):wpC P ops S Q ((i,true)::l) (st n ρ ds) W:=cR hi (fun W _=>dF rfl hx hf) h
theorem kR {id:Nat} {o:List Oper} {y:Code} {a:Act} (h:wpList P o.toArray (Exit.then (wpK P Q (y::cs)) Q) o a w):wpK P Q (.seq (.region id o.toArray false) y::cs) a w:=kQ (kr h)
theorem lkR {id:Nat} {o:List Oper} {y:Code} {a:Act} (h:wpList P o.toArray (Exit.then (wpK P Q (y::cs)) Q) o a w):wpList P ops (Exit.then (wpK P Q (.seq (.region id o.toArray false) y::cs)) Q) [] a w:=ln (kR h)
theorem kI {id:Nat} {x y z u:Operand} {d1 d2 d3:Tmp} {k k':IntKind} {a b c e:Int} {t t' ty1 ty2 ty3:TypeId} {p1 p2 p3:String} {a1 a2 a3:Array Edge} (hx:ev n ρ x=.int k a) (hy:ev n (upd ρ d1 (.int k a)) y=.int .i64 b) (hz:ev n (upd ρ d1 (.int k a)) z=.int .i64 c) (hr : -9223372036854775808<=b+c∧b+c<=9223372036854775807) (hu:ev n (upd (upd ρ d1 (.int k a)) d2 (.int .i64 (b+c))) u=.int k' e) (h:wpK P Q cs (st n (upd (upd (upd ρ d1 (.int k a)) d2 (.int .i64 (b+c))) d3 (.int k' e)) ds) w) :
  wpK P Q (.region id [⟨some d1,.move x,ty1,p1,a1,none⟩,⟨some d2,.binOp .add t y z t',ty2,p2,a2,none⟩,⟨some d3,.assign u,ty3,p3,a3,none⟩].toArray false::cs) (st n ρ ds) w:=kr (sMi hx (sAd hy hz hr (sAi hu (ln h))))
theorem eal (vs:List Value) (hz:((P.info? t).bind (·.zero)).map (·.cells)=some vs.toArray) (H:St T w0 W L) (k:∀g W',St T w0 W' (Fact.blk g vs t::L)->K (st n (upd ρ d (.pointer (some ⟨g,0,none⟩))) ds) W'):Step P ops Q ⟨some d,.alloc t,ty,pos,af,none⟩ (st n ρ ds) W K:=e_alloc (wn rfl) rfl rfl vs hz H k
theorem ebx (hx:ev n ρ x=v) (hv:v.cells=vs.toArray) (H:St T w0 W L) (k:∀g W',St T w0 W' (Fact.blk g vs t::L)->K (st n (upd ρ d (.pointer (some ⟨g,0,none⟩))) ds) W'):Step P ops Q ⟨some d,.box t x,ty,pos,af,none⟩ (st n ρ ds) W K:=e_box (wn rfl) rfl rfl hx hv H k
theorem esk {i m:Nat} {c:List Value} (c':List Value) (hx:ev n ρ x=.pointer (some ⟨g,i,none⟩)) (hy:ev n ρ y=v) (hv:v.cells=vs.toArray) (hs:(P.info? t).map (·.size)=some m) (hm:vs.length=m) (h1:vs.all (·.oneCell')=true) (H:St T w0 W L) [hb:Blk g L c t'] (hl:i+m<=c.length) (hc:spl c i vs=c') [ht:Turn (Fact.blk g c t') (Fact.blk g c' t') L L'] (k:∀W',St T w0 W' L'->K (st n ρ ds) W'):Step P ops Q ⟨none,.store t x y,ty,pos,af,none⟩ (st n ρ ds) W K:=e_stoK c' (wn rfl) rfl rfl hx hy hv hs hm h1 H hl hc k
theorem est {i:Nat} {c:List Value} (hx:ev n ρ x=.pointer (some ⟨g,i,none⟩)) (hy:ev n ρ y=v) (hv:v.cells=vs.toArray) (hs:(P.info? t).map (·.size)=some vs.length) (h1:vs.all (·.oneCell')=true) (H:St T w0 W L) [hb:Blk g L c t'] (hl:Nat.ble (i+vs.length) c.length=true) [ht:Turn (Fact.blk g c t') (Fact.blk g (spl c i vs) t') L L'] (k:∀W',St T w0 W' L'->K (st n ρ ds) W'):Step P ops Q ⟨none,.store t x y,ty,pos,af,none⟩ (st n ρ ds) W K:=e_sto (wn rfl) rfl rfl hx hy hv hs h1 H hl k
theorem ebs {m s:Nat} {xs:List Operand} {vals:List Value} {parts:Array (Nat × Operand)} (hp:parts.toList=(xs.zipIdx 0).map fun x=>(x.2,x.1)) (hl:xs.length=m) (hm:Nat.ble 1 m=true) (hxs:xs.map (ev n ρ)=vals) (hu:P.underlying t=some (.slice e)) (hs:(P.info? e).map (·.size)=some s) (hz:((P.info? e).bind (·.zero)).isSome=true) (hsm:(Nat.ble 1 s && Nat.ble (m*s) 16777216)=true) (hv:vals.all (fun v=>v.cells.size == s)=true) (hvs:(vals.map fun v=>v.cells.toList).flatten=vs) (H:St T w0 W L) (k:∀g W',St T w0 W' (Fact.blk g vs e::L)->K (st n (upd ρ d (.slice (some ⟨g,0,none⟩) m m)) ds) W'):Step P ops Q ⟨some d,.buildSlice t m parts,ty,pos,af,none⟩ (st n ρ ds) W K:=e_bsl (wn rfl) rfl rfl hp hl hm hxs hu hs hz hsm hv hvs H k
theorem eap {tt:TypeId} {c m q cq s by':Nat} {B:Option Addr} {xs news:List Value} {S:Nat->Prop} {L'':Fact->List Fact} (hu:P.underlying tt=some (.slice e)) (hi:(P.info? e).map (fun i=>(i.zero.map (·.cells.size),i.size,i.bytes))=some (some s,s,by')) (hsz:Nat.ble 1 s=true)
  (hx:ev n ρ x=.slice A m c) (hy:ev n ρ y=.slice B q cq) (H:St T w0 W L) [ht:RowTo e s (.slice A m c) m L xs L''] (hr:Rd W S s B q news) (h1:news.all (·.oneCell')=true) (hm:m+q<=1099511627776) (hby:Nat.ble by' 100=true)
  (k:∀A' c' W',m+q<=c'->c'<=9223372036854775807->St T w0 W' (L'' (Fact.row e s (.slice A' (m+q) c') (m+q) (xs++news)))->K (st n (upd ρ d (.slice A' (m+q) c')) ds) W'):Step P ops Q ⟨some d,.call { callee:=.builtin .append,args:=#[x,y],argTypes:=#[tt,tt] },ty,pos,af,none⟩ (st n ρ ds) W K:=e_app (wn rfl) rfl rfl hu hi hsz hx hy H hr h1 hm hby k
variable {F:FuncId} {fn:Func} {args:Array Operand} {ats:Array TypeId} {vl:List Value} {R:Value->World->Prop}
theorem ecl (hf : P.funcs[F]? = some fn) (hb : (fn.body.isNone || (fn.name == "runtime.NumGoroutine")) = false) (hl : (args.toList.map (ev n ρ)) = vl) (hc : Calls P F vl.toArray W (Ret R)) (k : ∀ v W', R v W' → K (st n (upd ρ d v) ds) W') : Step P ops Q ⟨some d, .call { callee := .value (.func F), args := args, argTypes := ats }, ty, pos, af, none⟩ (st n ρ ds) W K := by
 rw [Bool.or_eq_false_iff] at hb
 exact e_call (wn rfl) rfl rfl hf hb.1 hb.2 hl hc k
theorem eI (hf : P.funcs[F]? = some fn) (hb : (fn.body.isNone || (fn.name == "runtime.NumGoroutine")) = false) (hl : (args.toList.map (ev n ρ)) = vl) (hc : Calls P F vl.toArray W (Ret (Is W v))) (H : St T w0 W L) (k : ∀ W', St T w0 W' L → K (st n (upd ρ d v) ds) W') : Step P ops Q ⟨some d, .call { callee := .value (.func F), args := args, argTypes := ats }, ty, pos, af, none⟩ (st n ρ ds) W K := ecl hf hb hl hc (fun u W' h => by
 obtain ⟨rfl,h⟩:=h
 exact k _ (H.below h))
theorem eN {bl : List UInt8} (hf : P.funcs[F]? = some fn) (hb : (fn.body.isNone || (fn.name == "runtime.NumGoroutine")) = false) (hl : (args.toList.map (ev n ρ)) = vl) (hc : Calls P F vl.toArray W (Ret (NewB t W bl))) (H : St T w0 W L) (k : ∀ A c W', bl.length ≤ c → c ≤ 9223372036854775807 → St T w0 W' (Fact.row t 1 (.slice A bl.length c) bl.length (bl.map u8v) :: L) → K (st n (upd ρ d (.slice A bl.length c)) ds) W') : Step P ops Q ⟨some d, .call { callee := .value (.func F), args := args, argTypes := ats }, ty, pos, af, none⟩ (st n ρ ds) W K := ecl hf hb hl hc (fun u W' h => by
 obtain ⟨A,c,rfl,h1,h2,h3⟩:=h
 exact k A c W' h1 h2 (H.new h3))
class Sb (L' L:List Fact):Prop where s:L'.Sublist L
instance Sb.nil:Sb [] L:=⟨List.nil_sublist _⟩
instance (priority:=low) Sb.skip {f:Fact} [h:Sb L' L]:Sb L' (f::L):=⟨.cons _ h.s⟩
instance Sb.keep {f:Fact} [h:Sb L' L]:Sb (f::L') (f::L):=⟨.cons_cons _ h.s⟩
instance (priority:=high) Sb.all:Sb L L:=⟨.refl _⟩
theorem St.sb (H:St T w0 W L) [h:Sb L' L]:St T w0 W L':=H.sub h.s
class Rm (f:Fact) (L:List Fact) (M:outParam (List Fact)):Prop where p:L.Perm (f::M)
instance Rm.hd {f:Fact} {L:List Fact}:Rm f (f::L) L:=⟨.refl _⟩
instance (priority:=low) Rm.tl {f f':Fact} {L M:List Fact} [h:Rm f L M]:Rm f (f'::L) (f'::M):=⟨(List.Perm.cons f' h.p).trans (.swap _ _ _)⟩
class Pm (L M:List Fact):Prop where p:L.Perm M
instance Pm.nl:Pm [] []:=⟨.nil⟩
instance Pm.cz {f:Fact} {L L' M:List Fact} [h:Rm f L L'] [k:Pm L' M]:Pm L (f::M):=⟨h.p.trans (.cons f k.p)⟩
theorem St.pm {M:List Fact} (H:St T w0 W L) [h:Pm L M]:St T w0 W M:=H.perm h.p
end
class RX (Q:Exit->Act->World->Prop) (Q0:outParam (Exit->Act->World->Prop)):Prop where h:∀a w,Q0 .ret a w->Q .ret a w
instance RX.t {next:Act->World->Prop} {Q Q0:Exit->Act->World->Prop} [h:RX Q Q0]:RX (Exit.then next Q) Q0:=⟨fun a w k=>r_then (h.h a w k)⟩
instance RX.b {id:Nat} {Q Q0:Exit->Act->World->Prop} [h:RX Q Q0]:RX (Exit.inBlock id Q) Q0:=⟨fun a w k=>r_blk (h.h a w k)⟩
instance (priority:=low) RX.z {Q:Exit->Act->World->Prop}:RX Q Q:=⟨fun _ _ k=>k⟩
theorem kx {P:Program} {cs:List Code} {w:World} {Q Q0:Exit->Act->World->Prop} {a:Act} [h:RX Q Q0] (k:Q0 .ret a w):wpK P Q (.ret::cs) a w:=k_ret (h.h _ _ k)
theorem Eqo.e {lo:Nat} {M:List Nat} {ρ ρ':Nat->Value} {l:List (Nat × Value)} (h:(l.all fun x=>inM lo M x.1)=true):Eqo lo M ρ (Go.Proofs.YtjjodibkmeefpaaGreatDoor.updl (Go.Proofs.YtjjodibkmeefpaaGreatDoor.ovr lo M ρ ρ') l):=.updl _ .ovr h
theorem Eqo.f {lo lo2:Nat} {M M2:List Nat} {ρ ρ1 ρv:Nat->Value} {l:List (Nat × Value)} (h1:(Nat.ble lo lo2 && M2.all (inM lo M))=true) (h2:(l.all fun x=>inM lo M x.1)=true) (h:Eqo lo M ρ ρ1):Eqo lo M ρ (Go.Proofs.YtjjodibkmeefpaaGreatDoor.updl (Go.Proofs.YtjjodibkmeefpaaGreatDoor.ovr lo2 M2 ρ1 ρv) l):=.updl _ (.ovr2 h h1) h2
theorem Eqo.u {lo d:Nat} {M:List Nat} {ρ ρ':Nat->Value} {v:Value} (hd:inM lo M d=true) (h:Eqo lo M ρ ρ'):Eqo lo M ρ (Go.Proofs.YtjjodibkmeefpaaGreatDoor.upd ρ' d v):=.upd h hd
end Go.Proofs.YtjjodibkmeefpaaGreatDoor
