import Derived.Test.YtjjodibkmeefpaaGreatDoorMV
import Derived.Laws.MakeOwn
import Derived.Laws.OwnMore
import Derived.DeepKeys5
import Derived.WideKeyElems
set_option linter.unusedVariables false
set_option linter.unusedSimpArgs false

namespace Go.Proofs.YtjjodibkmeefpaaGreatDoor
open Go Go.RowKit

section
variable {P:Program} {ops:Array Oper} {Q:Exit->Act->World->Prop} {o:Oper} {n:Nat} {ρ:Nat->Value} {ds:List Deferred} {W w0:World} {K:Act->World->Prop} {T:Nat->Prop} {L:List Fact} {x y:Operand} {t e:TypeId} {d:Tmp}
theorem e_mks {m:Nat} {a:Int} {kl kc:IntKind} (hw:Region.wanted o (yielded ops (st n ρ ds).tmps)=true) (hd:o.dst=some d) (ho:o.op=.makeSlice t x y) (hx:ev n ρ x=.int kl a) (hy:ev n ρ y=.int kc a) (ha:a=(m:Int)) (hm:m<=100000000000) (hu:P.underlying t=some (.slice e)) (hz:((P.info? e).bind (·.zero)).map (·.cells)=some #[.int .u8 0]) (hi:(P.info? e).map (fun i=>(i.zero.map (·.cells.size),i.size,i.bytes))=some (some 1,1,1)) (H:St T w0 W L)
  (k:∀g W',St T w0 W' (Fact.blk g ((List.replicate m (0:UInt8)).map u8v) e::L)->K (st n (upd ρ d (.slice (some ⟨g,0,none⟩) m m)) ds) W'):Step P ops Q o (st n ρ ds) W K:=by
 subst ha
 cases hI:P.info? e with
 | none=>rw [hI] at hz;cases hz
 | some i =>
  rw [hI] at hz hi
  cases hzz:i.zero with
  | none=>simp [hzz] at hz
  | some z =>
   simp [hzz] at hz hi
   have hr:=run_make (P:=P) W t e i z hu hI hzz kl kc (m:Int) (m:Int) (by omega) (Int.le_refl _) (by rw [hi.2.2];omega) (by omega)
   rw [hi.2.1,Nat.mul_one,Int.toNat_natCast,hz] at hr
   have hc:madeCells #[Value.int .u8 0] m=((List.replicate m (0:UInt8)).map u8v).toArray:=by
    rw [List.map_replicate]
    apply Array.toList_inj.1
    rw [toList_madeCells_one]
    rfl
   rw [hc] at hr
   refine e_run hw hd (v:=.slice (some ⟨W.heap.size,0,none⟩) m m) (W':=W.alloc (.cells ((List.replicate m (0:UInt8)).map u8v).toArray e)) ?_ (k _ _ (H.alloc _ e))
   unfold Runs execOp
   simp [ho,hx,hy,hr]
end
end Go.Proofs.YtjjodibkmeefpaaGreatDoor

namespace Go.Proofs.YtjjodibkmeefpaaGreatDoor
open Go Go.RowKit

def Monos {α:Type} (R:Rep α):Prop:=∀(W:World) (S S':Nat->Prop) (cs:List Value) (a:α),R W S cs a->(∀g,g<W.heap.size->S g->S' g)->R W S' cs a
class RepK {α:Type} (R:Rep α):Prop where
 keeps:Keeps R
 mono:Monos R
theorem mono_I:Monos RI:=fun _ _ _ _ _ h _=>h
theorem mono_A {m:Nat}:Monos (RA m):=fun _ _ _ _ _ h _=>h
theorem mono_B:Monos RB:=fun _ _ _ _ _ h k=>by
 obtain ⟨v,h1,h2⟩:=h
 exact ⟨v,h1,h2.mono k⟩
theorem mono_L {α:Type} {s:Nat} {R:Rep α} (hR:Monos R):Monos (RL s R):=fun _ _ _ _ _ h k=>by
 obtain ⟨A,c,xs,h1,h2,h3,h4,h5⟩:=h
 exact ⟨A,c,xs,h1,h2,h3,h4.mono k,fun i x hx=>hR _ _ _ _ _ (h5 i x hx) k⟩
instance repk_I:RepK RI:=⟨keeps_I,mono_I⟩
instance repk_A {m:Nat}:RepK (RA m):=⟨keeps_A,mono_A⟩
instance repk_B:RepK RB:=⟨keeps_B,mono_B⟩
instance repk_L {α:Type} {s:Nat} {R:Rep α} [h:RepK R]:RepK (RL s R):=⟨keeps_L h.keeps,mono_L h.mono⟩
section
variable {α:Type} {R:Rep α} {T:Nat->Prop} {w0 W W':World} {L:List Fact}
def Fact.rep (R:Rep α) [h:RepK R] (S:Nat->Prop) (cs:List Value) (a:α):Fact:=⟨S,fun W=>R W S cs a,fun _ _ hp k=>h.keeps _ _ _ _ _ hp (fun g _ hs=>k g hs)⟩
def Fact.els (R:Rep α) [h:RepK R] (s:Nat) (S:Nat->Prop) (xs:List Value) (l:List α):Fact :=
 ⟨S,fun W=>xs.length=l.length*s∧∀(i:Nat) (x:α),l[i]?=some x->R W S (sub xs (i*s) s) x,fun _ _ hp k=>⟨hp.1,fun i x hx=>h.keeps _ _ _ _ _ (hp.2 i x hx) (fun g _ hs=>k g hs)⟩⟩
theorem St.els0 (H:St T w0 W L) (R:Rep α) [h:RepK R] (s:Nat):St T w0 W (Fact.els R s (fun _=>False) [] []::L) :=
 ⟨H.fr,fun f hf=>by
  rcases List.mem_cons.1 hf with rfl|hf
  ·exact ⟨by simp,fun i x hx=>by simp at hx⟩
  ·exact H.holds f hf,fun f hf g hg=>by
  rcases List.mem_cons.1 hf with rfl|hf
  ·exact hg.elim
  ·exact H.own f hf g hg,List.pairwise_cons.2 ⟨fun f _ g hg=>(hg:False).elim,H.apart⟩⟩
theorem sub_app {xs ys:List Value} {i n s:Nat} (hl:xs.length=n*s) (hi:i<n):sub (xs++ys) (i*s) s=sub xs (i*s) s:=by
 have h1:=Nat.mul_le_mul_right s (show i+1<=n by omega)
 rw [Nat.add_mul] at h1
 unfold sub
 rw [List.drop_append_of_le_length (by omega),List.take_append_of_le_length (by rw [List.length_drop];omega)]
theorem sub_end {xs ys:List Value} {n s:Nat} (hl:xs.length=n*s) (hy:ys.length=s):sub (xs++ys) (n*s) s=ys:=by
 unfold sub
 rw [←hl,List.drop_left,←hy,List.take_length]
theorem St.elsnoc {s:Nat} {S S':Nat->Prop} {xs ys:List Value} {l:List α} {a:α} [h:RepK R] (H:St T w0 W (Fact.rep R S' ys a::Fact.els R s S xs l::L)) (hy:ys.length=s):St T w0 W (Fact.els R s (fun g=>S' g∨S g) (xs++ys) (l++[a])::L):=by
 have h1:R W S' ys a:=H.holds _ (.head _)
 have h2:xs.length=l.length*s∧_:=H.holds _ (.tail _ (.head _))
 refine H.merge ⟨by rw [List.length_append,List.length_append,h2.1,hy,List.length_singleton,Nat.add_mul];omega,fun i x hx=>?_⟩ (fun g hg=>hg)
 rcases Nat.lt_or_ge i l.length with hi|hi
 ·rw [List.getElem?_append_left hi] at hx
  rw [sub_app h2.1 hi]
  exact h.mono _ _ _ _ _ (h2.2 i x hx) (fun g _ hg=>.inr hg)
 ·rw [List.getElem?_append_right hi] at hx
  have hj:i - l.length=0:=by
   have:=(List.getElem?_eq_some_iff.1 hx).1
   simp at this;omega
  rw [hj] at hx
  obtain rfl:a=x:=by simpa using hx
  have:i=l.length:=by omega
  subst this
  rw [sub_end h2.1 hy]
  exact h.mono _ _ _ _ _ h1 (fun g _ hg=>.inl hg)
theorem St.tolist {e s c:Nat} {A:Option Addr} {S:Nat->Prop} {xs:List Value} {l:List α} [h:RepK R] (H:St T w0 W (Fact.row e s (.slice A l.length c) l.length xs::Fact.els R s S xs l::L)):St T w0 W (Fact.rep (RL s R) (fun g=>(Value.slice A l.length c).ownBlock=some g∨S g) [.slice A l.length c] l::L):=by
 have h1:W.ownsRow 0 e s (.slice A l.length c) l.length xs:=H.holds _ (.head _)
 have h2:xs.length=l.length*s∧_:=H.holds _ (.tail _ (.head _))
 obtain ⟨_,_,hv,hc1,hc2⟩:=row_form h1
 cases hv
 have hr:Rd W (0<=·) s A l.length xs:=Rd.of_own h1
 refine H.merge ⟨A,c,xs,rfl,hc1,hc2,hr.swap (fun hn a ha=>?_),fun i x hx=>h.mono _ _ _ _ _ (h2.2 i x hx) (fun g _ hg=>.inr hg)⟩ (fun g hg=>hg)
 subst ha
 exact .inl rfl
theorem St.rep1 {S:Nat->Prop} {cs:List Value} {a:α} [h:RepK R] (H:St T w0 W L) [hr:In (Fact.rep R S cs a) L]:R W (0<=·) cs a:=h.mono _ _ _ _ _ (H.get (f:=Fact.rep R S cs a)) (fun g _ _=>Nat.zero_le _)
theorem St.rerep {β:Type} {R':Rep β} {S:Nat->Prop} {cs cs':List Value} {a:α} {b:β} [RepK R] [RepK R'] (H:St T w0 W (Fact.rep R S cs a::L)) (hb:R W S cs a->R' W S cs' b):St T w0 W (Fact.rep R' S cs' b::L) :=
 ⟨H.fr,fun f hf=>by
  rcases List.mem_cons.1 hf with rfl|hf
  ·exact hb (H.holds _ (.head _))
  ·exact H.holds f (.tail _ hf),fun f hf g hg=>by
  rcases List.mem_cons.1 hf with rfl|hf
  ·exact H.own _ (.head _) g hg
  ·exact H.own f (.tail _ hf) g hg,List.pairwise_cons.2 ⟨fun f hf g hg=>(List.pairwise_cons.1 H.apart).1 f hf g hg,(List.pairwise_cons.1 H.apart).2⟩⟩
theorem St.join {β γ:Type} {R':Rep β} {R2:Rep γ} {S S':Nat->Prop} {cs cs' cs2:List Value} {a:α} {b:β} {x:γ} [h1:RepK R] [h2:RepK R'] [RepK R2] (H:St T w0 W (Fact.rep R S cs a::Fact.rep R' S' cs' b::L)) (hb:∀S2,R W S2 cs a->R' W S2 cs' b->R2 W S2 cs2 x):St T w0 W (Fact.rep R2 (fun g=>S g∨S' g) cs2 x::L) :=
 H.merge (hb _ (h1.mono _ _ _ _ _ (H.holds _ (.head _)) (fun g _ hg=>.inl hg)) (h2.mono _ _ _ _ _ (H.holds _ (.tail _ (.head _))) (fun g _ hg=>.inr hg))) (fun g hg=>hg)
theorem St.torb {e m c:Nat} {A:Option Addr} {l:List UInt8} (H:St T w0 W (Fact.row e 1 (.slice A m c) m (l.map u8v)::L)) (hm:l.length=m):St T w0 W (Fact.rep RB (fun g=>(Value.slice A m c).ownBlock=some g) [.slice A m c] l::L):=by
 have h1:W.ownsRow 0 e 1 (.slice A m c) m (l.map u8v):=H.holds _ (.head _)
 exact ⟨H.fr,fun f hf=>by
  rcases List.mem_cons.1 hf with rfl|hf
  ·exact ⟨_,rfl,bs_own h1 hm⟩
  ·exact H.holds f (.tail _ hf),fun f hf g hg=>by
  rcases List.mem_cons.1 hf with rfl|hf
  ·exact H.own _ (.head _) g hg
  ·exact H.own f (.tail _ hf) g hg,List.pairwise_cons.2 ⟨fun f hf g hg=>(List.pairwise_cons.1 H.apart).1 f hf g hg,(List.pairwise_cons.1 H.apart).2⟩⟩
theorem St.flat {cs:List Value} {a:α} [h:RepK R] (H:St T w0 W L) (hr:R W (fun _=>False) cs a):St T w0 W (Fact.rep R (fun _=>False) cs a::L) :=
 ⟨H.fr,fun f hf=>by
  rcases List.mem_cons.1 hf with rfl|hf
  ·exact hr
  ·exact H.holds f hf,fun f hf g hg=>by
  rcases List.mem_cons.1 hf with rfl|hf
  ·exact hg.elim
  ·exact H.own f hf g hg,List.pairwise_cons.2 ⟨fun f _ g hg=>(hg:False).elim,H.apart⟩⟩
def NewR (R:Rep α) [RepK R] (w:World) (cs:List Value) (a:α) (w':World):Prop:=∃S,New w w' (Fact.rep R S cs a)
end
end Go.Proofs.YtjjodibkmeefpaaGreatDoor

namespace Go.Proofs.YtjjodibkmeefpaaGreatDoor
open Go Go.RowKit Go.MapKept Go.ChangeMaps
open Go.WideMaps (KeyLaw)

def Fact.mp (P:Program) (k:TypeId) (g:Nat) (ks:List Value):Fact :=
 ⟨(·=g),fun W=>∃es clock,W.heap[g]?=some (.map es clock)∧es.toList.map (·.key)=ks∧(∀x∈es.toList,x.val=.int .i64 1)∧∀x∈es.toList,∃l,keyOf P k x.key=some l,
  fun _ _ h q=>by obtain ⟨es,c,h1,h2⟩:=h;exact ⟨es,c,(q g rfl).trans h1,h2⟩⟩
noncomputable def putV (ks:List Value) (key:Value):List Value:=@ite _ (key∈ks) (Classical.propDecidable _) ks (ks++[key])
theorem putV_in {ks:List Value} {key:Value} (h:key∈ks):putV ks key=ks:=by unfold putV;rw [if_pos h]
theorem putV_new {ks:List Value} {key:Value} (h:key ∉ ks):putV ks key=ks++[key]:=by unfold putV;rw [if_neg h]
theorem setBlock_fr {W:World} {g:Nat} {o:Obj}:Fr (·=g) W (setBlock W g o) :=
 ⟨rfl,rfl,rfl,by simp [setBlock],fun k _ hn=>by
  show (W.heap.setIfInBounds g o)[k]?=_
  rw [Array.getElem?_setIfInBounds,if_neg (fun e=>hn e.symm)]⟩
theorem obj_lt {W:World} {g:Nat} {o:Obj} (h:W.heap[g]?=some o):g<W.heap.size:=by
 rcases Nat.lt_or_ge g W.heap.size with h1|h1
 ·exact h1
 ·rw [Array.getElem?_eq_none h1] at h;cases h
theorem setBlock_at {W:World} {g:Nat} {o o':Obj} (h:W.heap[g]?=some o):(setBlock W g o').heap[g]?=some o':=by
 show (W.heap.setIfInBounds g o')[g]?=_
 rw [Array.getElem?_setIfInBounds,if_pos rfl,if_pos (obj_lt h)]
section
variable {P:Program} {ops:Array Oper} {Q:Exit->Act->World->Prop} {o:Oper} {n:Nat} {ρ:Nat->Value} {ds:List Deferred} {W w0:World} {K:Act->World->Prop} {T:Nat->Prop} {L L':List Fact} {x y z:Operand} {t k e:TypeId} {d:Tmp} {g:Nat} {ks:List Value} {key:Value}
theorem e_mkmap (hw:Region.wanted o (yielded ops (st n ρ ds).tmps)=true) (hd:o.dst=some d) (ho:o.op=.makeMap t none) (H:St T w0 W L)
  (kk:∀g W',St T w0 W' (Fact.mp P k g []::L)->K (st n (upd ρ d (.map (some g))) ds) W'):Step P ops Q o (st n ρ ds) W K:=by
 refine e_run hw hd (v:=.map (some W.heap.size)) (W':=W.alloc (.map #[] 0)) ?_ (kk _ _ (H.call ((Below.refl _ _).alloc (Nat.le_refl _) _) ⟨#[],0,heap_alloc_new W _,rfl,fun x hx=>by simp at hx,fun x hx=>by simp at hx⟩ (fun g hg=>by
  have:g=W.heap.size:=hg
  subst this;simp)))
 unfold Runs execOp
 simp [ho,Instr.makeMap,Result.andThen]
theorem d_maplen (ho:o.op=.call { callee:=.builtin .len,args:=#[x],argTypes:=#[t] }) (hx:ev n ρ x=.map (some g)) (hu:P.underlying t=some (.map k e)) (H:St T w0 W L) [hi:In (Fact.mp P k g ks) L]:Runs P n ρ o W (.int .i64 (ks.length:Int)) W:=by
 obtain ⟨es,clock,hb,hk,_,_⟩:=H.get (f:=Fact.mp P k g ks)
 have hl:es.size=ks.length:=by rw [←hk];simp
 unfold Runs execOp
 simp [ho,hx,resolve,invoke,builtin,Builtin.len_,run_underlying hu,MapKept.run_getObj_map hb,Result.andThen,goInt,hl]
theorem e_mapup (KL:KeyLaw P k) (hw:Region.wanted o (yielded ops (st n ρ ds).tmps)=true) (hd:o.dst=none) (ho:o.op=.mapUpdate t x y z) (hu:P.underlying t=some (.map k e)) (hx:ev n ρ x=.map (some g)) (hy:ev n ρ y=key) (hz:ev n ρ z=.int .i64 1) (hkey:∃l,keyOf P k key=some l) (H:St T w0 W L) [hi:In (Fact.mp P k g ks) L] [ht:Turn (Fact.mp P k g ks) (Fact.mp P k g (putV ks key)) L L']
  (kk:∀W',St T w0 W' L'->K (st n ρ ds) W'):Step P ops Q o (st n ρ ds) W K:=by
 obtain ⟨es,clock,hb,hk,hv,hks⟩:=H.get (f:=Fact.mp P k g ks)
 obtain ⟨l,hl⟩:=hkey
 rcases KL.find W hl es.toList hks with ⟨h1,h2⟩|⟨j,e0,h1,h2,h3⟩
 ·have hn:key ∉ ks:=fun hm=>by
   rw [←hk] at hm
   obtain ⟨q,hq,he⟩:=List.mem_map.1 hm
   exact h2 q hq he
  refine e_do hw hd (W':=setBlock W g (.map (es.push ⟨key,.int .i64 1,clock⟩) (clock+1))) ?_ (kk _ (H.turn (f:=Fact.mp P k g ks) (f':=Fact.mp P k g (putV ks key)) setBlock_fr ⟨_,_,setBlock_at hb,?_,fun q hq=>?_,fun q hq=>?_⟩ (fun g hg=>.inl hg)))
  ·unfold Does execOp
   simp [ho,hx,hy,hz,Instr.mapUpdate,run_underlying hu,MapKept.run_getObj_map hb,KL.check W false hl,h1,MapKept.run_setObj_map _ hb,Result.andThen,setBlock]
  ·rw [putV_new hn,Array.toList_push,List.map_append,hk];rfl
  ·rw [Array.toList_push] at hq
   rcases List.mem_append.1 hq with hq|hq
   ·exact hv q hq
   ·obtain rfl:q=_:=by simpa using hq
    rfl
  ·rw [Array.toList_push] at hq
   rcases List.mem_append.1 hq with hq|hq
   ·exact hks q hq
   ·obtain rfl:q=_:=by simpa using hq
    exact ⟨l,hl⟩
 ·have hj:es[j]?=some e0:=by simpa using h2
  have hm:key∈ks:=by
   rw [←hk,←h3]
   exact List.mem_map_of_mem (f:=fun q:MapEntry=>q.key) (List.mem_of_getElem? h2)
  have hkeyf:∀e',es[j]?=some e'->({ e' with key:=key,val:=.int .i64 1 }:MapEntry).key=e'.key:=fun e' he'=>by rw [hj] at he';cases he';exact h3.symm
  refine e_do hw hd (W':=setBlock W g (.map (es.modify j (fun e'=>{ e' with key:=key,val:=.int .i64 1 })) clock)) ?_ (kk _ (H.turn (f:=Fact.mp P k g ks) (f':=Fact.mp P k g (putV ks key)) setBlock_fr ⟨_,_,setBlock_at hb,?_,fun q hq=>?_,fun q hq=>?_⟩ (fun g hg=>.inl hg)))
  ·unfold Does execOp
   simp [ho,hx,hy,hz,Instr.mapUpdate,run_underlying hu,MapKept.run_getObj_map hb,KL.check W false hl,h1,hj,h3,KL.stays W hl,MapKept.run_setObj_map _ hb,Result.andThen,setBlock]
  ·rw [putV_in hm,MapKept.modify_keys j _ hkeyf,hk]
  ·rcases MapFrom.mem_modify hq with hq|⟨e',_,rfl⟩
   ·exact hv q hq
   ·rfl
  ·rcases MapFrom.mem_modify hq with hq|⟨e',_,rfl⟩
   ·exact hks q hq
   ·exact ⟨l,hl⟩
noncomputable def atV (ks:List Value) (key:Value):Int:=@ite _ (key∈ks) (Classical.propDecidable _) 1 0
end
section
variable {P:Program} {t e:TypeId} {d m:Nat}
theorem key_i {n:Int} (hu:P.underlying t=some (.int .i64)) (h : -9223372036854775808<=n∧n<=9223372036854775807):∃ls,P.keyLits (d+1) t [.int .i64 n]=some ls:=by
 have hw:(Lit.int .i64 n).wf=true:=by
  simp only [Lit.wf,Bool.and_eq_true,decide_eq_true_eq]
  exact h
 exact ⟨[.int .i64 n],by simp [Program.keyLits,hu,hw]⟩
theorem key_u8 {b:UInt8} (hu:P.underlying t=some (.int .u8)):∃ls,P.keyLits (d+1) t [u8v b]=some ls:=by
 have hw:(Lit.int .u8 (b.toNat:Int)).wf=true:=by
  have:=b.toNat_lt
  simp only [Lit.wf,Bool.and_eq_true,decide_eq_true_eq]
  rw [show IntKind.u8.min=0 by decide,show IntKind.u8.max=255 by decide]
  omega
 exact ⟨[.int .u8 (b.toNat:Int)],by simp [Program.keyLits,u8v,hu,hw]⟩
theorem key_a {l:List UInt8} (hu:P.underlying t=some (.array m e)) (he:P.underlying e=some (.int .u8)) (hc:P.cellsOf e=1) (ht:P.cellsOf t=m) (hl:l.length=m):∃ls,P.keyLits (d+2) t (l.map u8v)=some ls:=by
 obtain ⟨r,hr⟩:=MapFrom.mapM_some (l:=List.range m) (f:=fun i=>P.keyLits (d+1) e (((l.map u8v).drop (i*P.cellsOf e)).take (P.cellsOf e))) (fun i hi=>by
  have hi':i<l.length:=by have:=List.mem_range.1 hi;omega
  have e1:((l.map u8v).drop (i*P.cellsOf e)).take (P.cellsOf e)=[u8v l[i]]:=by
   rw [hc,Nat.mul_one,List.drop_eq_getElem_cons (by rw [List.length_map];exact hi'),List.getElem_map]
   rfl
  show ∃y,P.keyLits (d+1) e _=some y
  rw [e1]
  exact key_u8 he)
 obtain ⟨D,hD⟩:∃D,D=d+1:=⟨_,rfl⟩
 rw [←hD] at hr
 refine ⟨r.flatten,?_⟩
 show P.keyLits (d+1+1) t _=_
 rw [←hD]
 simp [Program.keyLits,hu,ht,hl,hr]
theorem key_st {fs : Array Field} {cs : List Value} (hu : P.underlying t = some (.struct fs)) (hn : fs.all (·.name != "_") = true) (hc : cs.length = P.cellsOf t) (hf : ∀ f ∈ fs.toList, ∃ ls, P.keyLits d f.type ((cs.drop f.offset).take (P.cellsOf f.type)) = some ls) : ∃ ls, P.keyLits (d + 1) t cs = some ls := by
 obtain ⟨r,hr⟩:=MapFrom.mapM_some hf
 refine ⟨r.flatten,?_⟩
 have hn' : ∀ (i : Nat) (h : i < fs.size), ¬ fs[i].name = "_" := by simpa using hn
 simp [Program.keyLits,hu,hc,hn',hr]
end
end Go.Proofs.YtjjodibkmeefpaaGreatDoor

namespace Go.Proofs.YtjjodibkmeefpaaGreatDoor
open Go Go.RowKit

def Cuts (f:RS->RS) (e:List UInt8):Prop:=(∀r,f (e++r,0)=(r,0))∧(∀k,k<e.length->f (e.take k,0)=([],4))∧f ([],4)=([],4)
theorem Cuts.seq {f g:RS->RS} {e e':List UInt8} (hf:Cuts f e) (hg:Cuts g e'):Cuts (fun s=>g (f s)) (e++e'):=by
 refine ⟨fun r=>?_,fun k hk=>?_,?_⟩
 ·show g (f _)=_
  rw [List.append_assoc,hf.1,hg.1]
 ·show g (f _)=_
  rcases Nat.lt_or_ge k e.length with h|h
  ·rw [List.take_append_of_le_length (by omega),hf.2.1 k h,hg.2.2]
  ·rw [List.take_append,List.take_of_length_le h,hf.1]
   exact hg.2.1 _ (by rw [List.length_append] at hk;omega)
 ·show g (f _)=_
  rw [hf.2.2,hg.2.2]
abbrev Rdr (α:Type):=RS->α × RS
def Reads {α:Type} (f:Rdr α) (e:List UInt8) (x:α):Prop:=Cuts (fun s=>(f s).2) e∧∀r,(f (e++r,0)).1=x
theorem Reads.at {α:Type} {f:Rdr α} {e:List UInt8} {x:α} (h:Reads f e x) (r:List UInt8):f (e++r,0)=(x,(r,0)):=by
 have h1:=h.1.1 r
 have h2:=h.2 r
 exact Prod.ext h2 h1
def Backs {α:Type} (f:Rdr α) (enc:α->List UInt8):Prop:=∀s,(f s).2.2=0->s.2=0∧s.1=enc (f s).1++(f s).2.1
def Sane {α:Type} (f:Rdr α):Prop:=(∀s,s.2≠0->(f s).2=s)∧∀s,Pk.Ok s->Pk.Ok (f s).2
def rPair {α β:Type} (f:Rdr α) (g:Rdr β):Rdr (α × β):=fun s=>(((f s).1,(g (f s).2).1),(g (f s).2).2)
def rMap {α β:Type} (f:Rdr α) (m:α->β):Rdr β:=fun s=>(m (f s).1,(f s).2)
theorem Reads.map {α β:Type} {f:Rdr α} {e:List UInt8} {x:α} (h:Reads f e x) (m:α->β):Reads (rMap f m) e (m x):=⟨h.1,fun r=>by show m (f _).1=_;rw [h.2]⟩
theorem Sane.map {α β:Type} {f:Rdr α} (h:Sane f) (m:α->β):Sane (rMap f m):=h
theorem Backs.map {α β:Type} {f:Rdr α} {enc:α->List UInt8} {enc':β->List UInt8} (h:Backs f enc) (m:α->β) (he:∀x,enc' (m x)=enc x):Backs (rMap f m) enc':=fun s hs=>by
 obtain ⟨h1,h2⟩:=h s hs
 exact ⟨h1,by show s.1=enc' (m (f s).1)++_;rw [he];exact h2⟩
def rMany {α:Type} (f:Rdr α):Nat->Rdr (List α)
 | 0,s=>([],s)
 | n+1,s=>((rMany f n s).1++[(f (rMany f n s).2).1],(f (rMany f n s).2).2)
def rList {α:Type} (most:Int) (f:Rdr α):Rdr (List α):=fun s=>rMany f (Pk.rC most s).1 (Pk.rC most s).2
def encL {α:Type} (enc:α->List UInt8) (l:List α):List UInt8:=Pk.int l.length++(l.map enc).flatten
def rDep {α β:Type} (f:Rdr α) (g:α->Rdr β):Rdr (α × β):=fun s=>(((f s).1,(g (f s).1 (f s).2).1),(g (f s).1 (f s).2).2)
theorem Reads.dep {α β:Type} {f:Rdr α} {g:α->Rdr β} {e e':List UInt8} {x:α} {y:β} (h:Reads f e x) (h':Reads (g x) e' y) (h4:∀a,(g a ([],4)).2=([],4)):Reads (rDep f g) (e++e') (x,y):=by
 refine ⟨⟨fun r=>?_,fun k hk=>?_,?_⟩,fun r=>?_⟩
 ·show (g (f _).1 (f _).2).2=_
  rw [List.append_assoc,h.at,h'.at]
 ·show (g (f _).1 (f _).2).2=_
  rcases Nat.lt_or_ge k e.length with hc|hc
  ·have e1:(f (e.take k,0)).2=([],4):=h.1.2.1 k hc
   rw [List.take_append_of_le_length (by omega),e1,h4]
  ·rw [List.take_append,List.take_of_length_le hc,h.at]
   exact h'.1.2.1 _ (by rw [List.length_append] at hk;omega)
 ·show (g (f _).1 (f _).2).2=_
  have e1:(f ([],4)).2=([],4):=h.1.2.2
  rw [e1,h4]
 ·show ((f _).1,(g (f _).1 (f _).2).1)=_
  rw [List.append_assoc,h.at,h'.at]
theorem Backs.dep {α β:Type} {f:Rdr α} {g:α->Rdr β} {enc:α->List UInt8} {enc':β->List UInt8} (h:Backs f enc) (h':∀a,Backs (g a) enc'):Backs (rDep f g) (fun x=>enc x.1++enc' x.2):=fun s hs=>by
 obtain ⟨h1,h2⟩:=h' _ _ hs
 obtain ⟨h3,h4⟩:=h _ h1
 refine ⟨h3,?_⟩
 show s.1=(enc (f s).1++enc' (g (f s).1 (f s).2).1)++(g (f s).1 (f s).2).2.1
 rw [List.append_assoc,←h2,←h4]
theorem Sane.dep {α β:Type} {f:Rdr α} {g:α->Rdr β} (h:Sane f) (h':∀a,Sane (g a)):Sane (rDep f g) :=
 ⟨fun s hs=>by show (g (f s).1 (f s).2).2=s;rw [h.1 s hs,(h' _).1 s hs],fun s hs=>(h' _).2 _ (h.2 s hs)⟩
theorem Sane.stuck {α:Type} {f:Rdr α} (h:Sane f):(f ([],4)).2=([],4):=h.1 _ (by decide)
end Go.Proofs.YtjjodibkmeefpaaGreatDoor

namespace Go.Proofs.YtjjodibkmeefpaaGreatDoor
open Go Go.RowKit

section
variable {P:Program} {t:TypeId} {z acc vs:List Value} {places:List (Nat × Nat)} {parts rest:List (Nat × Value)} {r:Array Value} {j off s:Nat} {v:Value} {pl:Nat->Option (Nat × Nat)}
theorem built_fields (hz:((P.info? t).bind (·.zero)).map (·.cells)=some z.toArray) (hu:P.underlying t=some (.struct (P.fieldsOf t))) (hp:(P.fieldsOf t).toList.mapM (fun f=>(P.info? f.type).map fun i=>(f.offset,i.size))=some places) (h:Instr.fill (places.toArray[·]?) ([]++z).toArray parts=some r):P.built t parts=some r:=by
 unfold Program.built
 cases hi:P.info? t with
 | none=>rw [hi] at hz;cases hz
 | some it =>
  rw [hi] at hz
  cases hzz:it.zero with
  | none=>simp [hzz] at hz
  | some zv =>
   have hc:zv.cells=z.toArray:=by simpa [hzz] using hz
   simp only [hu,hzz,hp,hc]
   exact h
theorem fold_set:∀(q:List Value) (off a:Nat) (cs:Array Value),off+a+q.length<=cs.size ->
  ((q.zipIdx a).foldl (fun cs (x:Value × Nat)=>cs.setIfInBounds (off+x.2) x.1) cs).toList=cs.toList.take (off+a)++q++cs.toList.drop (off+a+q.length)
 | [],off,a,cs,_=>by simp
 | w::q,off,a,cs,h=>by
  simp only [List.length_cons] at h
  rw [List.zipIdx_cons,List.foldl_cons,fold_set q off (a+1) _ (by simp;omega)]
  simp only [Array.toList_setIfInBounds,List.length_cons]
  have hlt:off+a<cs.toList.length:=by simp;omega
  rw [show off+(a+1)=off+a+1 by omega,show off+a+1+q.length=off+a+(q.length+1) by omega]
  rw [List.take_add_one,List.take_set_of_le (Nat.le_refl _),List.getElem?_set_self hlt,List.drop_set_of_lt (by omega)]
  simp
theorem fN (v:Value) (hp:pl j=some (off,s)) (ho:acc.length=off) (hv:v.cells=vs.toArray) (hs:vs.length=s) (hz:s<=z.length) (h:Instr.fill pl ((acc++vs)++z.drop s).toArray rest=some r):Instr.fill pl (acc++z).toArray ((j,v)::rest)=some r:=by
 have e1:(v.cells.zipIdx.foldl (fun cs (x:Value × Nat)=>cs.setIfInBounds (off+x.2) x.1) (acc++z).toArray)=((acc++vs)++z.drop s).toArray:=by
  apply Array.ext'
  have:=fold_set vs off 0 (acc++z).toArray (by simp;omega)
  rw [hv,←Array.foldl_toList]
  rw [show (Array.zipIdx vs.toArray).toList=vs.zipIdx 0 by simp]
  rw [this]
  show (acc++z).take (off+0)++vs++(acc++z).drop (off+0+vs.length)=_
  rw [Nat.add_zero,←ho,List.take_left,List.drop_append,List.drop_eq_nil_of_le (show acc.length<=acc.length+vs.length by omega),Nat.add_sub_cancel_left,hs]
  simp
 rw [Instr.fill,hp]
 show (if (decide (v.cells.size≠s) || decide (off+v.cells.size>(acc++z).toArray.size))=true then none else Instr.fill pl _ _)=some r
 rw [if_neg (by rw [hv];simp;omega),e1]
 exact h
theorem fill_skip (q:Nat) (h:Instr.fill pl ((acc++z.take q)++z.drop q).toArray parts=some r):Instr.fill pl (acc++z).toArray parts=some r:=by
 rw [List.append_assoc,List.take_append_drop] at h
 exact h
theorem fill_end {l:List Value} (h:acc++z=l):Instr.fill pl (acc++z).toArray []=some l.toArray:=by rw [h];rfl
end
theorem St.addlist {α:Type} {R:Rep α} [h:RepK R] {T:Nat->Prop} {w0 W W':World} {L:List Fact} {e s c:Nat} {A:Option Addr} {S:Nat->Prop} {xs:List Value} {l:List α} (H:St T w0 W L) (K:St nT W W' [Fact.row e s (.slice A l.length c) l.length xs,Fact.els R s S xs l]):St T w0 W' (Fact.rep (RL s R) (fun g=>(Value.slice A l.length c).ownBlock=some g∨S g) [.slice A l.length c] l::L):=St.tolist (H.add K)
theorem St.add2 {T:Nat->Prop} {w0 W W':World} {L:List Fact} {f f':Fact} (H:St T w0 W L) (K:St nT W W' [f,f']):St T w0 W' (f::f'::L):=H.add K
theorem St.add1 {T:Nat->Prop} {w0 W W':World} {L:List Fact} {f:Fact} (H:St T w0 W L) (K:St nT W W' [f]):St T w0 W' (f::L):=H.add K
theorem St.add4 {T:Nat->Prop} {w0 W W':World} {L:List Fact} {f f' f2 f3:Fact} (H:St T w0 W L) (K:St nT W W' [f,f',f2,f3]):St T w0 W' (f::f'::f2::f3::L):=H.add K
theorem agg_cells (l:List Value):(Value.agg l.toArray).cells=l.toArray:=rfl
end Go.Proofs.YtjjodibkmeefpaaGreatDoor

namespace Go.Proofs.YtjjodibkmeefpaaGreatDoor
open Go Go.RowKit

theorem HeldP.wide {A0:Option Addr} {o o':Nat} {ys:List UInt8} {v:Value} {b:List UInt8} (h:HeldP A0 o ys v b) (ho:o<=o'):HeldP A0 o' ys v b:=by
 obtain ⟨B,cb,q,h1,h2,h3,h4,h5,h6⟩:=h
 exact ⟨B,cb,q,h1,h2,h3,h4,by omega,h6⟩
def RBH (A0:Option Addr) (l:List UInt8):Rep (List UInt8):=fun _ _ cs b=>∃v,cs=[v]∧HeldP A0 l.length l v b
instance repk_BH {A0:Option Addr} {l:List UInt8}:RepK (RBH A0 l):=⟨fun _ _ _ _ _ h _=>h,fun _ _ _ _ _ h _=>h⟩
theorem rl_conv {α:Type} {R R':Rep α} {s:Nat} {W:World} {S S':Nat->Prop} {cs:List Value} {l:List α} (h:RL s R W S cs l) (hS:∀g,S g->S' g) (hR:∀cs x,R W S cs x->R' W S' cs x):RL s R' W S' cs l:=by
 obtain ⟨A,c,xs,h1,h2,h3,h4,h5⟩:=h
 exact ⟨A,c,xs,h1,h2,h3,h4.mono (fun g _ h=>hS g h),fun i x hx=>hR _ _ (h5 i x hx)⟩
theorem rl_nil {α:Type} {R:Rep α} {s:Nat} {W:World} {S:Nat->Prop}:RL s R W S [.slice none 0 0] []:=⟨none,0,[],rfl,Nat.le_refl _,by omega,⟨by simp,fun h=>absurd h (by simp)⟩,fun i x hx=>by simp at hx⟩
section
variable {T:Nat->Prop} {w0 W W':World} {L L':List Fact} {f f' fn fn2:Fact}
end
section
variable {P:Program} {ops:Array Oper} {Q:Exit->Act->World->Prop} {o:Oper} {n:Nat} {ρ:Nat->Value} {ds:List Deferred} {W w w0:World} {K:Act->World->Prop} {T:Nat->Prop} {L L':List Fact} {x y:Operand} {v:Value} {t e:TypeId}
theorem e_stoG {m c k q s g:Nat} {xs:List Value} {L'':Fact->List Fact} (hw:Region.wanted o (yielded ops (st n ρ ds).tmps)=true) (hd:o.dst=none) (ho:o.op=.store t x y) (hx:ev n ρ x=.pointer (some ⟨g,q,none⟩)) (hq:q=k) (hy:ev n ρ y=v) (hv:v.cells=[v].toArray) (hs:(P.info? t).map (·.size)=some 1) (h1:v.oneCell'=true) (H:St T w0 W L) [ht:RowTo e s (.slice (some ⟨g,0,none⟩) m c) m L xs L''] (hk:k<m*s)
  (kk:∀W',St T w0 W' (L'' (Fact.row e s (.slice (some ⟨g,0,none⟩) m c) m (xs.set k v)))->K (st n ρ ds) W'):Step P ops Q o (st n ρ ds) W K:=by
 subst hq
 obtain ⟨M,hp1,hp2⟩:=ht.perm
 have H1:=H.perm hp1
 have h:W.ownsRow 0 e s (.slice (some ⟨g,0,none⟩) m c) m xs:=H1.holds _ (.head _)
 rcases h.2 with ⟨h2,h3⟩|⟨g',cap,cur,hv',hb,hh,h2,h3,h4,h5⟩
 ·cases h2
 ·cases hv'
  have hcur:W.heap[g]?=some (.cells cur.toList.toArray e (0,0)):=by simpa using hh
  have hlen:cur.toList.length=c*s:=by simpa using h4
  have hmc:=Nat.mul_le_mul_right s h2
  have hrun:=run_storeVar (P:=P) W g q t v [v] hv (blk_there hcur (by simp;simp at hlen;omega)) (by simpa using hs) (by simp [h1])
  refine e_do hw hd (W':=W.setCells g q [v]) (by
   unfold Does execOp
   simp [ho,hx,hy,Instr.storeAt,Instr.sureAddr,hrun]) ?_
  have hset:=setCells_heap g [v] q W cur.toList e hcur
  have hspl:spl cur.toList q [v]=cur.toList.set q v:=by rw [spl_cons,spl_nil]
  rw [hspl] at hset
  refine kk _ ((H1.turn0 (f':=Fact.row e s (.slice (some ⟨g,0,none⟩) m c) m (xs.set q v)) (Fr.mono' (setCells_fr g [v] q W) (fun g' hg'=>by subst hg';rfl)) ?_ (fun g hg=>.inl hg)).perm (hp2 _).symm)
  refine ⟨by rw [List.length_set];exact h.1,.inr ⟨g,c,_,rfl,hb,hset,h2,h3,by simp [h4],?_⟩⟩
  rw [List.take_set,h5]
end
theorem row_own {W:World} {e s m c:Nat} {A:Option Addr} {xs:List Value} (h:W.ownsRow 0 e s (.slice A m c) m xs) (hm:0<m):∃g,A=some ⟨g,0,none⟩:=by
 rcases h.2 with ⟨h2,h3⟩|⟨g',cap,cur,hv',_⟩
 ·omega
 ·cases hv'
  exact ⟨g',rfl⟩
theorem q_cell2 {P:Program} {n:Nat} {ρ:Nat->Value} {W w0:World} {T:Nat->Prop} {L:List Fact} {t t':TypeId} {g:Nat} {fn:Func} {R:Ending->World->Prop} {p q:Tmp} {c:List Value} {v:Value} (hr:fn.results=#[.cell p t,.tmp q]) (H:St T w0 W L) (hx:ev n ρ (.tmp p)=.pointer (some ⟨g,0,none⟩)) (ha:aggB P t=some true) [hb:Blk g L c t'] (hs:(P.info? t).map (·.size)=some c.length) (hq:ev n ρ (.tmp q)=v)
  (h:R (.returned (.tuple #[.agg c.toArray,v])) W):bodyPost P fn R .ret (st n ρ []) W:=by
 refine ⟨rfl,.tuple #[.agg c.toArray,v],?_,h⟩
 have hl:(loadVar t ⟨g,0,none⟩).run P W=.ok (.agg c.toArray) W:=loadsM ha hs H.blk
 have hp:(st n ρ []).tmps.getD p undef=.pointer (some ⟨g,0,none⟩):=by rw [st_getD];exact hx
 have hq':(st n ρ []).tmps.getD q undef=v:=by rw [st_getD];exact hq
 have hp2:(st n ρ []).tmps[p]?.getD undef=.pointer (some ⟨g,0,none⟩):=by simpa using hp
 have hq2:(st n ρ []).tmps[q]?.getD undef=v:=by simpa using hq'
 simp [results,hr,hp2,hq2,asAddr,hl]
end Go.Proofs.YtjjodibkmeefpaaGreatDoor
