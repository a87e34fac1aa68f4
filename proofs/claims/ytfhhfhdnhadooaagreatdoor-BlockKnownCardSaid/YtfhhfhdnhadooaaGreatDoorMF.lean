import Derived.Below
import Derived.ChangeSame
import Derived.ChangeArms
import Derived.ChangeVars
import Derived.JoinedOf
import Derived.RowKit
import Derived.Test.YtfhhfhdnhadooaaGreatDoorMT
import Derived.Test.YtfhhfhdnhadooaaGreatDoorRows
import Derived.Lib.LaidTab
import Derived.OpenShut
import Derived.Deep.Strs
import Derived.Test.YtfhhfhdnhadooaaGreatDoorCards
import Derived.Test.YtfhhfhdnhadooaaGreatDoorTie
import Derived.Test.YtfhhfhdnhadooaaGreatDoorMV
import Derived.ProofKit
import Derived.Deep.DeepHandedRow
set_option linter.unusedVariables false
set_option linter.unusedSimpArgs false

namespace Go.Proofs.YtfhhfhdnhadooaaGreatDoor
open Go Go.RowKit Go.WideShapes Go.ChangeShapes

theorem mapM_keep {α β:Type} {f g:α->Option β}:∀(l:List α) (r:List β),l.mapM f=some r->(∀x y,x∈l->y∈r->f x=some y->g x=some y)->l.mapM g=some r
 | [],r,hr,_=>by simp at hr;subst hr;simp
 | a::tl,r,hr,h=>by
  rw [List.mapM_cons] at hr ⊢
  cases hfa:f a with
  | none=>simp [hfa] at hr
  | some y =>
   cases hfs:tl.mapM f with
   | none=>simp [hfa,hfs] at hr
   | some ys =>
    simp [hfa,hfs] at hr
    subst hr
    rw [h a y (by simp) (by simp) hfa,mapM_keep tl ys hfs (fun x z hx hz hf=>h x z (by simp [hx]) (by simp [hz]) hf)]
    rfl

theorem mapM_len {α β:Type} {f:α->Option β}:∀(l:List α) (r:List β),l.mapM f=some r->r.length=l.length
 | [],r,hr=>by simp at hr;subst hr;rfl
 | a::tl,r,hr=>by
  rw [List.mapM_cons] at hr
  cases hfa:f a with
  | none=>simp [hfa] at hr
  | some y =>
   cases hfs:tl.mapM f with
   | none=>simp [hfa,hfs] at hr
   | some ys =>
    simp [hfa,hfs] at hr
    subst hr
    simp [mapM_len tl ys hfs]
def shutB (P:Program):Nat->TypeId->Bool
 | 0,_=>false
 | n+1,t=>match P.underlying t with
  | some (.pointer e)=>shutB P n e
  | some (.slice e)=>decide (0<P.cellsOf e) && shutB P n e
  | some (.struct fs)=>fs.toList.all fun f=>shutB P n f.type
  | some (.array _ e)=>shutB P n e
  | some (.map _ e)=>shutB P n e
  | some (.interface _)=>false
  | _=>true

section
variable {H:Type} {enc:TypeId × Value->H} {P:Program} {w w':World}

theorem cells_keep {base:Nat} {a:Addr} {n:Nat} {cs:List Value} (hb:∀i,i<w.heap.size->w'.heap[i]?=w.heap[i]?) (h:w.cells? base a n=some cs):w'.cells? base a n=some cs:=by
 unfold World.cells? at *
 split
 ·rename_i hle
  rw [if_pos hle] at h
  refine mapM_keep _ _ h (fun i v _ _ hv=>?_)
  rw [←hv]
  have hlt:=block_lt_of_cell hv
  exact World.cell?_of_block (hb _ hlt)
 ·rename_i hle
  rw [if_neg hle] at h
  cases h

theorem row_mem (a:Addr) {n:Nat} (h:0<n):∃p∈MemPlace.row a n,p.block=a.block:=by
 refine ⟨_,List.mem_map.2 ⟨0,List.mem_range.2 h,rfl⟩,rfl⟩

theorem trod_keep (hb:∀i,i<w.heap.size->w'.heap[i]?=w.heap[i]?) {base:Nat} {held:Bool} {sp:Nat->Bool} :
  ∀(fuel:Nat) (t:TypeId) (cs:List Value) (x:DataW H × List MemPlace) (m:Nat),shutB P m t=true->DataW.trod enc P w base (fun _=>true) held fuel t cs=some x->(∀p∈x.2,sp p.block=true)->DataW.trod enc P w' base sp held fuel t cs=some x:=by
 intro fuel
 induction fuel with
 | zero=>intro t cs x m _ h;simp [DataW.trod] at h
 | succ n ih =>
  intro t cs x m hm h hp
  obtain ⟨m,rfl⟩:∃k,m=k+1:=by
   cases m with
   | zero=>cases hm
   | succ k=>exact ⟨k,rfl⟩
  unfold shutB at hm
  unfold DataW.trod at h ⊢
  generalize hu:P.underlying t=u at h hm ⊢
  split at h
  all_goals first|exact h|skip
  · -- a pointer
   rename_i e a
   cases hc:w.cells? base a (P.cellsOf e) with
   | none=>simp [hc] at h
   | some c =>
    cases ht:DataW.trod enc P w base (fun _=>true) held n e c with
    | none=>simp [hc,ht] at h
    | some y =>
     simp [hc,ht] at h
     subst h
     have:=ih e c y m hm ht (fun p hq=>hp p (by simp [hq]))
     simp [cells_keep hb hc,this]
  · -- a slice
   rename_i e a len cap
   obtain ⟨hz,hm⟩:=Bool.and_eq_true_iff.1 hm
   have hz:=of_decide_eq_true hz
   split at h
   case isFalse=>cases h
   rename_i hc
   rw [if_pos hc]
   have elem:∀(i:Nat) (y:DataW H × List MemPlace),(∀p∈y.2,sp p.block=true)->(w.cells? base (a.add (i*P.cellsOf e)) (P.cellsOf e)).bind (DataW.trod enc P w base (fun _=>true) held n e)=some y ->
     (w'.cells? base (a.add (i*P.cellsOf e)) (P.cellsOf e)).bind (DataW.trod enc P w' base sp held n e)=some y:=by
    intro i y hy h
    cases hc:w.cells? base (a.add (i*P.cellsOf e)) (P.cellsOf e) with
    | none=>simp [hc] at h
    | some c =>
     rw [hc] at h
     rw [cells_keep hb hc]
     exact ih e c y m hm h hy
   cases h1:(List.range len).mapM (fun i=>(w.cells? base (a.add (i*P.cellsOf e)) (P.cellsOf e)).bind (DataW.trod enc P w base (fun _=>true) held n e)) with
   | none=>simp [h1] at h
   | some elems =>
    cases h2:(List.range (cap - len)).mapM (fun j=>(w.cells? base (a.add ((len+j)*P.cellsOf e)) (P.cellsOf e)).bind (DataW.trod enc P w base (fun _=>true) held n e)) with
    | none=>simp [h1,h2] at h
    | some rest =>
     simp [h1,h2] at h
     subst h
     have l1:=mapM_len _ _ h1
     have l2:=mapM_len _ _ h2
     rw [List.length_range] at l1 l2
     have g1:=mapM_keep (g:=fun i=>(w'.cells? base (a.add (i*P.cellsOf e)) (P.cellsOf e)).bind (DataW.trod enc P w' base sp held n e)) _ _ h1
      (fun i y _ hy hf=>elem i y (fun p hq=>hp p (by simp;exact .inr (.inl ⟨_,_,hy,hq⟩))) hf)
     have g2:=mapM_keep (g:=fun j=>(w'.cells? base (a.add ((len+j)*P.cellsOf e)) (P.cellsOf e)).bind (DataW.trod enc P w' base sp held n e)) _ _ h2
      (fun i y _ hy hf=>elem (len+i) y (fun p hq=>hp p (by simp;exact .inr (.inr ⟨_,_,hy,hq⟩))) hf)
     simp only [g1,Option.bind_some]
     by_cases h0:cap=0
     ·have hl0:cap - len=0:=by omega
      obtain rfl:rest=[]:=List.eq_nil_of_length_eq_zero (by omega)
      split <;> simp [hl0]
     ·have hsp:sp a.block=true:=by
       obtain ⟨p,hm,hpb⟩:=row_mem a (n:=(elems.length+rest.length)*P.cellsOf e) (Nat.mul_pos (by omega) hz)
       rw [←hpb]
       exact hp p (by simp only [List.mem_append];exact .inl hm)
      rw [if_pos hsp,g2]
      simp
  · -- a struct
   rename_i fs
   split at h
   case isFalse=>cases h
   rename_i hc
   rw [if_pos hc]
   cases h1:fs.toList.mapM (fun f=>DataW.trod enc P w base (fun _=>true) held n f.type ((cs.drop f.offset).take (P.cellsOf f.type))) with
   | none=>simp [h1] at h
   | some xs =>
    simp [h1] at h
    subst h
    rw [mapM_keep _ _ h1 (fun f y hfs hy hf=>ih _ _ y m (List.all_eq_true.1 hm f hfs) hf (fun p hq=>hp p (by simp;exact ⟨_,_,hy,hq⟩)))]
    simp
  · -- an array
   rename_i m' e
   split at h
   case isFalse=>cases h
   rename_i hc
   rw [if_pos hc]
   cases h1:(List.range m').mapM (fun i=>DataW.trod enc P w base (fun _=>true) held n e ((cs.drop (i*P.cellsOf e)).take (P.cellsOf e))) with
   | none=>simp [h1] at h
   | some xs =>
    simp [h1] at h
    subst h
    rw [mapM_keep _ _ h1 (fun f y _ hy hf=>ih _ _ y m hm hf (fun p hq=>hp p (by simp;exact ⟨_,_,hy,hq⟩)))]
    simp
  · -- an interface value
   cases hm
  · -- a map
   rename_i k e b
   cases hbk:w.heap[b]? with
   | none=>simp [hbk] at h
   | some o =>
    have hlt:b<w.heap.size:=(Array.getElem?_eq_some_iff.1 hbk).1
    rw [hb b hlt,hbk]
    rw [hbk] at h
    cases o with
    | map es clock =>
     simp only at h ⊢
     split at h
     case isFalse=>cases h
     rename_i hc
     rw [if_pos hc]
     cases h1:es.toList.mapM (fun x=>(keyOf P k x.key).bind fun key=>if x.val.formed P e then (DataW.trod enc P w base (fun _=>true) held n e x.val.cells.toList).map fun y=>((key,y.1),y.2) else none) with
     | none=>simp [h1] at h
     | some entries =>
      rw [h1] at h
      simp only [Option.bind_some] at h
      split at h
      case isFalse=>cases h
      rename_i hr
      have hx:x=(.map ((entries.map (·.1)).foldr DataW.insert []),.map b::entries.flatMap (·.2)):=(Option.some.inj h).symm
      subst hx
      rw [mapM_keep (g:=fun x=>(keyOf P k x.key).bind fun key=>if x.val.formed P e then (DataW.trod enc P w' base sp held n e x.val.cells.toList).map fun y=>((key,y.1),y.2) else none) _ _ h1 ?_]
      ·simp only [Option.bind_some]
       rw [if_pos hr]
      ·intro q y _ hy hf
       cases hk:keyOf P k q.key with
       | none=>simp [hk] at hf
       | some key =>
        rw [hk] at hf
        simp only [Option.bind_some] at hf ⊢
        split at hf
        case isFalse=>cases hf
        rename_i hfm
        rw [if_pos hfm]
        cases h2:DataW.trod enc P w base (fun _=>true) held n e q.val.cells.toList with
        | none=>simp [h2] at hf
        | some z =>
         simp [h2] at hf
         subst hf
         rw [ih _ _ z m hm h2 (fun p hq=>hp p (by simp;exact .inr ⟨_,_,_,hy,hq⟩))]
         rfl
    | _=>cases h
  all_goals exact h

theorem trodAll_keep (hb:∀i,i<w.heap.size->w'.heap[i]?=w.heap[i]?) {base:Nat} {held:Bool} {sp:Nat->Bool} :
  ∀{ts:List TypeId} {vs:List Value} {ds:List (DataW H)} {ps:List MemPlace},ts.all (shutB P 30)=true->DataW.TrodAll enc P w base (fun _=>true) held ts vs ds ps->(∀p∈ps,sp p.block=true)->DataW.TrodAll enc P w' base sp held ts vs ds ps
 | [],[],[],_,_,h,_=>h
 | _::_,_::_,_::_,_,hz,⟨p,q,⟨n,h⟩,hs,e⟩,hp=>⟨p,q,⟨n,trod_keep hb n _ _ _ 30 (Bool.and_eq_true_iff.1 hz).1 h (fun x hx=>hp x (by subst e;simp [hx]))⟩,trodAll_keep hb (Bool.and_eq_true_iff.1 hz).2 hs (fun x hx=>hp x (by subst e;simp [hx])),e⟩

theorem post_stay {f:Func} {s:ChangeSpec} {apart fresh handsOn again:Bool} {W W':World} {args:Array Value} {ds:List (DataW H)} {before:List MemPlace} {tb:TypeId}
  (hz:f.params.toList.all (shutB P 30)=true)
  (hW:DataW.Whole enc P f.params.toList s.vars apart W args.toList ds [] before) (hv:s.vars=[]) (hr:f.resultTypes=#[tb]) (htb:P.underlying tb=some .bool)
  (hs:s.fn H (ds++[])={ results:=[.lit (.bool true)],args:=ds }) (hb:Below W.heap.size W W') :
  s.post enc P f apart fresh handsOn again W args (.bool true) W':=by
 obtain ⟨p,q,hA,hV,rfl,hfz,hnd⟩:=id hW
 have hq:q=[]:=by rw [hv] at hV;exact hV
 subst hq
 have hlt:∀x∈p++[],x.block<W.heap.size:=fun x hx=>hW.lt x hx
 have hres:∀(b:Nat) (sp:Nat->Bool) (hd:Bool),DataW.TrodAll enc P W' b sp hd f.resultTypes.toList ((Value.bool true).resultList f.resultTypes.size) (s.fn H (ds++[])).results []:=fun b sp hd=>by
  rw [hs,hr]
  exact trodAll_mk1 (shut_bool htb true)
 have hargs:∀sp:Nat->Bool,(∀x∈p++[],sp x.block=true)->DataW.TrodAll enc P W' 0 sp true f.params.toList args.toList (s.fn H (ds++[])).args p:=fun sp h=>by
  rw [hs]
  exact trodAll_keep (fun i hi=>hb.block i hi) hz hA (fun x hx=>h x (by simp [hx]))
 have hvars:∀sp:Nat->Bool,DataW.TrodVars enc P W' sp s.vars (s.fn H (ds++[])).vars []:=fun sp=>by
  rw [hs,hv]
  exact rfl
 have hold:∀x∈p++[],(fun b=>decide (b<W.heap.size)) x.block=true:=fun x hx=>by simpa using hlt x hx
 refine ⟨ds,[],p++[],[],p,[],hW,hres _ _ _,hargs _ hold,hvars _,World.keptBut_mono (fun x hx=>⟨hx,.inr (List.mem_append.1 hx)⟩) (hb.frame (·∈p++[])),fun _=>?_⟩
 refine ⟨?_,_,_,([]++p)++[],⟨[]++p,[],trodAll_append (hargs _ (fun _ _=>rfl)) (hres _ _ _),hvars _,rfl,?_,?_⟩,?_⟩
 ·intro j t r ht hrr
  rw [hr] at ht hrr
  rcases j with _|j
  ·simp at ht
   subst ht
   have:r=.bool true:=by
    have:((Value.bool true).resultList 1)[0]?=some r:=by simpa using hrr
    simpa [Value.resultList] using this.symm
   subst this
   exact okWide_bool_mk htb _
  ·simp at ht
 ·intro b off hx
  have hin:MemPlace.cell b off∈p++[]:=by simpa using hx
  rw [hb.frozen (hlt _ hin)]
  exact hfz b off hin
 ·intro ha
  simpa using hnd ha
 ·intro x hx _
  simpa using hx
end
end Go.Proofs.YtfhhfhdnhadooaaGreatDoor

namespace Go.Proofs.YtfhhfhdnhadooaaGreatDoor
open Go Go.RowKit Go.WideShapes Go.ChangeShapes Go.Deep

theorem g_forms : Tryz.prog.globalNamed "mangrove/pack.forms" = some 0 := by kernel_rfl
theorem gt_forms:(Tryz.prog.globals[0]?).map (·.type)=some 107:=by kernel_rfl
theorem cf5:Tryz.prog.cellsOf 5=1:=by kernel_rfl
theorem cf3:Tryz.prog.cellsOf 3=1:=by kernel_rfl
theorem cf22:Tryz.prog.cellsOf 104=1:=by kernel_rfl
theorem cf91:Tryz.prog.cellsOf 106=3:=by kernel_rfl
theorem form_cells {H:Type} {enc:TypeId × Value->H} {W:World} {sp:Nat->Bool} {hd:Bool} {m:Nat} {c:List Value} {x:DataW H × List MemPlace} (h:DataW.trod enc Tryz.prog W 0 sp hd m 106 c=some x) {a b d:Int} (hx:x.1=.agg [.lit (.int .u8 a),.lit (.int .i64 b),.lit (.int .u64 d)]) :
  (c.drop 0).take 1=[.int .u8 a]∧(c.drop 1).take 1=[.int .i64 b]∧(c.drop 2).take 1=[.int .u64 d]:=by
 obtain ⟨y0,y1,y2,n,rfl,_,h0,h1,h2⟩:=trod_struct3 Tryz.underlying106 h
 simp only [DataW.agg.injEq,List.cons.injEq,and_true] at hx
 obtain ⟨e0,e1,e2⟩:=hx
 dsimp only at h0 h1 h2
 rw [cf5] at h0
 rw [cf3] at h1
 rw [cf22] at h2
 obtain ⟨z0,g0,rfl,_⟩:=DataW.trod_int Tryz.underlying5 h0
 obtain ⟨z1,g1,rfl,_⟩:=DataW.trod_int Tryz.underlying3 h1
 obtain ⟨z2,g2,rfl,_⟩:=DataW.trod_int Tryz.underlying104 h2
 cases e0;cases e1;cases e2
 exact ⟨g0,g1,g2⟩
theorem el3 {l:List Value} {a b:Nat} {v:Value} (h:(((l.drop a).take 3).drop b).take 1=[v]) (hb:b<3):l[a+b]?=some v:=by
 have h0:((((l.drop a).take 3).drop b).take 1)[0]?=some v:=by rw [h];rfl
 rw [List.getElem?_take_of_lt (by omega),List.getElem?_drop,List.getElem?_take_of_lt (by omega),List.getElem?_drop] at h0
 simpa using h0
theorem gl_forms {W : World} (h : laidMet Tryz.prog [("mangrove/pack.forms", Rows.laid_mangrove_pack_forms)] W) : Gat W 0 formsC := by
 obtain ⟨ps,⟨g,t,cs,fuel,p,q,hg,ht,hvar,hd,_,_⟩,_⟩:=h
 obtain rfl:=Option.some.inj (g_forms.symm.trans hg)
 obtain rfl:=Option.some.inj (gt_forms.symm.trans ht)
 obtain ⟨xs,m,_,hx,hlen,hxl,hel⟩:=DataW.trod_array Tryz.underlying107 hd
 have hcell:=World.var?_cell g_forms hvar
 match xs,hxl with
 | [x0,x1,x2],_ =>
  have hx1:=congrArg Prod.fst hx
  simp only [Rows.laid_mangrove_pack_forms,List.map_cons,List.map_nil,DataW.agg.injEq,List.cons.injEq,and_true] at hx1
  obtain ⟨e0,e1,e2⟩:=hx1
  have f0:=hel 0 (by omega)
  have f1:=hel 1 (by omega)
  have f2:=hel 2 (by omega)
  simp only [cf91] at f0 f1 f2
  obtain ⟨a0,a1,a2⟩:=form_cells f0 e0.symm
  obtain ⟨b0,b1,b2⟩:=form_cells f1 e1.symm
  obtain ⟨d0,d1,d2⟩:=form_cells f2 e2.symm
  have k0:=el3 a0 (by omega);have k1:=el3 a1 (by omega);have k2:=el3 a2 (by omega)
  have k3:=el3 b0 (by omega);have k4:=el3 b1 (by omega);have k5:=el3 b2 (by omega)
  have k6:=el3 d0 (by omega);have k7:=el3 d1 (by omega);have k8:=el3 d2 (by omega)
  have hg:∀j v,formsC[j]?=some v->W.cell? ⟨0,0+j,none⟩=some v:=fun j v hv=>by
   rw [Nat.zero_add,hcell j,←Array.getElem?_toList]
   match j,hv with
   | 0,hv=>rw [←hv];exact k0
   | 1,hv=>rw [←hv];exact k1
   | 2,hv=>rw [←hv];exact k2
   | 3,hv=>rw [←hv];exact k3
   | 4,hv=>rw [←hv];exact k4
   | 5,hv=>rw [←hv];exact k5
   | 6,hv=>rw [←hv];exact k6
   | 7,hv=>rw [←hv];exact k7
   | 8,hv=>rw [←hv];exact k8
   | j+9,hv=>simp [formsC] at hv
  exact ⟨block_lt_of_cell (hg 0 _ rfl),hg⟩
end Go.Proofs.YtfhhfhdnhadooaaGreatDoor

namespace Go.Proofs.YtfhhfhdnhadooaaGreatDoor
open Go Go.RowKit Go.WideShapes Go.ChangeShapes Go.ChangeAt

theorem own:ownKnob Tryz.prog.godebug=none:=by kernel_rfl
theorem laid_cons {P:Program} {x:String × DataW Unit} {L:List (String × DataW Unit)} {W:World} (h:laidMet P (x::L) W):laidMet P [x] W∧laidMet P L W:=by
 obtain ⟨n,d⟩:=x
 obtain ⟨ps,⟨g,t,cs,fuel,p,q,h1,h2,h3,h4,h5,rfl⟩,hnd,hc⟩:=h
 have hn:=List.nodup_append.1 hnd
 refine ⟨⟨MemPlace.row ⟨g,0,none⟩ cs.size++p++[],⟨g,t,cs,fuel,p,[],h1,h2,h3,h4,rfl,rfl⟩,by rw [List.append_nil];exact hn.1,fun b off hb=>hc b off ?_⟩,⟨q,h5,hn.2.1,fun b off hb=>hc b off ?_⟩⟩
 ·rw [List.append_nil] at hb
  exact List.mem_append.2 (.inl hb)
 ·exact List.mem_append.2 (.inr hb)
def putCells (cs:Array Value):Obj->Obj
 | .cells _ t frozen=>.cells cs t frozen
 | o=>o
noncomputable def laidWorld (os:Os):World :=
 let w:=World.holding Tryz.prog os ⟨#[],#[],[]⟩
 let h:=w.heap.modify 0 (putCells formsC.toArray)
 { w with heap:=h }
end Go.Proofs.YtfhhfhdnhadooaaGreatDoor
