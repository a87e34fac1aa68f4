import Derived.Test.YtjjodibkmeefpaaGreatDoorMV
import Derived.SizedLaws
import Derived.Test.YtjjodibkmeefpaaGreatDoorMX
import Derived.Test.YtjjodibkmeefpaaGreatDoorProg
import Derived.KernelRfl
set_option linter.unusedVariables false
set_option linter.unusedSimpArgs false

namespace Go.Proofs.YtjjodibkmeefpaaGreatDoor
open Go Go.RowKit Go.WideShapes Go.ChangeShapes Go.Deep

def Sizes (P:Program) (t:TypeId) {α:Type} (R:Rep α) (Z:α->Prop):Prop:=∀(H:Type) (enc:TypeId × Value->H) (W:World) (sp:Nat->Bool) (hd:Bool) (fuel:Nat) (cs:List Value) (x:DataW H × List MemPlace) (S:Nat->Prop) (a:α),DataW.trod enc P W 0 sp hd fuel t cs=some x->R W S cs a->(∀n∈x.1.weights P t,n<=reachBytes)->Z a
section
variable {P:Program} {t e:TypeId}
theorem mem_all {H:Type} {P:Program} {e:TypeId} {d:DataW H}:∀{l:List (DataW H)},d∈l->∀n∈d.weights P e,n∈DataW.weightsAll P e l
 | x::l,h,n,hn=>by
  simp only [DataW.weightsAll,List.mem_append]
  rcases List.mem_cons.1 h with rfl|h
  ·exact .inl hn
  ·exact .inr (mem_all h n hn)
theorem w_slice {H:Type} {es sp:List (DataW H)} (hu:P.underlying t=some (.slice e)):(DataW.slice es sp).weights P t=(es.length+sp.length)*P.bytesOf e::(DataW.weightsAll P e es++DataW.weightsAll P e sp):=by simp [DataW.weights,hu]
theorem sizes_B (hu:P.underlying t=some (.slice e)) (hb:P.bytesOf e=1):Sizes P t RB (fun l=>l.length<=140737488355328):=fun H enc W sp hd fuel cs x S l h hR hw=>by
 obtain ⟨v,rfl,hB⟩:=hR
 obtain ⟨A,c,rfl,_⟩:=hB.op
 rcases open_slice hu h with ⟨h1,_⟩|⟨a,len,cap,m,n,D,Pl,h1,_,hl,hm,hmm,rfl,hx⟩
 ·have h2:=(List.cons.inj h1).1
  injection h2 with _ h3 _
  omega
 ·have h2:=(List.cons.inj h1).1
  injection h2 with _ h3 _
  rw [w_slice hu] at hw
  have:=hw _ (.head _)
  rw [hb,List.length_map,List.length_range] at this
  have hr:reachBytes=140737488351232:=rfl
  omega
theorem sizes_L {α:Type} {R:Rep α} {Z:α->Prop} {s:Nat} (hu:P.underlying t=some (.slice e)) (hc:P.cellsOf e=s) (hZ:Sizes P e R Z):Sizes P t (RL s R) (fun l=>∀x∈l,Z x):=fun H enc W sp hd fuel cs x S l h hR hw y hy=>by
 obtain ⟨i,hi⟩:=List.getElem?_of_mem hy
 have hil:=(List.getElem?_eq_some_iff.1 hi).1
 obtain ⟨A,c,xs,rfl,_,_,hr,hel⟩:=hR
 rcases open_slice hu h with ⟨h1,_⟩|⟨a,len,cap,m,n,D,Pl,h1,_,hl,hm,hmm,rfl,hx⟩
 ·have h2:=(List.cons.inj h1).1
  injection h2 with _ h3 _
  omega
 ·have h2:=(List.cons.inj h1).1
  injection h2 with hA h3 _
  subst hA
  have hlm:len<=m:=by rw [hmm];split <;> omega
  obtain ⟨cs',g1,g2⟩:=hx i (by omega)
  rw [hc] at g1
  obtain ⟨_,g3,g4⟩:=World.cells?_some g1
  have hs:cs'=Go.Proofs.YtjjodibkmeefpaaGreatDoor.sub xs (i*s) s:=by
   obtain ⟨g,o,e1,_,e3⟩:=hr.2 (by omega)
   cases e1
   unfold Go.Proofs.YtjjodibkmeefpaaGreatDoor.sub
   apply List.ext_getElem?
   intro j
   rcases Nat.lt_or_ge j s with hj|hj
   ·rw [List.getElem?_take_of_lt hj,List.getElem?_drop,←g4 j hj]
    have hlt:i*s+j<xs.length:=by
     have:=Nat.mul_le_mul_right s (show i+1<=l.length by omega)
     rw [Nat.add_mul] at this
     rw [hr.1];omega
    have:=e3 (i*s+j) _ (List.getElem?_eq_getElem hlt)
    rw [Addr.add_mid,Addr.add_mid,Nat.add_assoc,this,List.getElem?_eq_getElem hlt]
   ·rw [List.getElem?_eq_none (by omega),List.getElem?_eq_none (by rw [List.length_take];omega)]
  subst hs
  refine hZ _ _ _ _ _ _ _ _ _ _ g2 (hel i y hi) (fun k hk=>hw k ?_)
  rw [w_slice hu]
  refine List.mem_cons_of_mem _ (List.mem_append.2 (.inl (mem_all (d:=D i) ?_ k hk)))
  exact List.mem_map_of_mem (f:=D) (List.mem_range.2 (by omega))
theorem sized_field {H:Type} {enc:TypeId × Value->H} {W:World} {sp:Nat->Bool} {hd:Bool} {fuel i:Nat} {cs:List Value} {x:DataW H × List MemPlace} {fs:Array Field} {f:Field} (hu:P.underlying t=some (.struct fs)) (h:DataW.trod enc P W 0 sp hd fuel t cs=some x) (hf:fs[i]?=some f) (hw:∀n∈x.1.weights P t,n<=reachBytes) :
  ∃n y,DataW.trod enc P W 0 sp hd n f.type (Go.Proofs.YtjjodibkmeefpaaGreatDoor.sub cs f.offset (P.cellsOf f.type))=some y∧∀k∈y.1.weights P f.type,k<=reachBytes:=by
 obtain ⟨xs,n,_,rfl,hl,hlen,hel⟩:=DataW.trod_struct hu h
 have h1:=hel i f hf
 have hi:i<fs.size:=(Array.getElem?_eq_some_iff.1 hf).1
 rw [List.getElem?_eq_getElem (show i<xs.length by omega)] at h1
 refine ⟨n,_,h1,fun k hk=>hw k ?_⟩
 have e:(DataW.agg (xs.map (·.1))).weights P t=DataW.weightsEach P (fs.toList.map (·.type)) (xs.map (·.1)):=by simp [DataW.weights,hu]
 rw [e]
 refine DataW.weights_mem_each (j:=i) (t:=f.type) (d:=xs[i].1) ?_ ?_ k hk
 ·rw [List.getElem?_map]
  have:fs.toList[i]?=some f:=by rw [Array.getElem?_toList];exact hf
  rw [this];rfl
 ·rw [List.getElem?_map,List.getElem?_eq_getElem (show i<xs.length by omega)];rfl
theorem sized_arg {α:Type} {R:Rep α} {Z:α->Prop} (hZ:Sizes P t R Z) {H:Type} {enc:TypeId × Value->H} {W:World} {sp:Nat->Bool} {hd:Bool} {v:Value} {d:DataW H} {p:List MemPlace} {S:Nat->Prop} {a:α} {ts:List TypeId} {ds:List (DataW H)} {j:Nat} (h:DataW.Trod enc P W 0 sp hd t v d p) (hR:R W S v.cells.toList a) (hw:(DataW.weightsEach P ts ds).all (·<=reachBytes)=true) (ht:ts[j]?=some t) (hd:ds[j]?=some d):Z a:=by
 obtain ⟨fuel,h⟩:=h
 refine hZ _ _ _ _ _ _ _ _ _ _ h hR (fun n hn=>?_)
 have:=List.all_eq_true.1 hw n (DataW.weights_mem_each ht hd n hn)
 simpa using this
end
end Go.Proofs.YtjjodibkmeefpaaGreatDoor

namespace Go.Proofs.YtjjodibkmeefpaaGreatDoor
open Go Go.RowKit Go.WideShapes Go.ChangeShapes Go.Deep

theorem bytes_u8:Tryz.prog.bytesOf 5=1:=by kernel_rfl
theorem sizes_wit:Sizes Tryz.prog 66 (RL 1 RB) (fun l=>∀b∈l,b.length<=140737488355328):=sizes_L Tryz.underlying66 ce23 (sizes_B Tryz.underlying23 bytes_u8)
theorem sizes_In:Sizes Tryz.prog 71 RIn (fun x=>∀b∈x.wit,b.length<=140737488355328):=fun H enc W sp hd fuel cs x S a h hR hw=>by
 obtain ⟨c0,c1,rfl,h0,h1⟩:=hR
 have l0:=lens_Point _ _ _ _ h0
 have l1:c1.length=1:=lens_L _ _ _ _ h1
 obtain ⟨n,y,g1,g2⟩:=sized_field (i:=1) Tryz.underlying71 h rfl hw
 replace g1:DataW.trod enc Tryz.prog W 0 sp hd n 66 (sub (c0++c1) 33 (Tryz.prog.cellsOf 66))=some y:=g1
 rw [ce66,sub_In_1 l0 l1] at g1
 exact sizes_wit _ _ _ _ _ _ _ _ _ _ g1 h1 g2
theorem sizes_Out:Sizes Tryz.prog 41 ROut (fun o=>o.script.length<=140737488355328):=fun H enc W sp hd fuel cs x S a h hR hw=>by
 obtain ⟨c0,c1,rfl,h0,h1⟩:=hR
 have l0:c0.length=1:=lens_I _ _ _ _ h0
 have l1:c1.length=1:=lens_B _ _ _ _ h1
 obtain ⟨n,y,g1,g2⟩:=sized_field (i:=1) Tryz.underlying41 h rfl hw
 replace g1:DataW.trod enc Tryz.prog W 0 sp hd n 23 (sub (c0++c1) 1 (Tryz.prog.cellsOf 23))=some y:=g1
 rw [ce23,sub_Out_1 l0 l1] at g1
 exact sizes_B Tryz.underlying23 bytes_u8 _ _ _ _ _ _ _ _ _ _ g1 h1 g2
theorem sizes_Tx:Sizes Tryz.prog 47 RTx Tx.Szd:=fun H enc W sp hd fuel cs x S a h hR hw=>by
 obtain ⟨c0,c1,c2,rfl,h0,h1,h2⟩:=hR
 have l0:c0.length=1:=lens_L _ _ _ _ h0
 have l1:c1.length=1:=lens_L _ _ _ _ h1
 obtain ⟨n,y,g1,g2⟩:=sized_field (i:=0) Tryz.underlying47 h rfl hw
 obtain ⟨n',y',g3,g4⟩:=sized_field (i:=1) Tryz.underlying47 h rfl hw
 replace g1:DataW.trod enc Tryz.prog W 0 sp hd n 44 (sub (c0++(c1++c2)) 0 (Tryz.prog.cellsOf 44))=some y:=g1
 replace g3:DataW.trod enc Tryz.prog W 0 sp hd n' 45 (sub (c0++(c1++c2)) 1 (Tryz.prog.cellsOf 45))=some y':=g3
 rw [ce44,sub_Tx_0 l0] at g1
 rw [ce45,sub_Tx_1 l0 l1] at g3
 exact ⟨sizes_L Tryz.underlying44 ce71 sizes_In _ _ _ _ _ _ _ _ _ _ g1 h0 g2,sizes_L Tryz.underlying45 ce41 sizes_Out _ _ _ _ _ _ _ _ _ _ g3 h1 g4⟩
end Go.Proofs.YtjjodibkmeefpaaGreatDoor
