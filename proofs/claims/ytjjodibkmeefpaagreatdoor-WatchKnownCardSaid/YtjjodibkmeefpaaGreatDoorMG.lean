import Derived.Test.YtjjodibkmeefpaaGreatDoorMO
import Derived.Test.YtjjodibkmeefpaaGreatDoorRows
import Derived.Lib.LaidTab
import Derived.OpenShut
import Derived.Test.YtjjodibkmeefpaaGreatDoorMF
set_option linter.unusedVariables false
set_option linter.unusedSimpArgs false

namespace Go.Proofs.YtjjodibkmeefpaaGreatDoor
open Go Go.RowKit Old

def ordersB:List (List UInt8):=[
 [48,49,50,51,52,53,54,55,56,57,97,98,99,100,101,102],
 [101,97,52,56,57,102,100,54,49,99,48,50,98,55,53,51],
 [98,56,99,48,53,50,102,100,97,101,51,54,55,49,57,52],
 [55,57,51,49,100,99,98,101,50,54,53,97,52,48,102,56],
 [57,48,53,55,50,52,97,102,101,49,98,99,54,56,51,100],
 [50,99,54,97,48,98,56,51,52,100,55,53,102,101,49,57],
 [99,53,49,102,101,100,52,97,48,55,54,51,57,50,56,98],
 [100,98,55,101,99,49,51,57,53,48,102,52,56,54,50,97],
 [54,102,101,57,98,51,48,56,99,50,100,55,49,52,97,53],
 [97,50,56,52,55,54,49,53,102,98,57,101,51,99,100,48]]
theorem orders_ok:∀i,i<10->(ordersB.getD i []).length=16∧(ordersB.getD i []).map dig=Bl.orders.getD i []∧∀c∈ordersB.getD i [],48<=c.toNat∧dig c<16:=by
 decide +kernel

theorem gg_begins : Tryz.prog.globalNamed "mangrove/blake.begins" = some 0 := by kernel_rfl
theorem gg_orders : Tryz.prog.globalNamed "mangrove/blake.orders" = some 1 := by kernel_rfl
theorem gt_begins:(Tryz.prog.globals[0]?).map (·.type)=some 107:=by kernel_rfl
theorem gt_orders:(Tryz.prog.globals[1]?).map (·.type)=some 124:=by kernel_rfl
theorem cells_words:Tryz.prog.cellsOf 107=8:=by kernel_rfl
theorem cells_u32:Tryz.prog.cellsOf 105=1:=by kernel_rfl
theorem cells_str:Tryz.prog.cellsOf 9=1:=by kernel_rfl

def beginsZ:List Int:=[1779033703,3144134277,1013904242,2773480762,1359893119,2600822924,528734635,1541459225]
theorem gl_blake {W : World} (h : laidMet Tryz.prog [("mangrove/blake.begins", Rows.laid_mangrove_blake_begins)] W) (h' : laidMet Tryz.prog [("mangrove/blake.orders", Rows.laid_mangrove_blake_orders)] W) : Old.Gl W := by
 obtain ⟨ps,⟨g,t,cs,fuel,p,q,hg,ht,hvar,hd0,_,_⟩,_⟩:=h
 obtain ⟨ps2,⟨g2,t2,cs2,fuel2,p2,q2,hg2,ht2,hvar2,hd20,_,_⟩,_⟩:=h'
 have hd:DataW.trod (fun _=>()) Tryz.prog W 0 (fun _=>true) false fuel t cs.toList=some (Lib.tabData .u32 beginsZ,p):=hd0
 have hd2:DataW.trod (fun _=>()) Tryz.prog W 0 (fun _=>true) false fuel2 t2 cs2.toList=some (.agg (ordersB.map fun s=>.lit (.string s)),p2):=hd20
 obtain rfl:=Option.some.inj (gg_begins.symm.trans hg)
 obtain rfl:=Option.some.inj (gt_begins.symm.trans ht)
 obtain rfl:=Option.some.inj (gg_orders.symm.trans hg2)
 obtain rfl:=Option.some.inj (gt_orders.symm.trans ht2)
 constructor
 ·intro i hi
  have hc:=Lib.cells_of_tab Tryz.underlying107 Tryz.underlying105 cells_u32 cells_words hd
  have hw:=World.var?_cell gg_begins hvar i
  rw [hw,←Array.getElem?_toList,hc]
  match i,hi with
  | 0,_=>rfl
  | 1,_=>rfl
  | 2,_=>rfl
  | 3,_=>rfl
  | 4,_=>rfl
  | 5,_=>rfl
  | 6,_=>rfl
  | 7,_=>rfl
 ·intro i hi
  obtain ⟨xs,m,_,hx,hlen,hxl,hel⟩:=DataW.trod_array Tryz.underlying124 hd2
  have hxs:xs.map (·.1)=ordersB.map fun s=>(DataW.lit (.string s):DataW Unit):=by
   have:=congrArg Prod.fst hx
   simpa using this.symm
  have he:=hel i hi
  rw [cells_str] at he
  have hil:i<xs.length:=by omega
  rw [List.getElem?_eq_getElem hil] at he
  obtain ⟨s,e1,e2,_⟩:=DataW.trod_string Tryz.underlying9 he
  have hw:=World.var?_cell gg_orders hvar2 i
  have e3:cs2[i]?=some (.string s):=by
   rw [←Array.getElem?_toList]
   have:(cs2.toList.drop (i*1)).take 1=[.string s]:=e1
   rw [Nat.mul_one] at this
   have h0:((cs2.toList.drop i).take 1)[0]?=some (.string s):=by rw [this];rfl
   simpa using h0
  have e4:s.data.toList=ordersB.getD i []:=by
   have h5:(xs.map (·.1))[i]?=some xs[i].1:=by simp [hil]
   rw [hxs,e2,List.getElem?_map] at h5
   have hio:i<ordersB.length:=by simp [ordersB];omega
   rw [List.getElem?_eq_getElem hio] at h5
   rw [List.getD_eq_getElem?_getD,List.getElem?_eq_getElem hio]
   simpa using h5.symm
  obtain ⟨o1,o2,o3⟩:=orders_ok i hi
  refine ⟨s,by rw [hw,e3],?_,by rw [e4];exact o2,fun j c hc=>o3 c (by rw [←e4];exact List.mem_of_getElem? hc)⟩
  rw [←e4] at o1
  simpa using o1
end Go.Proofs.YtjjodibkmeefpaaGreatDoor

namespace Go.Proofs.YtjjodibkmeefpaaGreatDoor
open Go Go.RowKit Go.WideShapes Go.ChangeShapes Go.ChangeAt

noncomputable def laidWorld5 (os:Os):World :=
 let w:=World.holding Tryz.prog os ⟨#[],#[],[]⟩
 let h1:=w.heap.modify 2 (putCells formsC.toArray)
 let h2:=h1.modify 0 (putCells (beginsZ.map (Value.int .u32)).toArray)
 let h3:=h2.modify 1 (putCells (ordersB.map fun s=>Value.string ⟨s.toArray⟩).toArray)
 { w with heap:=h3 }
theorem gl_three {W : World} (h : laidMet Tryz.prog [("mangrove/blake.begins", Rows.laid_mangrove_blake_begins), ("mangrove/blake.orders", Rows.laid_mangrove_blake_orders), ("mangrove/pack.forms", Rows.laid_mangrove_pack_forms)] W) : Gat W 2 formsC ∧ Old.Gl W := by
 obtain ⟨h1,h2⟩:=laid_cons h
 obtain ⟨h3,h4⟩:=laid_cons h2
 exact ⟨gl_forms h4,gl_blake h1 h3⟩
end Go.Proofs.YtjjodibkmeefpaaGreatDoor
