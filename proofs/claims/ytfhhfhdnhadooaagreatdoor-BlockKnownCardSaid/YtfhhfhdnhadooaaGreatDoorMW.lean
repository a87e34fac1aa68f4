import Derived.Test.YtfhhfhdnhadooaaGreatDoorMZ
import Derived.Test.YtfhhfhdnhadooaaGreatDoorMV
import Derived.SizedLaws
import Derived.Test.YtfhhfhdnhadooaaGreatDoorMX
import Derived.Test.YtfhhfhdnhadooaaGreatDoorProg
import Derived.KernelRfl
set_option linter.unusedVariables false
set_option linter.unusedSimpArgs false
set_option maxHeartbeats 4000000

namespace Go.Proofs.YtfhhfhdnhadooaaGreatDoor
open Go Go.RowKit
attribute [local irreducible] wpList

def Tx.smallP:DPoint:=⟨1::List.replicate 31 0,2⟩
def Tx.small:DTx:=⟨[⟨Tx.smallP,[]⟩],[⟨5,[]⟩],0⟩
namespace Sm
theorem chk:Tx.chk Tx.small=0:=by decide +kernel
theorem weight:Tx.weight Tx.small=153:=by decide +kernel
theorem bare:(Tx.put Tx.small).take 38=Tx.bareB Tx.small:=by decide +kernel
theorem ok:Tx.Ok Tx.small:=⟨fun x hx=>by
 obtain rfl:x=⟨Tx.smallP,[]⟩:=by simpa [Tx.small] using hx
 exact ⟨U,by decide,by decide⟩,fun o ho=>by
 obtain rfl:o=⟨5,[]⟩:=by simpa [Tx.small] using ho
 exact ⟨by decide,by decide⟩,by decide,by decide⟩
theorem dig:Tx.dig Tx.tTx Tx.small=Old.Bl.tagged Tx.tTx.data.toList ((Tx.put Tx.small).take 38):=by
 unfold Tx.dig
 rw [if_pos chk,bare]
end Sm
theorem Bs.first {W:World} {S:Nat->Prop} {A:Option Addr} {n c h:Nat} {l:List UInt8} (hb:Bs W S (.slice A n c) l) (hl:l.length=n) (hh:h<=n):Bs W S (.slice A h c) (l.take h):=by
 obtain ⟨A',c',hv,h1,h2,h3⟩:=hb.op
 cases hv
 have hc:=h3.cut (a:=0) (b:=h) (c:=c) (Nat.zero_le _) (by omega) (by omega)
 refine Bs.mk ?_ (by omega) h2
 refine ⟨by simp;omega,fun hn=>?_⟩
 obtain ⟨g,o,e1,e2,e3⟩:=h3.2 (by omega)
 refine ⟨g,o,e1,e2,fun j u hj=>e3 j u ?_⟩
 rw [List.map_take,List.getElem?_take] at hj
 split at hj
 ·exact hj
 ·cases hj
end Go.Proofs.YtfhhfhdnhadooaaGreatDoor

namespace Go.Proofs.YtfhhfhdnhadooaaGreatDoor
open Go Go.RowKit Go.WideShapes Go.ChangeShapes Go.Deep

def Sizes (P:Program) (t:TypeId) {α:Type} (R:Rep α) (Z:α->Prop):Prop:=∀(H:Type) (enc:TypeId × Value->H) (W:World) (sp:Nat->Bool) (hd:Bool) (fuel:Nat) (cs:List Value) (x:DataW H × List MemPlace) (S:Nat->Prop) (a:α),DataW.trod enc P W 0 sp hd fuel t cs=some x->R W S cs a->(∀n∈x.1.weights P t,n<=reachBytes)->Z a
section
variable {P:Program} {t e:TypeId}
end
end Go.Proofs.YtfhhfhdnhadooaaGreatDoor

namespace Go.Proofs.YtfhhfhdnhadooaaGreatDoor
open Go Go.RowKit Go.WideShapes Go.ChangeShapes Go.Deep

end Go.Proofs.YtfhhfhdnhadooaaGreatDoor
