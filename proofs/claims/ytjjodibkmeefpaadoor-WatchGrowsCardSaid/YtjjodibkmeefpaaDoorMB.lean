import Derived.Test.YtjjodibkmeefpaaDoorMA
set_option linter.unusedVariables false
set_option linter.unusedSimpArgs false
set_option maxHeartbeats 4000000

namespace Go.Proofs.YtjjodibkmeefpaaDoor
open Go Go.RowKit
attribute [local irreducible] wpList

theorem Bs.pre {W:World} {S:Nat->Prop} {A:Option Addr} {n c h:Nat} {l:List UInt8} (hb:Bs W S (.slice A n c) l) (hl:l.length=n) (hh:h<=n):Bs W S (.slice A h c) (l.take h):=by
 subst hl
 obtain ⟨A',c',hv,h1,h2,hr⟩:=hb.op
 cases hv
 refine Bs.mk ?_ (by omega) h2
 refine ⟨by simp;omega,fun hn=>?_⟩
 obtain ⟨g,o,rfl,hg,hc⟩:=hr.2 (by omega)
 refine ⟨g,o,U,hg,fun j u hu=>hc j u ?_⟩
 rw [List.map_take,List.getElem?_take] at hu
 split at hu
 ·exact hu
 ·cases hu

def thingC (kd n:Int) (B:Option Addr) (m d:Nat) (h t:List UInt8):List Value:=.int .i64 kd::.int .i64 n::.slice B m d::(h.map u8v++t.map u8v)
section
variable {kd n:Int} {B:Option Addr} {m d:Nat} {h t:List UInt8}
end
end Go.Proofs.YtjjodibkmeefpaaDoor
