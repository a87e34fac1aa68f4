import Derived.Test.YtjjodibkmeefpaaDoorMWG
import Derived.Test.YtjjodibkmeefpaaDoorMFB
set_option linter.unusedVariables false
set_option linter.unusedSimpArgs false

namespace Go.Proofs.YtjjodibkmeefpaaDoor
open Go Go.RowKit

theorem watchGrows_any {S S1 S2:Nat->Prop} {u v:Value} {cs:List Value} {l r:List DBlock} {q:DQuestion} (w:World) (hG:Gat w 2 formsC∧Old.Gl w) (hz:∀b∈l,∀t∈b.txs,Tx.Szd t) (hz2:∀b∈r,∀t∈b.txs,Tx.Szd t) (h0:RL 66 RBlock w S [u] l) (h1:RL 66 RBlock w S1 [v] r) (h2:RQuestion w S2 cs q) :
  Calls Tryd.prog 3 #[u,v,.agg cs.toArray] w (fun e w'=>e=.returned (.bool true)∧Below w.heap.size w w'):=by
 obtain ⟨c0,c1,c2,c3,rfl,hs,hp,⟨rfl,h3⟩,rfl,h4⟩:=h2
 obtain ⟨rfl,hp1,hp2⟩:=point_of hp
 obtain ⟨x,rfl,hs⟩:=hs
 obtain ⟨A,c,rfl,_⟩:=hs.op
 have h0':=h0
 have h1':=h1
 obtain ⟨A0,d0,xs,hv,_⟩:=h0
 obtain rfl:u=.slice A0 l.length d0:=by cases hv;rfl
 obtain ⟨A1,d1,ys,hv,_⟩:=h1
 obtain rfl:v=.slice A1 r.length d1:=by cases hv;rfl
 exact of_isT (watchGrowsB w h0' h1' hG.1 hG.2 hz hz2 hs hp1 hp2 h3 h4)
end Go.Proofs.YtjjodibkmeefpaaDoor
