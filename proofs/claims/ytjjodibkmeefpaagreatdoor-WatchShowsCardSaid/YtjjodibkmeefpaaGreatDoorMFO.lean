import Derived.Test.YtjjodibkmeefpaaGreatDoorMWI
import Derived.Test.YtjjodibkmeefpaaGreatDoorMFB
set_option linter.unusedVariables false
set_option linter.unusedSimpArgs false

namespace Go.Proofs.YtjjodibkmeefpaaGreatDoor
open Go Go.RowKit

theorem watchShows_any {S S2:Nat->Prop} {u:Value} {cs:List Value} {l:List DBlock} {q:DQuestion} (w:World) (hG:Gat w 2 formsC∧Old.Gl w) (hz:∀b∈l,∀t∈b.txs,Tx.Szd t) (h0:RL 66 RBlock w S [u] l) (h2:RQuestion w S2 cs q) :
  Calls Tryz.prog 3 #[u,.agg cs.toArray] w (fun e w'=>e=.returned (.bool true)∧Below w.heap.size w w'):=by
 obtain ⟨c0,c1,c2,c3,rfl,hs,hp,⟨rfl,h3⟩,rfl,h4⟩:=h2
 obtain ⟨rfl,hp1,hp2⟩:=point_of hp
 obtain ⟨x,rfl,hs⟩:=hs
 obtain ⟨A,c,rfl,_⟩:=hs.op
 have h0':=h0
 obtain ⟨A0,d0,xs,hv,_⟩:=h0
 obtain rfl:u=.slice A0 l.length d0:=by cases hv;rfl
 exact of_isT (watchShowsB w h0' hG.1 hG.2 hz hs hp1 hp2 h3 h4)
end Go.Proofs.YtjjodibkmeefpaaGreatDoor
