import Derived.Test.YtjjodibkmeefpaaDoorMWF
import Derived.Test.YtjjodibkmeefpaaDoorMFB
set_option linter.unusedVariables false
set_option linter.unusedSimpArgs false

namespace Go.Proofs.YtjjodibkmeefpaaDoor
open Go Go.RowKit

theorem watchSpends_any {S S1:Nat->Prop} {u:Value} {cs:List Value} {l:List DBlock} {pt:DPoint} (w:World) (hG:Gat w 2 formsC∧Old.Gl w) (hz:∀b∈l,∀t∈b.txs,Tx.Szd t) (h0:RL 66 RBlock w S [u] l) (h1:RPoint w S1 cs pt) :
  Calls Tryd.prog 4 #[u,.agg cs.toArray] w (fun e w'=>e=.returned (.bool true)∧Below w.heap.size w w'):=by
 obtain ⟨rfl,hp,hn⟩:=point_of h1
 have h0':=h0
 obtain ⟨A,c,xs,hv,_⟩:=h0
 obtain rfl:u=.slice A l.length c:=by cases hv;rfl
 exact of_isT (watchSpendsB w h0' hG.1 hG.2 hz hp hn)
end Go.Proofs.YtjjodibkmeefpaaDoor
