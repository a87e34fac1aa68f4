import Derived.Test.YtjjodibkmeefpaaDoorMW
import Derived.Test.YtjjodibkmeefpaaDoorMBL
set_option linter.unusedVariables false
set_option linter.unusedSimpArgs false

namespace Go.Proofs.YtjjodibkmeefpaaDoor
open Go Go.RowKit Go.WideShapes Go.ChangeShapes Go.Deep

theorem sizes_Txs:Sizes Tryd.prog 56 (RL 3 RTx) (fun l=>∀t∈l,Tx.Szd t):=sizes_L Tryd.underlying56 ce44 sizes_Tx
theorem sizes_Block:Sizes Tryd.prog 58 RBlock (fun b=>∀t∈b.txs,Tx.Szd t):=fun H enc W sp hd fuel cs x S a h hR hw=>by
 obtain ⟨c0,c1,rfl,h0,h1⟩:=hR
 have l0:c0.length=65:=lens_Header _ _ _ _ h0
 have l1:c1.length=1:=lens_L _ _ _ _ h1
 obtain ⟨n,y,g1,g2⟩:=sized_field (i:=1) Tryd.underlying58 h rfl hw
 replace g1:DataW.trod enc Tryd.prog W 0 sp hd n 56 (sub (c0++c1) 65 (Tryd.prog.cellsOf 56))=some y:=g1
 rw [ce56,sub_Block_1 l0 l1] at g1
 exact sizes_Txs _ _ _ _ _ _ _ _ _ _ g1 h1 g2
end Go.Proofs.YtjjodibkmeefpaaDoor

namespace Go.Proofs.YtjjodibkmeefpaaDoor
open Go Go.RowKit Go.WideShapes Go.ChangeShapes Go.Deep

theorem sizes_Path:Sizes Tryd.prog 22 (RL 66 RBlock) (fun l=>∀b∈l,∀t∈b.txs,Tx.Szd t):=sizes_L Tryd.underlying22 ce58 sizes_Block
end Go.Proofs.YtjjodibkmeefpaaDoor
