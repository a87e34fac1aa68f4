import Derived.Test.YtjjodibkmeefpaaGreatDoorMW
import Derived.Test.YtjjodibkmeefpaaGreatDoorMBL
set_option linter.unusedVariables false
set_option linter.unusedSimpArgs false

namespace Go.Proofs.YtjjodibkmeefpaaGreatDoor
open Go Go.RowKit Go.WideShapes Go.ChangeShapes Go.Deep

theorem sizes_Txs:Sizes Tryz.prog 74 (RL 3 RTx) (fun l=>∀t∈l,Tx.Szd t):=sizes_L Tryz.underlying74 ce47 sizes_Tx
theorem sizes_Block:Sizes Tryz.prog 76 RBlock (fun b=>∀t∈b.txs,Tx.Szd t):=fun H enc W sp hd fuel cs x S a h hR hw=>by
 obtain ⟨c0,c1,rfl,h0,h1⟩:=hR
 have l0:c0.length=65:=lens_Header _ _ _ _ h0
 have l1:c1.length=1:=lens_L _ _ _ _ h1
 obtain ⟨n,y,g1,g2⟩:=sized_field (i:=1) Tryz.underlying76 h rfl hw
 replace g1:DataW.trod enc Tryz.prog W 0 sp hd n 74 (sub (c0++c1) 65 (Tryz.prog.cellsOf 74))=some y:=g1
 rw [ce74,sub_Block_1 l0 l1] at g1
 exact sizes_Txs _ _ _ _ _ _ _ _ _ _ g1 h1 g2
end Go.Proofs.YtjjodibkmeefpaaGreatDoor

namespace Go.Proofs.YtjjodibkmeefpaaGreatDoor
open Go Go.RowKit Go.WideShapes Go.ChangeShapes Go.Deep

theorem sizes_Path:Sizes Tryz.prog 22 (RL 66 RBlock) (fun l=>∀b∈l,∀t∈b.txs,Tx.Szd t):=sizes_L Tryz.underlying22 ce76 sizes_Block
end Go.Proofs.YtjjodibkmeefpaaGreatDoor
