/- Texts of this claim, laid together: SizedRec. -/
import Derived.Test.YtfjhmecmhchbdaaGreatDoorMW
import Derived.Test.YtfjhmecmhchbdaaGreatDoorMP
set_option linter.unusedVariables false
set_option linter.unusedSimpArgs false

namespace Go.Proofs.YtfjhmecmhchbdaaGreatDoor
open Go Go.RowKit Go.WideShapes Go.ChangeShapes Go.Deep

theorem sizes_Record : Sizes Tryz.prog 33 RRecord (fun r => Tx.Szd r.tx) := fun H enc W sp hd fuel cs x S a h hR hw => by
  obtain ⟨c0, c1, c2, c3, c4, c5, c6, rfl, h0, h1, h2, h3, h4, h5, h6⟩ := hR
  have l0 : c0.length = 1 := lens_I _ _ _ _ h0
  have l1 : c1.length = 1 := lens_I _ _ _ _ h1
  have l2 : c2.length = 41 := lens_Deal _ _ _ _ h2
  have l3 : c3.length = 32 := lens_A _ _ _ _ h3
  have l4 : c4.length = 1 := lens_I _ _ _ _ h4
  have l5 : c5.length = 1 := lens_I _ _ _ _ h5
  have l6 : c6.length = 3 := lens_Tx _ _ _ _ h6
  obtain ⟨n, y, g1, g2⟩ := sized_field (i := 6) Tryz.underlying33 h rfl hw
  replace g1 : DataW.trod enc Tryz.prog W 0 sp hd n 31 (sub (c0 ++ (c1 ++ (c2 ++ (c3 ++ (c4 ++ (c5 ++ c6)))))) 77 (Tryz.prog.cellsOf 31)) = some y := g1
  rw [ce31, sub_Record_6 l0 l1 l2 l3 l4 l5 l6] at g1
  exact sizes_Tx _ _ _ _ _ _ _ _ _ _ g1 h6 g2
end Go.Proofs.YtfjhmecmhchbdaaGreatDoor
