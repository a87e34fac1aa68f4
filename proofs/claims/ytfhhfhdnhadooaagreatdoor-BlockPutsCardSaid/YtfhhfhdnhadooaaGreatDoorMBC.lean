/- Texts of this claim, laid together: K95. -/
import Derived.Test.YtfhhfhdnhadooaaGreatDoorMBG
set_option linter.unusedVariables false
set_option linter.unusedSimpArgs false

namespace Go.Proofs.YtfhhfhdnhadooaaGreatDoor
open Go Go.RowKit
attribute [local irreducible] wpList

theorem put_err (b : DBlock) : (Bk.put BTG b).2 = Bk.chk BTG b := by
 by_cases h : Bk.chk BTG b = 0
 ·rw [put_ok h, h]
 ·rw [put_bad h]
theorem len_putBk {b : DBlock} (hc : Bk.chk BTG b = 0) (hb : Bk.Ok b) : 64 ≤ (Bk.putB b).length ∧ (Bk.putB b).length ≤ 400000 := by
 obtain ⟨-, hn, hcs, -, -⟩ := Bk.chk_of hc
 have h1 := len_encH hb.1
 have h2 := Bk.len_flat_le (f := Bk.encT) (m := 16400) b.txs (fun t ht => len_encT (hcs t ht) (hb.2 t ht))
 have h3 := Pk.len_int b.txs.length
 have h4 : 64 ≤ (Bk.encH b.header).length := by
  unfold Bk.encH
  rw [List.length_append, List.length_append, hb.1.1, hb.1.2.1]
  omega
 have h5 : b.txs.length * 16400 ≤ 16 * 16400 := Nat.mul_le_mul_right _ (by omega)
 unfold Bk.putB encL
 rw [List.length_append, List.length_append]
 omega

end Go.Proofs.YtfhhfhdnhadooaaGreatDoor
