/- Texts of this claim, laid together: K87. -/
import Derived.Test.YtfhhfhdnhadooaaGreatDoorMBK
set_option linter.unusedVariables false
set_option linter.unusedSimpArgs false

namespace Go.Proofs.YtfhhfhdnhadooaaGreatDoor
open Go Go.RowKit
attribute [local irreducible] wpList

/-- The first of the statements' transactions. -/
def nths (n : Nat) : List DTx := (List.range n).map (fun k : Nat => nthT (k : Int))
theorem digs_snoc (l : List DTx) (t : DTx) : digs (l ++ [t]) = digs l ++ [digA t] := by simp [digs]
def upk (r : List H32) (k : Nat) : List H32 := (List.range k).map (upH r)
theorem upk_snoc (r : List H32) (k : Nat) : upk r (k + 1) = upk r k ++ [upH r k] := by unfold upk; rw [List.range_succ, List.map_append]; rfl
theorem upk_all {r : List H32} {k : Nat} (h : (r.length + 1) / 2 = k) : pairsH r = upk r k := by unfold pairsH upk; rw [h]
theorem upH_twoB {r : List H32} {k : Nat} (h : 2 * k + 1 < r.length) : (upH r k).1 = BTG Bk.tNode ((r.getD (2 * k) z32H).1 ++ (r.getD (2 * k + 1) z32H).1) := upH_two h
theorem root_one {r : List H32} (h : r.length = 1) : Bk.root BTG (r.map (fun h : H32 => h.1)) = (r.getD 0 z32H).1 := by
 match r, h with
 | [a], _ => rfl
end Go.Proofs.YtfhhfhdnhadooaaGreatDoor
