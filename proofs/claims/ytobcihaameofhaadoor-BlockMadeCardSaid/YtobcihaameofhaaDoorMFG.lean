/- Texts of this claim, laid together: F22. -/
import Derived.Test.YtobcihaameofhaaDoorMBM
import Derived.Test.YtobcihaameofhaaDoorMFB
set_option linter.unusedVariables false
set_option linter.unusedSimpArgs false

namespace Go.Proofs.YtobcihaameofhaaDoor
open Go Go.RowKit

theorem blockMade_any {S S1 S2 S3 : Nat → Prop} {cs : List Value} {p : List UInt8} {n x : Int} {u : Value} {l : List DTx} {a y : Int} (w : World) (hG : Gat w 0 formsC ∧ Old.Gl w) (hz : ∀ t ∈ l, Tx.Szd t) (h0 : RA 32 w S cs p) (h1 : RI w S1 [.int .i64 n] x) (h2 : RL 3 RTx w S2 [u] l) (h3 : RI w S3 [.int .i64 a] y) :
    Calls Tryd.prog 5 #[.agg cs.toArray, .int .i64 n, u, .int .i64 a] w (fun e w' => e = .returned (.bool true) ∧ Below w.heap.size w w') := by
  obtain ⟨rfl, hp⟩ := h0
  obtain ⟨e1, i1⟩ := h1
  obtain ⟨e3, i3⟩ := h3
  obtain rfl : n = x := by simpa using e1
  obtain rfl : a = y := by simpa using e3
  have h2' := h2
  obtain ⟨A, c, xs, hv, _⟩ := h2
  obtain rfl : u = .slice A l.length c := by cases hv; rfl
  exact of_isT (blockMadeB w h2' hG.1 hG.2 hz hp i1 i3)
end Go.Proofs.YtobcihaameofhaaDoor
