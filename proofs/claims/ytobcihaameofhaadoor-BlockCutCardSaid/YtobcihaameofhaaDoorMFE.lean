/- Texts of this claim, laid together: F21. -/
import Derived.Test.YtobcihaameofhaaDoorMBC
import Derived.Test.YtobcihaameofhaaDoorMFB
set_option linter.unusedVariables false
set_option linter.unusedSimpArgs false

namespace Go.Proofs.YtobcihaameofhaaDoor
open Go Go.RowKit

theorem blockCut_any {S S1 S2 : Nat → Prop} {cs : List Value} {b : DBlock} {n x : Int} {u : Value} {m : List UInt8} (w : World) (hG : Gat w 0 formsC ∧ Old.Gl w) (hz : ∀ t ∈ b.txs, Tx.Szd t) (h0 : RBlock w S cs b) (_ : RI w S1 [.int .i64 n] x) (h2 : RB w S2 [u] m) :
    Calls Tryd.prog 3 #[.agg cs.toArray, .int .i64 n, u] w (fun e w' => e = .returned (.bool true) ∧ Below w.heap.size w w') := by
  obtain ⟨A, c, rfl, hl, hh⟩ := blk_of h0
  exact of_isT (blockCutB w hl hh hG.1 hG.2 hz (bs_of h2))
theorem blockBack_any {S S1 : Nat → Prop} {cs : List Value} {b : DBlock} {u : Value} {m : List UInt8} (w : World) (hG : Gat w 0 formsC ∧ Old.Gl w) (hz : ∀ t ∈ b.txs, Tx.Szd t) (h0 : RBlock w S cs b) (h1 : RB w S1 [u] m) :
    Calls Tryd.prog 6 #[.agg cs.toArray, u] w (fun e w' => e = .returned (.bool true) ∧ Below w.heap.size w w') := by
  obtain ⟨A, c, rfl, hl, hh⟩ := blk_of h0
  exact of_isT (blockBackB w hl hh hG.1 hG.2 hz (bs_of h1))
end Go.Proofs.YtobcihaameofhaaDoor
