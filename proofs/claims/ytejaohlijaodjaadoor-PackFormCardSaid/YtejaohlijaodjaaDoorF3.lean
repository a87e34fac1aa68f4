/- The walks of chapter 3, as the cards take them: what is laid, forms. -/
import Derived.Test.YtejaohlijaodjaaDoorK14
import Derived.Test.YtejaohlijaodjaaDoorK15
import Derived.Test.YtejaohlijaodjaaDoorOpS
namespace Go.Proofs.YtejaohlijaodjaaDoor
open Go Go.RowKit

theorem rb_bs {W : World} {S : Nat → Prop} {v : Value} {b : List UInt8} (h : RB W S [v] b) : Bs W S v b := by
  obtain ⟨v', hv, hb⟩ := h
  cases hv
  exact hb
theorem ri_int {W : World} {S : Nat → Prop} {n x : Int} (h : RI W S [.int .i64 n] x) : n = x ∧ -9223372036854775808 ≤ x ∧ x ≤ 9223372036854775807 := by
  obtain ⟨h1, h2⟩ := h
  cases h1
  exact ⟨rfl, h2⟩
theorem packLays_any {S S' : Nat → Prop} {v : Value} {b : List UInt8} {cs : List Value} {x : DThing} (w : World) (hG : Gat w 0 formsC) (h0 : RB w S [v] b) (h1 : RThing w S' cs x) :
    Calls Tryd.prog 4 #[v, .agg cs.toArray] w (fun e w' => e = .returned (.bool true) ∧ Below w.heap.size w w') := by
  have hb := rb_bs h0
  obtain ⟨c0, c1, c2, c3, c4, rfl, ⟨rfl, _⟩, ⟨rfl, hn⟩, ⟨bv, rfl, hB⟩, ⟨rfl, hh⟩, ⟨rfl, ht⟩⟩ := h1
  obtain ⟨B, d, rfl, _⟩ := hB.op
  rcases Nat.lt_or_ge 4096 b.length with h | h
  · exact of_is (packLaysA w hG hb hB hh ht hn (.inl h))
  rcases Nat.lt_or_ge 4096 x.b.length with h2 | h2
  · exact of_is (packLaysA w hG hb hB hh ht hn (.inr h2))
  · exact of_is (packLaysB w hG hb hB hh ht hn ⟨h, h2⟩)
theorem packForms_any {S : Nat → Prop} {n x : Int} (w : World) (hG : Gat w 0 formsC) (h0 : RI w S [.int .i64 n] x) :
    Calls Tryd.prog 3 #[.int .i64 n] w (fun e w' => e = .returned (.bool true) ∧ Below w.heap.size w w') := by
  obtain ⟨rfl, hn⟩ := ri_int h0
  exact of_is (packForms n w hG hn)
end Go.Proofs.YtejaohlijaodjaaDoor
