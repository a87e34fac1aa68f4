/- The walk of PackForm, as the card takes it. -/
import Derived.Test.YtejaohlijaodjaaDoorK14
import Derived.Test.YtejaohlijaodjaaDoorK18
import Derived.Test.YtejaohlijaodjaaDoorF3
namespace Go.Proofs.YtejaohlijaodjaaDoor
open Go Go.RowKit

/-- What is asked, element by element, as it lies. -/
theorem rl_ask {W : World} {S : Nat → Prop} {v : Value} {l : List DAsked} (h : RL 2 RAsked W S [v] l) : ∃ A c, v = .slice A l.length c ∧ Rd W S 2 A l.length (askC (l.map fun x => (x.kind, x.most))) := by
  obtain ⟨A, c, xs, hv, hlc, _, hr, hel⟩ := h
  have hlx := hr.1
  refine ⟨A, c, by cases hv; rfl, ?_⟩
  suffices e : xs = askC (l.map fun x => (x.kind, x.most)) by rw [← e]; exact hr
  clear hv hr hlc
  induction l generalizing xs with
  | nil => exact List.eq_nil_of_length_eq_zero (by simpa using hlx)
  | cons x l ih =>
    have h0 := hel 0 x rfl
    obtain ⟨c0, c1, e0, ⟨e1, _⟩, ⟨e2, _⟩⟩ := h0
    subst e1 e2
    have hlen : xs.length = l.length * 2 + 2 := by rw [hlx, List.length_cons, Nat.add_mul]
    match xs, hlen, hel, e0 with
    | a :: b :: xs, hlen, hel, e0 =>
      have e0' : [a, b] = [.int .i64 x.kind, .int .i64 x.most] := by simpa [sub] using e0
      cases e0'
      rw [List.map_cons, askC]
      have ih' := ih xs (fun i y hy => by
        have := hel (i + 1) y (by simpa using hy)
        rw [Nat.add_mul] at this
        exact this) (by simp at hlen; omega)
      rw [ih']
theorem packForm_any {S S' : Nat → Prop} {v u : Value} {b : List UInt8} {l : List DAsked} (w : World) (hG : Gat w 0 formsC) (h0 : RB w S [v] b) (h1 : RL 2 RAsked w S' [u] l) :
    Calls Tryd.prog 8 #[v, u] w (fun e w' => e = .returned (.bool true) ∧ Below w.heap.size w w') := by
  obtain ⟨A, c, rfl, hr⟩ := rl_ask h1
  rcases Nat.lt_or_ge 4096 b.length with h | h
  · exact of_is (packFormA w hG (rb_bs h0) h)
  · exact of_is (packForm w hG (rb_bs h0) hr h)
end Go.Proofs.YtejaohlijaodjaaDoor
