/- Texts of this claim, laid together: K10, K11. -/
import Derived.Test.YtfjhmecmhchbdaaDoorMA
set_option linter.unusedVariables false
set_option linter.unusedSimpArgs false

namespace Go.Proofs.YtfjhmecmhchbdaaDoor
open Go Go.RowKit
attribute [local irreducible] wpList

theorem Bs.pre {W : World} {S : Nat → Prop} {A : Option Addr} {n c h : Nat} {l : List UInt8} (hb : Bs W S (.slice A n c) l) (hl : l.length = n) (hh : h ≤ n) : Bs W S (.slice A h c) (l.take h) := by
  subst hl
  obtain ⟨A', c', hv, h1, h2, hr⟩ := hb.op
  cases hv
  refine Bs.mk ?_ (by omega) h2
  refine ⟨by simp; omega, fun hn => ?_⟩
  obtain ⟨g, o, rfl, hg, hc⟩ := hr.2 (by omega)
  refine ⟨g, o, rfl, hg, fun j u hu => hc j u ?_⟩
  rw [List.map_take, List.getElem?_take] at hu
  split at hu
  · exact hu
  · cases hu
theorem St.away {w W : World} {L : List Fact} {f : Fact} {g : Nat} (H : St nT w W L) [h : In f L] (hg : g < w.heap.size) : ¬ f.fp g := fun hf => by
  have := (H.own f h.mem g hf).1.resolve_left (fun h => h)
  omega
end Go.Proofs.YtfjhmecmhchbdaaDoor

namespace Go.Proofs.YtfjhmecmhchbdaaDoor
open Go Go.RowKit
attribute [local irreducible] wpList

theorem d_ldmX {P : Program} {o : Oper} {n : Nat} {ρ : Nat → Value} {W w0 : World} {T : Nat → Prop} {L : List Fact} {x : Operand} {t t' : TypeId} {g i m : Nat} {c : List Value} (cs : List Value) (ho : o.op = .load t x) (H : St T w0 W L) (hx : ev n ρ x = .pointer (some ⟨g, i, none⟩)) (ha : aggB P t = some true) (hs : (P.info? t).map (·.size) = some m) [hb : Blk g L c t'] (hl : i + m ≤ c.length) (hc : sub c i m = cs) : Runs P n ρ o W (.agg cs.toArray) W := by
  subst hc
  exact d_ldm (hb := hb) ho H hx ha hs (Nat.ble_eq_true_of_le hl)
def thingC (kd n : Int) (B : Option Addr) (m d : Nat) (h t : List UInt8) : List Value := .int .i64 kd :: .int .i64 n :: .slice B m d :: (h.map u8v ++ t.map u8v)
section
variable {kd n : Int} {B : Option Addr} {m d : Nat} {h t : List UInt8}
theorem len_thing (hh : h.length = 32) (ht : t.length = 16) : (thingC kd n B m d h t).length = 51 := by simp [thingC]; omega
theorem thing_h (hh : h.length = 32) : sub (thingC kd n B m d h t) 3 32 = h.map u8v := by
  unfold thingC sub
  simp only [List.drop_succ_cons, List.drop_zero]
  rw [List.take_append_of_le_length (by rw [List.length_map]; omega), List.take_of_length_le (by rw [List.length_map]; omega)]
theorem thing_t (hh : h.length = 32) (ht : t.length = 16) : sub (thingC kd n B m d h t) 35 16 = t.map u8v := by
  unfold thingC sub
  simp only [List.drop_succ_cons]
  rw [List.drop_append, List.drop_eq_nil_of_le (by rw [List.length_map]; omega), List.length_map, hh]
  simp only [Nat.sub_self, List.drop_zero, List.nil_append]
  rw [List.take_of_length_le (by rw [List.length_map]; omega)]
end
theorem lent_pre {W : World} {S : Nat → Prop} {A : Option Addr} {n c : Nat} {b : List UInt8} (h : Bs W S (.slice A n c) (b ++ marks 5)) (hl : (b ++ marks 5).length = n) : Bs W S (.slice A b.length c) b := by
  have h2 := h.pre (h := b.length) hl (by rw [← hl, List.length_append]; omega)
  rwa [List.take_left] at h2
end Go.Proofs.YtfjhmecmhchbdaaDoor
