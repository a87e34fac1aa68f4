/- Texts of this claim, laid together: K10, K11. -/
import Derived.Test.YtdalmmkjmfpffaaGreatDoorMA
set_option linter.unusedVariables false
set_option linter.unusedSimpArgs false

namespace Go.Proofs.YtdalmmkjmfpffaaGreatDoor
open Go Go.RowKit
attribute [local irreducible] wpList

theorem Bs.pre {W : World} {S : Nat → Prop} {A : Option Addr} {n c h : Nat} {l : List UInt8} (hb : Bs W S (.slice A n c) l) (hl : l.length = n) (hh : h ≤ n) : Bs W S (.slice A h c) (l.take h) := by
  subst hl
  obtain ⟨A', c', hv, h1, h2, hr⟩ := hb.op
  cases hv
  refine Bs.mk ?_ (by omega) h2
  refine ⟨by simp; omega, fun hn => ?_⟩
  obtain ⟨g, o, rfl, hg, hc⟩ := hr.2 (by omega)
  refine ⟨g, o, rfl, hg, fun j u hu => hc j u ?_⟩
  rw [List.map_take, List.getElem?_take] at hu
  split at hu
  · exact hu
  · cases hu
theorem spoil {A0 B : Option Addr} {n0 c0 q m c : Nat} {l : List UInt8} (w : World) (hR : w.ownsRow 0 5 1 (.slice A0 n0 c0) n0 (l.map u8v)) (hB : 0 < m → B = A0.map (·.add q)) (hq : q + m ≤ n0) (hm : m ≤ 1000000000000) :
    Calls Tryz.prog 21 [.slice B m c].toArray w (Ret (fun v' w' => v' = .tuple #[] ∧ (∃ ys : List UInt8, w'.ownsRow 0 5 1 (.slice A0 n0 c0) n0 (ys.map u8v) ∧ ys.length = l.length ∧ ys.take q = l.take q ∧ ys.drop (q + m) = l.drop (q + m)) ∧ Fr (fun g => (Value.slice A0 n0 c0).ownBlock = some g) w w')) := by
  refine k_enter (l := [_]) Tryz.func21 rfl rfl ?_
  have H := St.begin (f := Fact.row 5 1 (.slice A0 n0 c0) n0 (l.map u8v)) hR (fun g hg => (World.ownsRow.lt hR g hg).2)
  refine k_seq ?_
  refine k_region ?_
  refine s_run (w_none rfl) rfl (as_i rfl rfl) ?_
  refine l_nil ?_
  refine k_block ?_
  refine k_loop 2 [] (fun mm sl W => ∃ k : Nat, ∃ ys : List UInt8, m - k = mm ∧ sl = [(2, .int .i64 (k : Int))] ∧ (k ≤ m) ∧ (ys.length = l.length ∧ ys.take q = l.take q ∧ ys.drop (q + m) = l.drop (q + m)) ∧ St (fun g => (Value.slice A0 n0 c0).ownBlock = some g) w W [Fact.row 5 1 (.slice A0 n0 c0) n0 (ys.map u8v)]) _ _ ⟨0, l, rfl, rfl, Nat.zero_le _, ⟨rfl, rfl, rfl⟩, H⟩ ⟨rfl, trivial⟩ (fun mm sl ρv W hJ => ?_)
  clear H; obtain ⟨k, ys, rfl, rfl, hk, hy, H⟩ := hJ
  refine k_one ?_
  refine k_seq ?_
  refine k_seq ?_
  refine k_region ?_
  refine s_run (w_none rfl) rfl (mv_i rfl rfl) ?_
  refine s_run (w_none rfl) rfl (mv_s rfl rfl) ?_
  refine s_run (w_none rfl) rfl (d_len rfl rfl tu22) ?_
  refine s_run (w_none rfl) rfl (d_lt rfl rfl rfl) ?_
  refine l_nil ?_
  refine k_cond rfl (fun hc6 => ?_) (fun hc6 => ?_)
  · first | (replace hc6 := of_decide_eq_true hc6) | simp at hc6
    refine k_skip ?_
    refine k_seq ?_
    refine k_block ?_
    refine k_region ?_
    refine s_run (w_none rfl) rfl (mv_s rfl rfl) ?_
    refine s_run (w_none rfl) rfl (mv_i rfl rfl) ?_
    refine s_run (w_none rfl) rfl (mv_i rfl rfl) ?_
    refine s_run (w_none rfl) rfl (d_add rfl rfl rfl (by omega)) ?_
    refine s_eff (e_call (w_none rfl) rfl rfl Tryz.func35 rfl rfl rfl (markBytes (k + 7) _ _ (by omega) (by omega)) ?_)
    rintro _ W ⟨rfl, hb⟩
    replace H := H.below hb
    clear hb
    refine s_run (w_none rfl) rfl (d_iaB rfl ((H.rowrd (A := A0)).cutv (m := m) hq hB) rfl rfl (q := k) rfl (by omega) tu22 ts5) ?_
    refine s_eff (e_stoR (e := 5) (A := A0) (m := n0) (c := c0) (q := q) (k := k) (w_none rfl) rfl rfl rfl rfl (hB (by omega)) rfl ts5 rfl H (by omega) ?_)
    clear H; intro W H
    refine l_nil ?_
    refine k_nil ?_
    refine b_end ?_
    refine k_region ?_
    refine s_run (w_none rfl) rfl (mv_i rfl rfl) ?_
    refine s_run (w_none rfl) rfl (d_add rfl rfl rfl (by omega)) ?_
    refine s_run (w_none rfl) rfl (as_i rfl rfl) ?_
    refine l_nil ?_
    refine k_nil ?_
    refine k_next ?_
    refine ⟨_, _, _, ?_, rfl, ?_, ?_, ⟨k + 1, ys.set (q + k) (UInt8.ofNat (201 + 7 * (k + 7))), rfl, rfl, by omega, ⟨by rw [List.length_set]; exact hy.1, by rw [List.take_set_of_le (by omega)]; exact hy.2.1, by rw [List.drop_set_of_lt (by omega)]; exact hy.2.2⟩, by rw [List.map_set]; exact H⟩⟩
    · omega
    · repeat (first | ((with_reducible refine Eqo.updl _ Eqo.ovr ?_); exact rfl) | ((with_reducible refine Eqo.updl _ (Eqo.ovr2 ?_ ?_) ?_); rotate_left; exact rfl; exact rfl) | ((with_reducible refine Eqo.upd ?_ ?_); rotate_left; exact rfl))
    · refine ⟨?_, trivial⟩
      · exact vi (by omega)
  · first | (replace hc6 := of_decide_eq_false hc6) | simp at hc6
    refine k_exit ?_
    refine x_then (x_then ?_)
    refine x_hit ?_
    refine k_nil ?_
    exact q_end0 rfl ⟨_, rfl, rfl, ⟨ys, H.get (f := Fact.row 5 1 (.slice A0 n0 c0) n0 (ys.map u8v)), hy⟩, H.fr⟩

theorem St.away {w W : World} {L : List Fact} {f : Fact} {g : Nat} (H : St nT w W L) [h : In f L] (hg : g < w.heap.size) : ¬ f.fp g := fun hf => by
  have := (H.own f h.mem g hf).1.resolve_left (fun h => h)
  omega
end Go.Proofs.YtdalmmkjmfpffaaGreatDoor

namespace Go.Proofs.YtdalmmkjmfpffaaGreatDoor
open Go Go.RowKit
attribute [local irreducible] wpList

theorem d_ldmX {P : Program} {o : Oper} {n : Nat} {ρ : Nat → Value} {W w0 : World} {T : Nat → Prop} {L : List Fact} {x : Operand} {t t' : TypeId} {g i m : Nat} {c : List Value} (cs : List Value) (ho : o.op = .load t x) (H : St T w0 W L) (hx : ev n ρ x = .pointer (some ⟨g, i, none⟩)) (ha : aggB P t = some true) (hs : (P.info? t).map (·.size) = some m) [hb : Blk g L c t'] (hl : i + m ≤ c.length) (hc : sub c i m = cs) : Runs P n ρ o W (.agg cs.toArray) W := by
  subst hc
  exact d_ldm (hb := hb) ho H hx ha hs (Nat.ble_eq_true_of_le hl)
def thingC (kd n : Int) (B : Option Addr) (m d : Nat) (h t : List UInt8) : List Value := .int .i64 kd :: .int .i64 n :: .slice B m d :: (h.map u8v ++ t.map u8v)
section
variable {kd n : Int} {B : Option Addr} {m d : Nat} {h t : List UInt8}
theorem len_thing (hh : h.length = 32) (ht : t.length = 16) : (thingC kd n B m d h t).length = 51 := by simp [thingC]; omega
theorem thing_h (hh : h.length = 32) : sub (thingC kd n B m d h t) 3 32 = h.map u8v := by
  unfold thingC sub
  simp only [List.drop_succ_cons, List.drop_zero]
  rw [List.take_append_of_le_length (by rw [List.length_map]; omega), List.take_of_length_le (by rw [List.length_map]; omega)]
theorem thing_t (hh : h.length = 32) (ht : t.length = 16) : sub (thingC kd n B m d h t) 35 16 = t.map u8v := by
  unfold thingC sub
  simp only [List.drop_succ_cons]
  rw [List.drop_append, List.drop_eq_nil_of_le (by rw [List.length_map]; omega), List.length_map, hh]
  simp only [Nat.sub_self, List.drop_zero, List.nil_append]
  rw [List.take_of_length_le (by rw [List.length_map]; omega)]
end
theorem lent_pre {W : World} {S : Nat → Prop} {A : Option Addr} {n c : Nat} {b : List UInt8} (h : Bs W S (.slice A n c) (b ++ marks 5)) (hl : (b ++ marks 5).length = n) : Bs W S (.slice A b.length c) b := by
  have h2 := h.pre (h := b.length) hl (by rw [← hl, List.length_append]; omega)
  rwa [List.take_left] at h2
theorem spoilAll {A : Option Addr} {m c : Nat} {l : List UInt8} (w : World) (hR : w.ownsRow 0 5 1 (.slice A m c) m (l.map u8v)) (hm : m ≤ 1000000000000) : Calls Tryz.prog 21 [.slice A m c].toArray w (Ret (fun v' w' => v' = .tuple #[] ∧ (∃ ys : List UInt8, w'.ownsRow 0 5 1 (.slice A m c) m (ys.map u8v)) ∧ Fr (fun g => (Value.slice A m c).ownBlock = some g) w w')) := by
  refine Calls.mono (spoil (q := 0) w hR (fun _ => ?_) (by omega) hm) (fun e w' h => ?_)
  · rcases row_addr hR with rfl | ⟨g, rfl⟩
    · rfl
    · simp [Addr.add_mid]
  · obtain ⟨v, h1, h2, ⟨ys, h3, _⟩, h4⟩ := h
    exact ⟨v, h1, h2, ⟨ys, h3⟩, h4⟩

end Go.Proofs.YtdalmmkjmfpffaaGreatDoor
