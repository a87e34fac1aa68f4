/- Texts of this claim, laid together: TxOwn, K47. -/
import Derived.Test.YteakkflhndifbaaGreatDoorMW
set_option linter.unusedVariables false
set_option linter.unusedSimpArgs false

namespace Go.Proofs.YteakkflhndifbaaGreatDoor
open Go Go.RowKit

theorem set_eq_mod {l : List DIn} {k : Nat} {x : DIn} {w : List (List UInt8)} (hx : l[k]? = some x) : l.set k ⟨x.point, w⟩ = l.modify k (fun x => ⟨x.point, w⟩) := by
  apply List.ext_getElem?
  intro i
  rw [List.getElem?_modify]
  by_cases h : k = i
  · subst h
    have hk := (List.getElem?_eq_some_iff.1 hx).1
    rw [List.getElem?_set_self hk, hx]
    simp
  · rw [List.getElem?_set_ne h]
    cases l[i]? <;> simp [h]
theorem modify_get {l : List DIn} {k : Nat} {x : DIn} {w : List (List UInt8)} (hx : l[k]? = some x) : (l.modify k (fun x => ⟨x.point, w⟩))[k]? = some ⟨x.point, w⟩ := by
  rw [List.getElem?_modify, hx]; simp
theorem modify_twice {l : List DIn} {k : Nat} {w u : List (List UInt8)} : (l.modify k (fun x => ⟨x.point, w⟩)).modify k (fun x => ⟨x.point, u⟩) = l.modify k (fun x => ⟨x.point, u⟩) := by
  apply List.ext_getElem?
  intro i
  rw [List.getElem?_modify, List.getElem?_modify, List.getElem?_modify]
  by_cases h : k = i
  · subst h
    cases l[k]? <;> simp
  · cases l[i]? <;> simp [h]
namespace Tx
theorem fits_chk {t : DTx} (h : chk t = 0) : Fits t := by
  obtain ⟨h1, h2, h3, h4, h5, h6, h7, h8⟩ := chk_of h
  exact ⟨by omega, by omega, fun x hx => ⟨by have := (h8 x hx).1; omega, fun b hb => by have := (h8 x hx).2 b hb; omega⟩, fun o ho => by have := h7 o ho; omega⟩
theorem ok_set {t : DTx} {k : Nat} {w : List (List UInt8)} (h : Ok t) : Ok (setWit t k w) := by
  refine ⟨fun x hx => ?_, h.2.1, h.2.2⟩
  obtain ⟨i, hi⟩ := List.getElem?_of_mem hx
  unfold setWit at hi
  rw [List.getElem?_modify] at hi
  obtain ⟨y, hy, rfl⟩ := Option.map_eq_some_iff.1 hi
  have := h.1 y (List.mem_of_getElem? hy)
  split <;> exact this
theorem dig_set {s : ByteArray} {t : DTx} {k : Nat} {w : List (List UInt8)} (hc : chk t = 0) (hw : w.length ≤ 16 ∧ ∀ b ∈ w, b.length ≤ 64) : dig s (setWit t k w) = dig s t := by
  unfold dig
  rw [if_pos hc, if_pos (chk_set hc hw), bare_set]
end Tx
section
variable {T : Nat → Prop} {w0 W W' : World} {L : List Fact}
/-- The reading of a transaction out of its rows. -/
theorem tx_rows {A B : Option Addr} {n c m d eI eO : Nat} {k : Int} {xs ys : List Value} {S0 S1 : Nat → Prop} {l : List DIn} {r : List DOut} (H : St T w0 W L) [h1 : In (Fact.row eI 34 (.slice A n c) n xs) L] [h2 : In (Fact.els RIn 34 S0 xs l) L] [h3 : In (Fact.row eO 2 (.slice B m d) m ys) L] [h4 : In (Fact.els ROut 2 S1 ys r) L] (hl : l.length = n) (hr : r.length = m) (hk : I64 k) : RTx W (0 ≤ ·) (txC A n c B m d k) ⟨l, r, k⟩ := by
  have a := H.rlist (hr := h1) (he := h2) hl
  have b := H.rlist (hr := h3) (he := h4) hr
  subst hl hr
  exact tx_rep a b hk
/-- A list of one row of bytes. -/
theorem one_list {g1 g2 e1 e2 m : Nat} {l : List UInt8} (H : St T w0 W (Fact.blk g2 [.slice (some ⟨g1, 0, none⟩) m m] e2 :: Fact.blk g1 (l.map u8v) e1 :: L)) (hm : l.length = m) (hb : m ≤ 1000) : St T w0 W (Fact.rep (RL 1 RB) (fun g => g = g2 ∨ g = g1) [.slice (some ⟨g2, 0, none⟩) 1 1] [l] :: L) := by
  subst hm
  have h2 : W.heap[g2]? = _ := H.holds _ (.head _)
  have h1 : W.heap[g1]? = _ := H.holds _ (.tail _ (.head _))
  refine H.merge (F := Fact.rep (RL 1 RB) (fun g => g = g2 ∨ g = g1) [.slice (some ⟨g2, 0, none⟩) 1 1] [l]) ⟨_, 1, _, rfl, by simp, by decide, (rd_blk (m := 1) h2 rfl).mono (fun g _ h => .inl h), fun i x hx => ?_⟩ (fun g hg => hg)
  have hi : i = 0 := by have := (List.getElem?_eq_some_iff.1 hx).1; simp at this; omega
  subst hi
  obtain rfl : l = x := by simpa using hx
  exact ⟨_, rfl, Bs.mk ((rd_blk (m := l.length) h1 (by rw [List.length_map, Nat.mul_one])).mono (fun g _ h => .inr h)) (Nat.le_refl _) (by omega)⟩
end
/-- An out whose script is a row of the call's own. -/
def ROutO (u : TypeId) : Rep DOut := fun W S cs o => ∃ A c, cs = outC o.value A o.script.length c ∧ I64 o.value ∧ W.ownsRow 0 u 1 (.slice A o.script.length c) o.script.length (o.script.map u8v) ∧ ∀ g, (Value.slice A o.script.length c).ownBlock = some g → S g
instance repk_OutO {u : TypeId} : RepK (ROutO u) := ⟨fun W W' S cs a h k => by
  obtain ⟨A, c, h0, h1, h2, h3⟩ := h
  exact ⟨A, c, h0, h1, ownsRow_keep h2 (fun g hg => k g (own_lt h2 hg) (h3 g hg)), h3⟩, fun W S S' cs a h k => by
  obtain ⟨A, c, h0, h1, h2, h3⟩ := h
  exact ⟨A, c, h0, h1, h2, fun g hg => k g (own_lt h2 hg) (h3 g hg)⟩⟩
def ownBO (cs : List Value) (g : Nat) : Prop := ∃ v, cs[1]? = some v ∧ v.ownBlock = some g
/-- No two of these outs' scripts lie in one block. -/
def ApartE (ys : List Value) (n : Nat) : Prop := ∀ i j, i < n → j < n → ¬ i = j → ∀ g, ownBO (sub ys (i * 2) 2) g → ¬ ownBO (sub ys (j * 2) 2) g
theorem ownB_out {v : Int} {A : Option Addr} {m c g : Nat} : ownBO (outC v A m c) g ↔ (Value.slice A m c).ownBlock = some g := by
  unfold ownBO outC
  constructor
  · rintro ⟨u, h1, h2⟩
    have : u = .slice A m c := by simpa using h1.symm
    rw [← this]; exact h2
  · intro h
    exact ⟨_, rfl, h⟩
theorem conv_O {u : TypeId} {W : World} {S : Nat → Prop} {cs : List Value} {o : DOut} (h : ROutO u W S cs o) : ROut W S cs o := by
  obtain ⟨A, c, rfl, h1, h2, h3⟩ := h
  exact out_rep h1 ((bs_own h2 rfl).mono (fun g _ hg => h3 g hg))
section
variable {T : Nat → Prop} {w0 W : World} {L : List Fact} {u : TypeId}
theorem out_own {A : Option Addr} {m c : Nat} {l : List UInt8} {v : Int} (H : St T w0 W (Fact.row u 1 (.slice A m c) m (l.map u8v) :: L)) (hm : l.length = m) (hn : I64 v) : St T w0 W (Fact.rep (ROutO u) (fun g => (Value.slice A m c).ownBlock = some g) (outC v A m c) ⟨v, l⟩ :: L) := by
  subst hm
  have h1 : W.ownsRow 0 u 1 (.slice A l.length c) l.length (l.map u8v) := H.holds _ (.head _)
  exact ⟨H.fr, fun f hf => by
    rcases List.mem_cons.1 hf with rfl | hf
    · exact ⟨A, c, rfl, hn, h1, fun g hg => hg⟩
    · exact H.holds f (.tail _ hf), fun f hf g hg => by
    rcases List.mem_cons.1 hf with rfl | hf
    · exact H.own _ (.head _) g hg
    · exact H.own f (.tail _ hf) g hg, List.pairwise_cons.2 ⟨fun f hf g hg => (List.pairwise_cons.1 H.apart).1 f hf g hg, (List.pairwise_cons.1 H.apart).2⟩⟩
/-- One more out, apart from the others. -/
theorem out_snoc {A : Option Addr} {m c n : Nat} {v : Int} {S : Nat → Prop} {ys : List Value} {l : List DOut} {a : DOut} (H : St T w0 W (Fact.rep (ROutO u) (fun g => (Value.slice A m c).ownBlock = some g) (outC v A m c) a :: Fact.els (ROutO u) 2 S ys l :: L)) (hl : l.length = n) (hap : ApartE ys n) : ApartE (ys ++ outC v A m c) (n + 1) := by
  subst hl
  have h2 : ys.length = l.length * 2 ∧ _ := H.holds _ (.tail _ (.head _))
  have hd := (List.pairwise_cons.1 H.apart).1 _ (.head _)
  have key : ∀ j, j < l.length → ∀ g, ownBO (sub (ys ++ outC v A m c) (j * 2) 2) g → ¬ (Value.slice A m c).ownBlock = some g := fun j hj g hg hg2 => by
    rw [sub_app h2.1 hj] at hg
    obtain ⟨x, hx⟩ := get_lt hj
    obtain ⟨A', c', e, _, _, h5⟩ := h2.2 j x hx
    rw [e, ownB_out] at hg
    exact hd g hg2 (h5 g hg)
  intro i j hi hj hij g hgi hgj
  rcases Nat.lt_or_ge i l.length with h1 | h1
  · rcases Nat.lt_or_ge j l.length with h3 | h3
    · rw [sub_app h2.1 h1] at hgi
      rw [sub_app h2.1 h3] at hgj
      exact hap i j h1 h3 hij g hgi hgj
    · obtain rfl : j = l.length := by omega
      rw [sub_end h2.1 rfl, ownB_out] at hgj
      exact key i h1 g hgi hgj
  · obtain rfl : i = l.length := by omega
    rw [sub_end h2.1 rfl, ownB_out] at hgi
    exact key j (by omega) g hgj hgi
/-- The first out's script, taken out. -/
theorem out_take {S : Nat → Prop} {ys : List Value} {o : DOut} {l l0 : List DOut} (H : St T w0 W (Fact.els (ROutO u) 2 S ys l0 :: L)) (hl0 : l0 = o :: l) (hap : ApartE ys l0.length) : ∃ A c S', ys = outC o.value A o.script.length c ++ ys.drop 2 ∧ I64 o.value ∧ o.script.length ≤ c ∧ c ≤ 9223372036854775807 ∧ St T w0 W (Fact.row u 1 (.slice A o.script.length c) o.script.length (o.script.map u8v) :: Fact.els ROut 2 S' (ys.drop 2) l :: L) := by
  subst hl0
  rw [List.length_cons] at hap
  have h2 : ys.length = (o :: l).length * 2 ∧ _ := H.holds _ (.head _)
  obtain ⟨A, c, e0, hn, h3, h4⟩ := h2.2 0 o rfl
  have h1 := List.pairwise_cons.1 H.apart
  obtain ⟨_, _, hv, hc1, hc2⟩ := row_form h3
  cases hv
  have e1 : sub ys (0 * 2) 2 = ys.take 2 := by unfold sub; simp
  rw [e1] at e0
  have hsub : ∀ i, sub (ys.drop 2) (i * 2) 2 = sub ys ((i + 1) * 2) 2 := fun i => by
    unfold sub
    rw [List.drop_drop, Nat.add_mul, Nat.one_mul, Nat.add_comm]
  refine ⟨A, c, fun g => S g ∧ ¬ (Value.slice A o.script.length c).ownBlock = some g, by rw [← e0, List.take_append_drop], hn, hc1, hc2, ⟨H.fr, fun f hf => ?_, fun f hf g hg => ?_, List.pairwise_cons.2 ⟨fun f hf g hg hfg => ?_, List.pairwise_cons.2 ⟨fun f hf g hg hfg => h1.1 f hf g hg.1 hfg, h1.2⟩⟩⟩⟩
  · rcases List.mem_cons.1 hf with rfl | hf
    · exact h3
    · rcases List.mem_cons.1 hf with rfl | hf
      · refine ⟨by rw [List.length_drop, h2.1, List.length_cons]; omega, fun i x hx => ?_⟩
        have h5 := h2.2 (i + 1) x (by simpa using hx)
        rw [hsub]
        obtain ⟨A', c', e', g1, g2, g3⟩ := h5
        refine conv_O ⟨A', c', e', g1, g2, fun g hg => ⟨g3 g hg, fun hg0 => ?_⟩⟩
        have hi := (List.getElem?_eq_some_iff.1 hx).1
        refine hap 0 (i + 1) (by omega) (by omega) (by omega) g ?_ ?_
        · rw [e1, e0, ownB_out]; exact hg0
        · rw [e', ownB_out]; exact hg
      · exact H.holds f (.tail _ hf)
  · rcases List.mem_cons.1 hf with rfl | hf
    · exact H.own _ (.head _) g (h4 g hg)
    · rcases List.mem_cons.1 hf with rfl | hf
      · exact H.own _ (.head _) g hg.1
      · exact H.own f (.tail _ hf) g hg
  · rcases List.mem_cons.1 hf with rfl | hf
    · exact hfg.2 hg
    · exact h1.1 f hf g (h4 g hg) hfg
/-- One element ahead of the others. -/
theorem els_cons {α : Type} {R : Rep α} [h : RepK R] {s : Nat} {S S' : Nat → Prop} {ys zs : List Value} {l : List α} {a : α} (H : St T w0 W (Fact.rep R S' ys a :: Fact.els R s S zs l :: L)) (hy : ys.length = s) : St T w0 W (Fact.els R s (fun g => S' g ∨ S g) (ys ++ zs) (a :: l) :: L) := by
  have h1 : R W S' ys a := H.holds _ (.head _)
  have h2 : zs.length = l.length * s ∧ _ := H.holds _ (.tail _ (.head _))
  refine H.merge ⟨by rw [List.length_append, h2.1, hy, List.length_cons, Nat.add_mul]; omega, fun i x hx => ?_⟩ (fun g hg => hg)
  cases i with
  | zero =>
    obtain rfl : a = x := by simpa using hx
    rw [Nat.zero_mul, sub_head hy]
    exact h.mono _ _ _ _ _ h1 (fun g _ hg => .inl hg)
  | succ i =>
    rw [show (i + 1) * s = s + i * s by rw [Nat.add_mul]; omega, sub_skip hy]
    exact h.mono _ _ _ _ _ (h2.2 i x (by simpa using hx)) (fun g _ hg => .inr hg)
end
end Go.Proofs.YteakkflhndifbaaGreatDoor

namespace Go.Proofs.YteakkflhndifbaaGreatDoor
open Go Go.RowKit
attribute [local irreducible] wpList

set_option maxHeartbeats 4000000 in
theorem copyOutsO {S : Nat → Prop} {v : Value} {l : List DOut} (w : World) (hl : RL 2 ROut w S [v] l) (hm : l.length ≤ 1000000000) (h1 : ∀ x ∈ l, x.script.length ≤ 1000000000000) : Calls Tryz.prog 40 [v].toArray w (Ret (fun v w' => ∃ A c xs S2, v = .slice A l.length c ∧ l.length ≤ c ∧ c ≤ 9223372036854775807 ∧ ApartE xs l.length ∧ St nT w w' [Fact.row 37 2 (.slice A l.length c) l.length xs, Fact.els (ROutO 5) 2 S2 xs l])) := by
 have hll := rl_len hl
 obtain ⟨A, c, xs, hv_, hcA_, hcmA_, hr, hel⟩ := hl
 obtain rfl : v = .slice A l.length c := by cases hv_; rfl
 refine k_enter (l := [_]) Tryz.func40 rfl rfl ?_
 have H := St.start nT w
 refine k_seq (k_region (sAs rfl rfl rfl rfl (l_nil (k_seq (k_region (sAs rfl rfl rfl rfl (l_nil (k_seq (k_seq (k_region ?_))))))))))
 refine sAi rfl rfl rfl rfl (l_nil (k_block (k_loop 3 [] (fun mm sl W => ∃ i : Nat, ∃ A2 : Option Addr, ∃ c2 : Nat, ∃ ys : List Value, ∃ S2 : Nat → Prop, l.length - i = mm ∧ sl = [(4, .int .i64 (i : Int)), (3, .slice A2 i c2)] ∧ (i ≤ l.length) ∧ (i ≤ c2 ∧ c2 ≤ 9223372036854775807) ∧ (ApartE ys i) ∧ St nT w W [Fact.row 37 2 (.slice A2 i c2) i (ys), Fact.els (ROutO 5) 2 S2 ys (l.take i)]) _ _ ⟨0, none, 0, [], (fun _ => False), rfl, rfl, Nat.zero_le _, ⟨Nat.le_refl _, by omega⟩, fun i j hi => by omega, ((H.els0 (ROutO 5) 2).nilrow 37 2)⟩ ⟨rfl, rfl, trivial⟩ (fun mm sl ρv W hJ => ?_))))
 clear H; obtain ⟨i, A2, c2, ys, S2, rfl, rfl, hi, hd, hap, H⟩ := hJ
 refine k_one (k_seq (k_seq (k_region (sMi rfl rfl rfl rfl (sMs rfl rfl rfl rfl (sR rfl rfl (d_len rfl rfl tu24) (sR rfl rfl (d_lt rfl rfl rfl) (l_nil (k_cond rfl (fun hc8 => ?_) (fun hc8 => ?_))))))))))
 ·replace hc8 := of_decide_eq_true hc8
  have hlt : i < l.length := by omega
  obtain ⟨g0, o0, rfl, -⟩ := hr.2 (by omega)
  obtain ⟨x, hx⟩ := get_lt hlt
  obtain ⟨B2, d2, hL, hB, hn⟩ := out_of (hel i x hx)
  have hz1 := h1 x (List.mem_of_getElem? hx)
  refine k_skip (k_seq (k_block (k_draw [(0, true), (1, true), (2, true), (3, true), (4, true), (5, true), (6, true), (7, true), (8, true), (9, true), (10, true), (11, false), (12, true), (13, false), (14, false), (15, true)] [] (by kernel_rfl) (by kernel_rfl) H (List.nil_sublist _) ?_)))
  clear H; intro W H
  refine cR rfl rfl rfl (fun W H => mv_s rfl rfl) (cR rfl rfl rfl (fun W H => mv_s rfl rfl) (cR rfl rfl rfl (fun W H => mv_i rfl rfl) (cR rfl rfl rfl (fun W H => d_iaG rfl (H.rd hr) rfl rfl (q := i) rfl hlt tu24 ts37) (cR rfl rfl rfl (fun W H => d_fa rfl rfl tf37_0) (cR rfl rfl rfl (fun W H => d_ldE (off := 0) rfl (H.rd hr) hlt hL rfl rfl rfl (by omega) ta3) (cR rfl rfl rfl (fun W H => mv_s rfl rfl) (cR rfl rfl rfl (fun W H => mv_i rfl rfl) (cR rfl rfl rfl (fun W H => d_iaG rfl (H.rd hr) rfl rfl (q := i) rfl hlt tu24 ts37) (cR rfl rfl rfl (fun W H => d_fa rfl rfl tf37_1) (cR rfl rfl rfl (fun W H => d_ldE (off := 1) rfl (H.rd hr) hlt hL rfl rfl rfl (by omega) ta35) ?_))))))))))
  refine c_eff rfl (e_call (w_none rfl) rfl rfl Tryz.func10 rfl rfl rfl (copyBytes _ x.script _ (H.bs hB) hz1) ?_)
  rintro _ W ⟨A9, c9, rfl, hc9, hd9, hn⟩
  replace H := H.new hn
  clear hn
  replace H := out_own H rfl hn
  refine ⟨H.sub (by repeat (first | exact .refl _ | exact List.nil_sublist _ | refine .cons_cons _ ?_ | refine .cons _ ?_)), ?_⟩
  refine cR rfl rfl rfl (fun W H => d_build (vs := outC x.value A9 x.script.length c9) rfl (built_fields (places := [(0, 1), (1, 1)]) tz37 (by kernel_rfl) (by kernel_rfl) (fill_next (vs := [.int .i64 x.value]) (.int .i64 x.value) rfl rfl rfl rfl (Nat.le_of_ble_eq_true rfl) (fill_next (vs := [.slice A9 x.script.length c9]) (.slice A9 x.script.length c9) rfl (by rfl) rfl rfl (Nat.le_of_ble_eq_true rfl) (fill_end (by simp [outC])))))) ?_
  refine c_eff rfl (e_bsl (xs := [.tmp 23]) (vals := [.agg (outC x.value A9 x.script.length c9).toArray]) (vs := (outC x.value A9 x.script.length c9)) (w_none rfl) rfl rfl rfl rfl rfl rfl tu24 ts37 ty37 rfl (by simp [agg_cells, outC]) (by simp [agg_cells]) H ?_)
  clear H; intro g5_13 W H
  refine ⟨H.sub (by repeat (first | exact .refl _ | exact List.nil_sublist _ | refine .cons_cons _ ?_ | refine .cons _ ?_)), ?_⟩
  refine c_eff rfl (e_app (w_none rfl) rfl rfl tu24 tx37 rfl rfl rfl H (rd_blk (m := 1) H.blk rfl) (rfl) (by omega) rfl ?_)
  clear H; intro A1 c1 W hc1 hd1 H
  replace H := H.drop
  refine ⟨H.sub (by repeat (first | exact .refl _ | exact List.nil_sublist _ | refine .cons_cons _ ?_ | refine .cons _ ?_)), ?_⟩
  refine cR rfl rfl rfl (fun W H => as_s rfl rfl) (c_nil ?_)
  replace H := H.perm (.cons _ (.swap _ _ _))
  have hap2 := out_snoc H (by rw [List.length_take]; omega) hap
  replace H := (St.elsnoc H rfl).perm (.swap _ _ _)
  refine k_nil (b_end (k_region (sMi rfl rfl rfl rfl (sR rfl rfl (d_add rfl rfl rfl (by omega)) (sAi rfl rfl rfl rfl (l_nil (k_nil (k_next ?_))))))))
  refine ⟨_, _, _, ?_, rfl, ?_, ?_, ⟨i + 1, A1, c1, _, _, rfl, rfl, by omega, ⟨hc1, hd1⟩, hap2, by rw [take_get hx]; exact H⟩⟩
  ·omega
  ·repeat (first | (with_reducible refine .updl _ .ovr ?_); exact rfl | (with_reducible refine .updl _ (.ovr2 ?_ ?_) ?_); rotate_left; exact rfl; exact rfl | (with_reducible refine .upd ?_ ?_); rotate_left; exact rfl)
  ·refine ⟨?_, ?_, trivial⟩
   ·exact vi (by omega)
   ·exact rfl
 ·replace hc8 := of_decide_eq_false hc8
  refine k_exit (x_then (x_then ?_))
  refine x_hit (k_seq ?_)
  obtain rfl : i = l.length := by omega
  rw [List.take_length] at H
  have hap1 := hap
  refine k_region (sMs rfl rfl rfl rfl (sAs rfl rfl rfl rfl (l_nil (k_ret ?_))))
  repeat (first | refine r_then ?_ | refine r_blk ?_)
  exact q_ret (v := .slice _ _ _) rfl rfl ⟨_, rfl, A2, c2, ys, S2, rfl, hd.1, hd.2, hap, H⟩

def NewTxO (w : World) (t : DTx) (v : Value) (w' : World) : Prop := ∃ A c B d xs ys S0 S1, v = .agg (txC A t.ins.length c B t.outs.length d t.lock).toArray ∧ ApartE ys t.outs.length ∧ St nT w w' [Fact.row 34 34 (.slice A t.ins.length c) t.ins.length xs, Fact.els RIn 34 S0 xs t.ins, Fact.row 37 2 (.slice B t.outs.length d) t.outs.length ys, Fact.els (ROutO 5) 2 S1 ys t.outs]

set_option maxHeartbeats 4000000 in
theorem copyTxO {S : Nat → Prop} {cs : List Value} {t : DTx} (w : World) (ht : RTx w S cs t) (hf : Tx.Fits t) : Calls Tryz.prog 15 [.agg cs.toArray].toArray w (Ret (NewTxO w t)) := by
 obtain ⟨A, c, B, d, rfl, hI, hO, hk⟩ := tx_of ht
 refine k_enter (l := [_]) Tryz.func15 rfl rfl ?_
 have H := St.start nT w
 refine k_seq (k_region (s_eff (e_box (vs := (txC A t.ins.length c B t.outs.length d t.lock)) (w_none rfl) rfl rfl rfl rfl H ?_)))
 clear H; intro gm W H
 refine s_eff (e_alloc (w_none rfl) rfl rfl [.slice none 0 0, .slice none 0 0, .int .i64 0] tz26 H ?_)
 clear H; intro go W H
 refine l_nil (k_seq (k_draw [(0, true), (1, true), (3, true), (4, true), (6, true), (7, true), (2, false), (5, false), (8, true), (9, false)] [Fact.blk gm (txC A t.ins.length c B t.outs.length d t.lock) 26] (by kernel_rfl) (by kernel_rfl) H (.cons _ (.refl _)) ?_))
 clear H; intro W H
 refine cR rfl rfl rfl (fun W H => d_fa rfl rfl tf26_0) (cR rfl rfl rfl (fun W H => d_ld rfl H rfl ta23 rfl) (cR rfl rfl rfl (fun W H => d_fa rfl rfl tf26_1) (cR rfl rfl rfl (fun W H => d_ld rfl H rfl ta24 rfl) (cR rfl rfl rfl (fun W H => d_fa rfl rfl tf26_2) (cR rfl rfl rfl (fun W H => d_ld rfl H rfl ta3 rfl) (c_eff rfl (e_call (w_none rfl) rfl rfl Tryz.func39 rfl rfl rfl (copyIns _ (keeps_L keeps_In _ _ _ _ _ hI (fun g hg _ => H.fr.block g hg (fun h => h))) hf.ins hf.wit) ?_)))))))
 rintro _ W ⟨A1, c1, xs1, S1, rfl, hc1, hd1, hn⟩
 replace H := H.add2 hn
 clear hn
 refine ⟨H.sub (by repeat (first | exact .refl _ | exact List.nil_sublist _ | refine .cons_cons _ ?_ | refine .cons _ ?_)), ?_⟩
 refine c_eff rfl (e_call (w_none rfl) rfl rfl Tryz.func40 rfl rfl rfl (copyOutsO _ (keeps_L keeps_Out _ _ _ _ _ hO (fun g hg _ => H.fr.block g hg (fun h => h))) hf.outs hf.scr) ?_)
 rintro _ W ⟨A2, c2, xs2, S2, rfl, hc2, hd2, hap, hn⟩
 replace H := H.add2 hn
 clear hn
 refine ⟨H.sub (by repeat (first | exact .refl _ | exact List.nil_sublist _ | refine .cons_cons _ ?_ | refine .cons _ ?_)), ?_⟩
 refine cR rfl rfl rfl (fun W H => d_build (vs := txC A1 t.ins.length c1 A2 t.outs.length c2 t.lock) rfl (built_fields (places := [(0, 1), (1, 1), (2, 1)]) tz26 (by kernel_rfl) (by kernel_rfl) (fill_next (vs := [.slice A1 t.ins.length c1]) (.slice A1 t.ins.length c1) rfl rfl rfl rfl (Nat.le_of_ble_eq_true rfl) (fill_next (vs := [.slice A2 t.outs.length c2]) (.slice A2 t.outs.length c2) rfl (by rfl) rfl rfl (Nat.le_of_ble_eq_true rfl) (fill_next (vs := [.int .i64 t.lock]) (.int .i64 t.lock) rfl (by rfl) rfl rfl (Nat.le_of_ble_eq_true rfl) (fill_end (by simp [txC]))))))) ?_
 refine c_eff rfl (e_sto (w_none rfl) rfl rfl rfl rfl rfl ts26 rfl H rfl ?_)
 clear H; intro W H
 refine ⟨H.sub (by repeat (first | exact .refl _ | exact List.nil_sublist _ | refine .cons_cons _ ?_ | refine .cons _ ?_)), ?_⟩
 refine c_nil (k_ret ?_)
 repeat (first | refine r_then ?_ | refine r_blk ?_)
 refine q_retc rfl (c := txC A1 t.ins.length c1 A2 t.outs.length c2 t.lock) (g := go) H rfl ta26 ts26 ⟨_, rfl, A1, c1, A2, c2, xs1, xs2, S1, S2, rfl, hap, ?_⟩
 exact (H.sub (L' := [_, _, _, _]) (by repeat (first | exact .refl _ | exact List.nil_sublist _ | refine .cons_cons _ ?_ | refine .cons _ ?_))).perm (List.perm_append_comm (l₁ := [_, _]) (l₂ := [_, _]))

theorem Tx.set_scr {t : DTx} {o : DOut} {os : List DOut} {s : List UInt8} (h : t.outs = o :: os) : (Tx.setScr t s).outs = ⟨o.value, s⟩ :: os := by unfold Tx.setScr; rw [h]; rfl
theorem Tx.dig_ok {s : ByteArray} {t : DTx} (h : Tx.chk t = 0) : Tx.dig s t = Old.Bl.tagged s.data.toList (Tx.bare t) := by unfold Tx.dig Tx.bare; rw [if_pos h, if_pos h]
theorem Tx.bare_take {t : DTx} (h : Tx.chk t = 0) : (Tx.put t).take (Tx.bare t).length = Tx.bare t := by unfold Tx.put Tx.bare; rw [if_pos h, if_pos h]; exact Tx.bare_pre
theorem Tx.bare_le {t : DTx} (h : Tx.chk t = 0) : (Tx.bare t).length ≤ (Tx.put t).length := by unfold Tx.put Tx.bare; rw [if_pos h, if_pos h]; exact Tx.len_bare_le

set_option maxHeartbeats 4000000 in
theorem txBare {ct : Int} {S : Nat → Prop} {cs : List Value} {t : DTx} (w : World) (hG : Gat w 0 formsC) (hB : Old.Gl w) (ht : RTx w S cs t) (hz : Tx.Szd t) : Calls Tryz.prog 7 [.agg cs.toArray, .int .i64 ct].toArray w (Ret (Is w (.bool true))) := by
 obtain ⟨A, c, B, d, rfl, hI, hO, hk⟩ := tx_of ht
 have hok := tx_ok ht
 have hl1 := Tx.len_bare hok
 have hl2 := Tx.len_put hok
 have hIl := rl_len hI
 refine k_enter (l := [_, _]) Tryz.func7 rfl rfl ?_
 have H := St.start nT w
 refine k_seq (k_region (s_eff (e_box (vs := (txC A t.ins.length c B t.outs.length d t.lock)) (w_none rfl) rfl rfl rfl rfl H ?_)))
 clear H; intro gm W H
 refine sAb rfl rfl rfl rfl (l_nil (k_seq (k_seq ?_)))
 rcases hbig : Tx.big 40 8192 t with _ | _
 ·skip
  refine k_region (sR rfl rfl (d_ldXM (g := gm) (off := 0) rfl H (sub_all (a := txC A t.ins.length c B t.outs.length d t.lock) (m := 3) rfl) rfl rfl rfl rfl ta26 ts26) (sC rfl rfl rfl Tryz.func14 rfl rfl rfl (bigTx (rows := 40) (bytes := 8192) _ (keeps_Tx _ _ _ _ _ ht (fun g hg _ => H.fr.block g hg (fun h => h))) hz) ?_))
  rintro _ W ⟨rfl, hb⟩
  replace H := H.below hb
  clear hb
  refine sR rfl rfl (mv_bx (c := false) rfl rfl (by rw [hbig])) ?_
  refine s_run (w_g rfl rfl rfl rfl) rfl (d_ldXM (g := gm) (off := 0) rfl H (sub_all (a := txC A t.ins.length c B t.outs.length d t.lock) (m := 3) rfl) rfl rfl rfl rfl ta26 ts26) (s_eff (e_call (w_g rfl rfl rfl rfl) rfl rfl Tryz.func19 rfl rfl rfl (checkTP _ (keeps_Tx _ _ _ _ _ ht (fun g hg _ => H.fr.block g hg (fun h => h)))) ?_))
  rintro _ W ⟨rfl, hb⟩
  replace H := H.below hb
  clear hb
  refine s_run (w_g rfl rfl rfl rfl) rfl (d_ne rfl rfl rfl) (sR rfl rfl (d_pickF rfl rfl rfl) (l_nil (k_cond rfl (fun hc19 => ?_) (fun hc19 => ?_))))
  ·skip
   refine k_seq (k_region (sC rfl rfl rfl Tryz.func13 rfl rfl rfl (works07 _ (H.gat hG) (H.gl hB)) ?_))
   rintro _ W ⟨rfl, hb⟩
   replace H := H.below hb
   clear hb
   refine sAb rfl rfl rfl rfl (l_nil (k_ret ?_))
   repeat (first | refine r_then ?_ | refine r_blk ?_)
   exact q_ret (v := .bool _) rfl rfl ⟨_, rfl, rfl, H.under⟩
  ·have hne : Tx.chk t = 0 := by simpa using hc19
   have hch := Tx.chk_of hne
   obtain ⟨q1, q2, q3, q4, q5, q6, q7, q8⟩ := hch
   obtain ⟨k, hk1, hkl⟩ := pick_lt (v := ct) (n := t.ins.length) (by omega)
   obtain ⟨x, hx⟩ := get_lt hkl
   have hkl0 : k < (Tx.setWit t k []).ins.length := by unfold Tx.setWit; rw [List.length_modify]; exact hkl
   have hx0 : (Tx.setWit t k []).ins[k]? = some ⟨x.point, []⟩ := modify_get hx
   have hc0 : Tx.chk (Tx.setWit t k []) = 0 := Tx.chk_set hne (by decide)
   have hc1_ : Tx.chk (Tx.setWit t k [[1]]) = 0 := Tx.chk_set hne (by decide)
   have hc2_ : Tx.chk (Tx.setWit t k [[1, 2]]) = 0 := Tx.chk_set hne (by decide)
   have hok1 : Tx.Ok (Tx.setWit t k [[1]]) := Tx.ok_set hok
   obtain ⟨o, os, hos⟩ : ∃ o os, t.outs = o :: os := by
    cases ho : t.outs with
    | nil => rw [ho] at q1; simp at q1
    | cons o os => exact ⟨o, os, rfl⟩
   have hosN : (Tx.setWit t k [[1]]).outs = o :: os := hos
   have hco : o.script.length ≤ 256 := q7 o (by rw [hos]; exact .head _)
   have hw1 : Tx.weight (Tx.setWit t k [[1, 2]]) = Tx.weight (Tx.setWit t k [[1]]) + 1 := Tx.weight_wit hne hx
   have hw2 : ¬ o.script.length = 252 → ¬ o.script.length = 256 → Tx.weight (Tx.setScr (Tx.setWit t k [[1]]) (o.script ++ [7])) = Tx.weight (Tx.setWit t k [[1]]) + 4 := fun h1 h2 => Tx.weight_scr hc1_ (by rw [hosN]; rfl) h1 h2
   have hlw := Tx.len_put (t := (Tx.setWit t k [[1]])) hok1
   have hlw2 := Tx.len_bare (t := (Tx.setWit t k [[1]])) hok1
   have hwt : Tx.weight (Tx.setWit t k [[1]]) = 3 * ((Tx.bare (Tx.setWit t k [[1]])).length : Int) + ((Tx.put (Tx.setWit t k [[1]])).length : Int) := rfl
   refine k_skip (k_seq (k_region (sMi rfl rfl rfl rfl (sR rfl rfl (d_fa rfl rfl tf26_0) (sR rfl rfl (d_ld rfl H rfl ta23 rfl) (sR rfl rfl (d_len rfl rfl tu23) (sC rfl rfl rfl Tryz.func30 rfl rfl rfl (pick_any ct _ _ (by omega)) ?_)))))))
   rintro _ W ⟨rfl, hb⟩
   replace H := H.below hb
   clear hb
   refine sAi rfl rfl rfl rfl (l_nil (k_seq (k_region (sR rfl rfl (d_ldXM (g := gm) (off := 0) rfl H (sub_all (a := txC A t.ins.length c B t.outs.length d t.lock) (m := 3) rfl) rfl rfl rfl rfl ta26 ts26) (sC rfl rfl rfl Tryz.func16 rfl rfl rfl (bareTP _ (keeps_Tx _ _ _ _ _ ht (fun g hg _ => H.fr.block g hg (fun h => h))) (H.gat hG)) ?_)))))
   rintro _ W ⟨_, rfl, A1, c1, rfl, hc1, hd1, hn⟩
   replace H := H.new hn
   clear hn
   refine sR rfl rfl (mv_t rfl rfl) (sR rfl rfl (d_ext rfl rfl rfl) (sR rfl rfl (d_ext rfl rfl rfl) (sAs rfl rfl rfl rfl (sAi rfl rfl rfl rfl (l_nil (k_seq (k_region (sR rfl rfl (d_ldXM (g := gm) (off := 0) rfl H (sub_all (a := txC A t.ins.length c B t.outs.length d t.lock) (m := 3) rfl) rfl rfl rfl rfl ta26 ts26) (sC rfl rfl rfl Tryz.func9 rfl rfl rfl (putTP _ (keeps_Tx _ _ _ _ _ ht (fun g hg _ => H.fr.block g hg (fun h => h))) (H.gat hG)) ?_)))))))))
   rintro _ W ⟨_, rfl, A2, c2, rfl, hc2, hd2, hn⟩
   replace H := H.new hn
   clear hn
   refine sR rfl rfl (mv_t rfl rfl) (sR rfl rfl (d_ext rfl rfl rfl) (sR rfl rfl (d_ext rfl rfl rfl) (sAs rfl rfl rfl rfl (sAi rfl rfl rfl rfl (l_nil (k_seq (k_region (sR rfl rfl (d_ldXM (g := gm) (off := 0) rfl H (sub_all (a := txC A t.ins.length c B t.outs.length d t.lock) (m := 3) rfl) rfl rfl rfl rfl ta26 ts26) (sC rfl rfl rfl Tryz.func15 rfl rfl rfl (copyTx _ (keeps_Tx _ _ _ _ _ ht (fun g hg _ => H.fr.block g hg (fun h => h))) (Tx.fits_chk hne)) ?_)))))))))
   rintro _ W ⟨An, cn, Bn, dn, xsn, ysn, S0n, S1n, rfl, hcn, hdn, hn_⟩
   replace H := H.add4 hn_
   clear hn_
   obtain ⟨ga, rfl⟩ := row_own (H.get (f := Fact.row 34 34 (.slice An t.ins.length cn) t.ins.length xsn)) (by omega)
   have hels := H.get (f := Fact.els RIn 34 S0n xsn t.ins)
   obtain ⟨Ax, cx, hL, hW9, hp, hn9⟩ := in_of (hels.2 k x hx)
   have hmul := Nat.mul_le_mul_right 34 (show k + 1 ≤ t.ins.length by omega)
   rw [Nat.add_mul] at hmul
   refine s_eff (e_alloc (w_none rfl) rfl rfl [.slice none 0 0, .slice none 0 0, .int .i64 0] tz26 H ?_)
   clear H; intro gn W H
   refine s_eff (e_stoK (txC (some ⟨ga, 0, none⟩) t.ins.length cn Bn t.outs.length dn t.lock) (w_none rfl) rfl rfl rfl rfl rfl ts26 rfl rfl H (by decide) rfl ?_)
   clear H; intro W H
   refine l_nil (k_seq (k_region (sR rfl rfl (d_fa rfl rfl tf26_0) (sR rfl rfl (d_ld rfl H rfl ta23 rfl) (sMi rfl rfl rfl rfl (sR rfl rfl (d_iaP (q := k) rfl rfl rfl hk1 hkl tu23 ts34) (sR rfl rfl (d_fa rfl rfl tf34_1) (s_eff (e_stoG (k := k * 34 + 33) (s := 34) (e := 34) (m := t.ins.length) (c := cn) (w_none rfl) rfl rfl rfl (by omega) rfl rfl ts32 rfl H (by omega) ?_)))))))))
   clear H; intro W H
   refine l_nil ?_
   replace H := H.flat (R := RIn) (cs := inC x.point none 0 0) (a := ⟨x.point, []⟩) (in_rep (w := []) hp hn9 rl_nil)
   replace H := els_set (i := k) (xs' := xsn.set (k * 34 + 33) (.slice none 0 0)) (H.perm (.cons _ (List.perm_middle (l₁ := [_, _])))) hkl (by rw [sub_set_self (by decide), hL]; exact set_in_w hp) (fun j hj hji => sub_set_other (by decide) hji) (by rw [List.length_set])
   rw [set_eq_mod hx, show t.ins.modify k (fun x => ⟨x.point, []⟩) = (Tx.setWit t k []).ins from rfl] at H
   obtain ⟨S0a, xsa, H1_⟩ : ∃ (S0a : Nat → Prop) (xsa : List Value), St nT w W [Fact.els RIn 34 S0a xsa (Tx.setWit t k []).ins, Fact.blk gn (txC (some ⟨ga, 0, none⟩) t.ins.length cn Bn t.outs.length dn t.lock) 26, Fact.row 34 34 (.slice (some ⟨ga, 0, none⟩) t.ins.length cn) t.ins.length xsa, Fact.row 37 2 (.slice Bn t.outs.length dn) t.outs.length ysn, Fact.els ROut 2 S1n ysn t.outs, Fact.row 5 1 (.slice A2 (Tx.put t).length c2) (Tx.put t).length ((Tx.put t).map u8v), Fact.row 5 1 (.slice A1 (Tx.bare t).length c1) (Tx.bare t).length ((Tx.bare t).map u8v), Fact.blk gm (txC A t.ins.length c B t.outs.length d t.lock) 26] := ⟨_, _, H⟩
   clear H
   have H := H1_
   clear H1_
   refine k_seq (k_seq (k_draw [(0, true), (1, true), (2, true), (3, true), (4, true), (5, true), (6, true), (7, true), (8, true), (9, true), (10, true), (11, false), (12, true), (13, true), (14, true), (15, true), (17, true), (18, true), (19, true), (20, true), (21, true), (22, true), (16, false), (23, true), (24, true), (25, true), (26, true), (28, true), (27, false), (29, false), (30, true), (31, true), (32, true), (33, true), (35, true), (34, false), (36, false), (37, true), (38, true)] [Fact.blk gn (txC (some ⟨ga, 0, none⟩) t.ins.length cn Bn t.outs.length dn t.lock) 26, Fact.blk gm (txC A t.ins.length c B t.outs.length d t.lock) 26] (by kernel_rfl) (by kernel_rfl) H (by repeat (first | exact .refl _ | exact List.nil_sublist _ | refine .cons_cons _ ?_ | refine .cons _ ?_)) ?_))
   clear H; intro W H
   refine cR rfl rfl rfl (fun W H => mv_s rfl rfl) (cR rfl rfl rfl (fun W H => d_len rfl rfl tu35) (cR rfl rfl rfl (fun W H => mv_s rfl rfl) (cR rfl rfl rfl (fun W H => d_len rfl rfl tu35) (cR rfl rfl rfl (fun W H => d_gt rfl rfl rfl) (cR rfl rfl rfl (fun W H => mv_bx (c := false) rfl rfl (by have := Tx.bare_le hne; simp; omega)) ?_)))))
   refine c_run rfl (w_g rfl rfl rfl rfl) rfl (fun W H => mv_s rfl rfl) (c_run rfl (w_g rfl rfl rfl rfl) rfl (fun W H => mv_s rfl rfl) (c_run rfl (w_g rfl rfl rfl rfl) rfl (fun W H => d_len rfl rfl tu35) ?_))
   have hble := Tx.bare_le hne
   refine c_run rfl (w_g rfl rfl rfl rfl) rfl (fun W H => d_cutP rfl rfl (h := (Tx.bare t).length) rfl (by omega) rfl tu35 ts5) (c_run rfl (w_g rfl rfl rfl rfl) rfl (fun W H => mv_s rfl rfl) (c_eff rfl (e_call (w_g rfl rfl rfl rfl) rfl rfl Tryz.func20 rfl rfl rfl (sameBytes _ _ ((Tx.put t).take (Tx.bare t).length) (Tx.bare t) _ (Bs.first (h := (Tx.bare t).length) (H.rowbs (A := A2) rfl) rfl hble) (H.rowbs (A := A1) rfl)) ?_)))
   rintro _ W ⟨rfl, hb⟩
   replace H := H.below hb
   clear hb
   refine ⟨H.sub (by repeat (first | exact .refl _ | exact List.nil_sublist _ | refine .cons_cons _ ?_ | refine .cons _ ?_)), ?_⟩
   refine c_run rfl (w_g rfl rfl rfl rfl) rfl (fun W H => d_not rfl rfl) (cR rfl rfl rfl (fun W H => d_pickF rfl rfl rfl) (cR rfl rfl rfl (fun W H => mv_bx (c := false) rfl rfl (by rw [Tx.bare_take hne]; simp)) ?_))
   refine c_run rfl (w_g rfl rfl rfl rfl) rfl (fun W H => d_ldXM (g := gm) (off := 0) rfl H (sub_all (a := txC A t.ins.length c B t.outs.length d t.lock) (m := 3) rfl) rfl rfl rfl rfl ta26 ts26) (c_run rfl (w_g rfl rfl rfl rfl) rfl (fun W H => mv_s rfl rfl) (c_run rfl (w_g rfl rfl rfl rfl) rfl (fun W H => d_len rfl rfl tu35) (c_run rfl (w_g rfl rfl rfl rfl) rfl (fun W H => d_mul rfl rfl rfl (by omega)) (c_run rfl (w_g rfl rfl rfl rfl) rfl (fun W H => mv_s rfl rfl) (c_run rfl (w_g rfl rfl rfl rfl) rfl (fun W H => d_len rfl rfl tu35) (c_run rfl (w_g rfl rfl rfl rfl) rfl (fun W H => d_add rfl rfl rfl (by omega)) (c_eff rfl (e_call (w_g rfl rfl rfl rfl) rfl rfl Tryz.func26 rfl rfl rfl (weightTP _ (keeps_Tx _ _ _ _ _ ht (fun g hg _ => H.fr.block g hg (fun h => h))) (H.gat hG)) ?_))))))))
   rintro _ W ⟨rfl, hb⟩
   replace H := H.below hb
   clear hb
   refine ⟨H.sub (by repeat (first | exact .refl _ | exact List.nil_sublist _ | refine .cons_cons _ ?_ | refine .cons _ ?_)), ?_⟩
   refine c_run rfl (w_g rfl rfl rfl rfl) rfl (fun W H => d_ne rfl rfl rfl) (cR rfl rfl rfl (fun W H => d_pickF rfl rfl rfl) (cR rfl rfl rfl (fun W H => mv_bx (c := false) rfl rfl (by unfold Tx.weight; simp)) ?_))
   refine c_run rfl (w_g rfl rfl rfl rfl) rfl (fun W H => d_ldXM (g := gn) (off := 0) rfl H (sub_all (a := txC (some ⟨ga, 0, none⟩) t.ins.length cn Bn t.outs.length dn t.lock) (m := 3) rfl) rfl rfl rfl rfl ta26 ts26) (c_run rfl (w_g rfl rfl rfl rfl) rfl (fun W H => d_ldXM (g := gm) (off := 0) rfl H (sub_all (a := txC A t.ins.length c B t.outs.length d t.lock) (m := 3) rfl) rfl rfl rfl rfl ta26 ts26) (c_eff rfl (e_call (w_g rfl rfl rfl rfl) rfl rfl Tryz.func22 rfl rfl rfl (idTP _ (show RTx _ (0 ≤ ·) _ (Tx.setWit t k []) from tx_rows (eI := 34) (eO := 37) (xs := xsa) (ys := ysn) (S0 := S0a) (S1 := S1n) (l := (Tx.setWit t k []).ins) (r := t.outs) H (by unfold Tx.setWit; rw [List.length_modify]) rfl hk) (H.gat hG) (H.gl hB)) ?_)))
   rintro _ W ⟨rfl, hb⟩
   replace H := H.below hb
   clear hb
   refine ⟨H.sub (by repeat (first | exact .refl _ | exact List.nil_sublist _ | refine .cons_cons _ ?_ | refine .cons _ ?_)), ?_⟩
   refine c_eff rfl (e_call (w_g rfl rfl rfl rfl) rfl rfl Tryz.func22 rfl rfl rfl (idTP _ (keeps_Tx _ _ _ _ _ ht (fun g hg _ => H.fr.block g hg (fun h => h))) (H.gat hG) (H.gl hB)) ?_)
   rintro _ W ⟨rfl, hb⟩
   replace H := H.below hb
   clear hb
   refine ⟨H.sub (by repeat (first | exact .refl _ | exact List.nil_sublist _ | refine .cons_cons _ ?_ | refine .cons _ ?_)), ?_⟩
   refine c_run rfl (w_g rfl rfl rfl rfl) rfl (fun W H => d_nearr rfl rfl rfl tu29 tu5 ts5 Tx.len_dig Tx.len_dig (by kernel_rfl)) ?_
   refine cR rfl rfl rfl (fun W H => d_pickF rfl rfl rfl) (cR rfl rfl rfl (fun W H => mv_bx (c := false) rfl rfl (by rw [Tx.dig_set hne (by decide)]; simp)) ?_)
   refine c_run rfl (w_g rfl rfl rfl rfl) rfl (fun W H => d_ldXM (g := gn) (off := 0) rfl H (sub_all (a := txC (some ⟨ga, 0, none⟩) t.ins.length cn Bn t.outs.length dn t.lock) (m := 3) rfl) rfl rfl rfl rfl ta26 ts26) (c_run rfl (w_g rfl rfl rfl rfl) rfl (fun W H => d_ldXM (g := gm) (off := 0) rfl H (sub_all (a := txC A t.ins.length c B t.outs.length d t.lock) (m := 3) rfl) rfl rfl rfl rfl ta26 ts26) (c_eff rfl (e_call (w_g rfl rfl rfl rfl) rfl rfl Tryz.func24 rfl rfl rfl (digestTP _ (show RTx _ (0 ≤ ·) _ (Tx.setWit t k []) from tx_rows (eI := 34) (eO := 37) (xs := xsa) (ys := ysn) (S0 := S0a) (S1 := S1n) (l := (Tx.setWit t k []).ins) (r := t.outs) H (by unfold Tx.setWit; rw [List.length_modify]) rfl hk) (H.gat hG) (H.gl hB)) ?_)))
   rintro _ W ⟨rfl, hb⟩
   replace H := H.below hb
   clear hb
   refine ⟨H.sub (by repeat (first | exact .refl _ | exact List.nil_sublist _ | refine .cons_cons _ ?_ | refine .cons _ ?_)), ?_⟩
   refine c_eff rfl (e_call (w_g rfl rfl rfl rfl) rfl rfl Tryz.func24 rfl rfl rfl (digestTP _ (keeps_Tx _ _ _ _ _ ht (fun g hg _ => H.fr.block g hg (fun h => h))) (H.gat hG) (H.gl hB)) ?_)
   rintro _ W ⟨rfl, hb⟩
   replace H := H.below hb
   clear hb
   refine ⟨H.sub (by repeat (first | exact .refl _ | exact List.nil_sublist _ | refine .cons_cons _ ?_ | refine .cons _ ?_)), ?_⟩
   refine c_run rfl (w_g rfl rfl rfl rfl) rfl (fun W H => d_nearr rfl rfl rfl tu29 tu5 ts5 Tx.len_dig Tx.len_dig (by kernel_rfl)) ?_
   refine cR rfl rfl rfl (fun W H => d_pickF rfl rfl rfl) (c_nil (k_condF rfl (by rw [Tx.dig_set hne (by decide)]; simp) ?_))
   refine k_skip (k_seq (k_seq (k_region (sR rfl rfl (d_ldXM (g := gm) (off := 0) rfl H (sub_all (a := txC A t.ins.length c B t.outs.length d t.lock) (m := 3) rfl) rfl rfl rfl rfl ta26 ts26) (sC rfl rfl rfl Tryz.func22 rfl rfl rfl (idTP _ (keeps_Tx _ _ _ _ _ ht (fun g hg _ => H.fr.block g hg (fun h => h))) (H.gat hG) (H.gl hB)) ?_)))))
   rintro _ W ⟨rfl, hb⟩
   replace H := H.below hb
   clear hb
   refine sMs rfl rfl rfl rfl (sC rfl rfl rfl Tryz.func31 rfl rfl rfl (taggedB (s := Tx.tTx) _ (H.gl hB) (H.rowbs (A := A1) rfl) (by decide) (by omega)) ?_)
   rintro _ W ⟨rfl, hb⟩
   replace H := H.below hb
   clear hb
   refine sR rfl rfl (d_nearr rfl rfl rfl tu29 tu5 ts5 Tx.len_dig (Old.Bl.len_tagged _ _) (by kernel_rfl)) ?_
   refine sR rfl rfl (mv_bx (c := false) rfl rfl (by rw [Tx.dig_ok hne]; simp)) ?_
   refine s_run (w_g rfl rfl rfl rfl) rfl (d_ldXM (g := gm) (off := 0) rfl H (sub_all (a := txC A t.ins.length c B t.outs.length d t.lock) (m := 3) rfl) rfl rfl rfl rfl ta26 ts26) (s_eff (e_call (w_g rfl rfl rfl rfl) rfl rfl Tryz.func24 rfl rfl rfl (digestTP _ (keeps_Tx _ _ _ _ _ ht (fun g hg _ => H.fr.block g hg (fun h => h))) (H.gat hG) (H.gl hB)) ?_))
   rintro _ W ⟨rfl, hb⟩
   replace H := H.below hb
   clear hb
   refine s_run (w_g rfl rfl rfl rfl) rfl (mv_s rfl rfl) (s_eff (e_call (w_g rfl rfl rfl rfl) rfl rfl Tryz.func31 rfl rfl rfl (taggedB (s := Tx.tSign) _ (H.gl hB) (H.rowbs (A := A1) rfl) (by decide) (by omega)) ?_))
   rintro _ W ⟨rfl, hb⟩
   replace H := H.below hb
   clear hb
   refine s_run (w_g rfl rfl rfl rfl) rfl (d_nearr rfl rfl rfl tu29 tu5 ts5 Tx.len_dig (Old.Bl.len_tagged _ _) (by kernel_rfl)) ?_
   refine sR rfl rfl (d_pickF rfl rfl rfl) (l_nil (k_condF rfl (by rw [Tx.dig_ok hne]; simp) ?_))
   refine k_skip (k_seq (k_region (sR rfl rfl (d_ldXM (g := gn) (off := 0) rfl H (sub_all (a := txC (some ⟨ga, 0, none⟩) t.ins.length cn Bn t.outs.length dn t.lock) (m := 3) rfl) rfl rfl rfl rfl ta26 ts26) (sC rfl rfl rfl Tryz.func15 rfl rfl rfl (copyTx _ (show RTx _ (0 ≤ ·) _ (Tx.setWit t k []) from tx_rows (eI := 34) (eO := 37) (xs := xsa) (ys := ysn) (S0 := S0a) (S1 := S1n) (l := (Tx.setWit t k []).ins) (r := t.outs) H (by unfold Tx.setWit; rw [List.length_modify]) rfl hk) (Tx.fits_chk hc0)) ?_))))
   rintro _ W ⟨Am, cm, Bm, dm, xsm, ysm, S0m, S1m, rfl, hcm, hdm, hn_⟩
   replace H := H.add4 hn_
   clear hn_
   refine s_eff (e_alloc (w_none rfl) rfl rfl [.slice none 0 0, .slice none 0 0, .int .i64 0] tz26 H ?_)
   clear H; intro gr W H
   refine s_eff (e_stoK (txC Am (Tx.setWit t k []).ins.length cm Bm (Tx.setWit t k []).outs.length dm (Tx.setWit t k []).lock) (w_none rfl) rfl rfl rfl rfl rfl ts26 rfl rfl H (by decide) rfl ?_)
   clear H; intro W H
   refine l_nil ?_
   obtain ⟨_, _, hL0, _, _, _⟩ := in_of ((H.get (f := Fact.els RIn 34 S0a xsa (Tx.setWit t k []).ins)).2 k _ hx0)
   obtain ⟨_, _, hLm, _, _, _⟩ := in_of ((H.get (f := Fact.els RIn 34 S0m xsm (Tx.setWit t k []).ins)).2 k _ hx0)
   refine k_seq (k_region (sR rfl rfl (d_fa rfl rfl tf26_0) (sR rfl rfl (d_ld rfl H rfl ta23 rfl) (sMi rfl rfl rfl rfl (s_eff (e_bsl (xs := [.const (.int .u8 1)]) (vals := [.int .u8 _]) (vs := [.int .u8 _]) (w_none rfl) rfl rfl rfl rfl rfl rfl tu35 ts5 ty5 rfl rfl rfl H ?_))))))
   clear H; intro g1a W H
   refine s_eff (e_bsl (xs := [.tmp 99]) (vals := [.slice _ _ _]) (vs := [.slice _ _ _]) (w_none rfl) rfl rfl rfl rfl rfl rfl tu32 ts35 ty35 rfl rfl rfl H ?_)
   clear H; intro g2a W H
   refine sR rfl rfl (d_iaP (q := k) rfl rfl rfl hk1 hkl tu23 ts34) (sR rfl rfl (d_fa rfl rfl tf34_1) (s_eff (e_stoG (k := k * 34 + 33) (s := 34) (e := 34) (m := t.ins.length) (c := cn) (w_none rfl) rfl rfl rfl (by omega) rfl rfl ts32 rfl H (by omega) ?_)))
   clear H; intro W H
   refine l_nil ?_
   replace H := one_list (l := [1]) H rfl (by decide)
   replace H := H.rerep (R' := RIn) (cs' := inC x.point (some ⟨g2a, 0, none⟩) 1 1) (b := ⟨x.point, [[1]]⟩) (fun h => in_rep (w := [[1]]) hp hn9 h)
   replace H := els_set (i := k) (xs' := xsa.set (k * 34 + 33) (.slice (some ⟨g2a, 0, none⟩) 1 1)) (H.perm (.cons _ (List.perm_middle (l₁ := [_, _, _, _, _])))) hkl0 (by rw [sub_set_self (by decide), hL0]; exact set_in_w hp) (fun j hj hji => sub_set_other (by decide) hji) (by rw [List.length_set])
   rw [set_eq_mod (x := ⟨x.point, []⟩) hx0, show (Tx.setWit t k []).ins.modify k (fun x => ⟨x.point, [[1]]⟩) = (Tx.setWit t k [[1]]).ins from modify_twice] at H
   obtain ⟨S0b, xsb, H1_⟩ : ∃ (S0b : Nat → Prop) (xsb : List Value), St nT w W [Fact.els RIn 34 S0b xsb (Tx.setWit t k [[1]]).ins, Fact.blk gr (txC Am (Tx.setWit t k []).ins.length cm Bm (Tx.setWit t k []).outs.length dm (Tx.setWit t k []).lock) 26, Fact.row 34 34 (.slice Am (Tx.setWit t k []).ins.length cm) (Tx.setWit t k []).ins.length xsm, Fact.els RIn 34 S0m xsm (Tx.setWit t k []).ins, Fact.row 37 2 (.slice Bm (Tx.setWit t k []).outs.length dm) (Tx.setWit t k []).outs.length ysm, Fact.els ROut 2 S1m ysm (Tx.setWit t k []).outs, Fact.blk gn (txC (some ⟨ga, 0, none⟩) t.ins.length cn Bn t.outs.length dn t.lock) 26, Fact.row 34 34 (.slice (some ⟨ga, 0, none⟩) t.ins.length cn) t.ins.length xsb, Fact.row 37 2 (.slice Bn t.outs.length dn) t.outs.length ysn, Fact.els ROut 2 S1n ysn t.outs, Fact.row 5 1 (.slice A2 (Tx.put t).length c2) (Tx.put t).length ((Tx.put t).map u8v), Fact.row 5 1 (.slice A1 (Tx.bare t).length c1) (Tx.bare t).length ((Tx.bare t).map u8v), Fact.blk gm (txC A t.ins.length c B t.outs.length d t.lock) 26] := ⟨_, _, H⟩
   clear H
   have H := H1_
   clear H1_
   obtain ⟨gb, rfl⟩ := row_own (H.get (f := Fact.row 34 34 (.slice Am (Tx.setWit t k []).ins.length cm) (Tx.setWit t k []).ins.length xsm)) (by omega)
   have hmul0 := Nat.mul_le_mul_right 34 (show k + 1 ≤ (Tx.setWit t k []).ins.length by omega)
   rw [Nat.add_mul] at hmul0
   refine k_seq (k_region (sR rfl rfl (d_fa rfl rfl tf26_0) (sR rfl rfl (d_ld rfl H rfl ta23 rfl) (sMi rfl rfl rfl rfl (s_eff (e_bsl (xs := [.const (.int .u8 1), .const (.int .u8 2)]) (vals := [.int .u8 _, .int .u8 _]) (vs := [.int .u8 _, .int .u8 _]) (w_none rfl) rfl rfl rfl rfl rfl rfl tu35 ts5 ty5 rfl rfl rfl H ?_))))))
   clear H; intro g1b W H
   refine s_eff (e_bsl (xs := [.tmp 106]) (vals := [.slice _ _ _]) (vs := [.slice _ _ _]) (w_none rfl) rfl rfl rfl rfl rfl rfl tu32 ts35 ty35 rfl rfl rfl H ?_)
   clear H; intro g2b W H
   refine sR rfl rfl (d_iaP (q := k) rfl rfl rfl hk1 hkl0 tu23 ts34) (sR rfl rfl (d_fa rfl rfl tf34_1) (s_eff (e_stoG (k := k * 34 + 33) (s := 34) (e := 34) (m := (Tx.setWit t k []).ins.length) (c := cm) (w_none rfl) rfl rfl rfl (by omega) rfl rfl ts32 rfl H (by omega) ?_)))
   clear H; intro W H
   refine l_nil ?_
   replace H := one_list (l := [1, 2]) H rfl (by decide)
   replace H := H.rerep (R' := RIn) (cs' := inC x.point (some ⟨g2b, 0, none⟩) 1 1) (b := ⟨x.point, [[1, 2]]⟩) (fun h => in_rep (w := [[1, 2]]) hp hn9 h)
   replace H := els_set (i := k) (xs' := xsm.set (k * 34 + 33) (.slice (some ⟨g2b, 0, none⟩) 1 1)) (H.perm (.cons _ (List.perm_middle (l₁ := [_, _, _])))) hkl0 (by rw [sub_set_self (by decide), hLm]; exact set_in_w hp) (fun j hj hji => sub_set_other (by decide) hji) (by rw [List.length_set])
   rw [set_eq_mod (x := ⟨x.point, []⟩) hx0, show (Tx.setWit t k []).ins.modify k (fun x => ⟨x.point, [[1, 2]]⟩) = (Tx.setWit t k [[1, 2]]).ins from modify_twice] at H
   obtain ⟨S0c, xsc, H1_⟩ : ∃ (S0c : Nat → Prop) (xsc : List Value), St nT w W [Fact.els RIn 34 S0c xsc (Tx.setWit t k [[1, 2]]).ins, Fact.els RIn 34 S0b xsb (Tx.setWit t k [[1]]).ins, Fact.blk gr (txC (some ⟨gb, 0, none⟩) (Tx.setWit t k []).ins.length cm Bm (Tx.setWit t k []).outs.length dm (Tx.setWit t k []).lock) 26, Fact.row 34 34 (.slice (some ⟨gb, 0, none⟩) (Tx.setWit t k []).ins.length cm) (Tx.setWit t k []).ins.length xsc, Fact.row 37 2 (.slice Bm (Tx.setWit t k []).outs.length dm) (Tx.setWit t k []).outs.length ysm, Fact.els ROut 2 S1m ysm (Tx.setWit t k []).outs, Fact.blk gn (txC (some ⟨ga, 0, none⟩) t.ins.length cn Bn t.outs.length dn t.lock) 26, Fact.row 34 34 (.slice (some ⟨ga, 0, none⟩) t.ins.length cn) t.ins.length xsb, Fact.row 37 2 (.slice Bn t.outs.length dn) t.outs.length ysn, Fact.els ROut 2 S1n ysn t.outs, Fact.row 5 1 (.slice A2 (Tx.put t).length c2) (Tx.put t).length ((Tx.put t).map u8v), Fact.row 5 1 (.slice A1 (Tx.bare t).length c1) (Tx.bare t).length ((Tx.bare t).map u8v), Fact.blk gm (txC A t.ins.length c B t.outs.length d t.lock) 26] := ⟨_, _, H⟩
   clear H
   have H := H1_
   clear H1_
   refine k_seq (k_region (sR rfl rfl (d_ldXM (g := gn) (off := 0) rfl H (sub_all (a := txC (some ⟨ga, 0, none⟩) t.ins.length cn Bn t.outs.length dn t.lock) (m := 3) rfl) rfl rfl rfl rfl ta26 ts26) (sC rfl rfl rfl Tryz.func15 rfl rfl rfl (copyTxO _ (show RTx _ (0 ≤ ·) _ (Tx.setWit t k [[1]]) from tx_rows (eI := 34) (eO := 37) (xs := xsb) (ys := ysn) (S0 := S0b) (S1 := S1n) (l := (Tx.setWit t k [[1]]).ins) (r := t.outs) H (by unfold Tx.setWit; rw [List.length_modify]) rfl hk) (Tx.fits_chk hc1_)) ?_)))
   rintro _ W ⟨Aw, cw, Bw, dw, xsw, ysw, S0w, S1w, rfl, hapw, hn_⟩
   replace H := H.add4 hn_
   clear hn_
   refine s_eff (e_alloc (w_none rfl) rfl rfl [.slice none 0 0, .slice none 0 0, .int .i64 0] tz26 H ?_)
   clear H; intro gw W H
   refine s_eff (e_stoK (txC Aw (Tx.setWit t k [[1]]).ins.length cw Bw (Tx.setWit t k [[1]]).outs.length dw (Tx.setWit t k [[1]]).lock) (w_none rfl) rfl rfl rfl rfl rfl ts26 rfl rfl H (by decide) rfl ?_)
   clear H; intro W H
   refine l_nil ?_
   have hm0 : 0 < (Tx.setWit t k [[1]]).outs.length := by rw [hosN]; simp
   obtain ⟨gc, rfl⟩ := row_own (H.get (f := Fact.row 37 2 (.slice Bw (Tx.setWit t k [[1]]).outs.length dw) (Tx.setWit t k [[1]]).outs.length ysw)) hm0
   obtain ⟨A0, c0, S2w, hys, hnv, hc0w, hd0w, H1_⟩ := out_take (H.perm (List.perm_middle (l₁ := [_, _, _, _]))) hosN hapw
   clear H
   have H := H1_
   clear H1_
   simp only [List.cons_append, List.nil_append] at H
   have hL0w : sub ysw (0 * 2) 2 = outC o.value A0 o.script.length c0 := by rw [hys]; exact sub_head rfl
   refine k_seq (k_region (sR rfl rfl (d_fa rfl rfl tf26_1) (sR rfl rfl (d_ld rfl H rfl ta24 rfl) (sR rfl rfl (d_iaP (q := 0) rfl rfl rfl rfl hm0 tu24 ts37) (sR rfl rfl (d_fa rfl rfl tf37_1) (sR rfl rfl (d_ldE (q := 0) (off := 1) rfl (H.rowrd (A := (some ⟨gc, 0, none⟩))) hm0 hL0w rfl rfl rfl (by omega) ta35) (sR rfl rfl (d_len rfl rfl tu35) (sAi rfl rfl rfl rfl (l_nil (k_seq ?_))))))))))
   refine k_cut 118 [] (fun sl W => ∃ S1v : Nat → Prop, ∃ ysv : List Value, sl = [] ∧ St nT w W [Fact.els ROut 2 S1v ysv (Tx.setScr (Tx.setWit t k [[1]]) (o.script ++ [7])).outs, Fact.blk gw (txC Aw (Tx.setWit t k [[1]]).ins.length cw (some ⟨gc, 0, none⟩) (Tx.setWit t k [[1]]).outs.length dw (Tx.setWit t k [[1]]).lock) 26, Fact.row 34 34 (.slice Aw (Tx.setWit t k [[1]]).ins.length cw) (Tx.setWit t k [[1]]).ins.length xsw, Fact.els RIn 34 S0w xsw (Tx.setWit t k [[1]]).ins, Fact.row 37 2 (.slice (some ⟨gc, 0, none⟩) (Tx.setWit t k [[1]]).outs.length dw) (Tx.setWit t k [[1]]).outs.length ysv, Fact.els RIn 34 S0c xsc (Tx.setWit t k [[1, 2]]).ins, Fact.els RIn 34 S0b xsb (Tx.setWit t k [[1]]).ins, Fact.blk gr (txC (some ⟨gb, 0, none⟩) (Tx.setWit t k []).ins.length cm Bm (Tx.setWit t k []).outs.length dm (Tx.setWit t k []).lock) 26, Fact.row 34 34 (.slice (some ⟨gb, 0, none⟩) (Tx.setWit t k []).ins.length cm) (Tx.setWit t k []).ins.length xsc, Fact.row 37 2 (.slice Bm (Tx.setWit t k []).outs.length dm) (Tx.setWit t k []).outs.length ysm, Fact.els ROut 2 S1m ysm (Tx.setWit t k []).outs, Fact.blk gn (txC (some ⟨ga, 0, none⟩) t.ins.length cn Bn t.outs.length dn t.lock) 26, Fact.row 34 34 (.slice (some ⟨ga, 0, none⟩) t.ins.length cn) t.ins.length xsb, Fact.row 37 2 (.slice Bn t.outs.length dn) t.outs.length ysn, Fact.els ROut 2 S1n ysn t.outs, Fact.row 5 1 (.slice A2 (Tx.put t).length c2) (Tx.put t).length ((Tx.put t).map u8v), Fact.row 5 1 (.slice A1 (Tx.bare t).length c1) (Tx.bare t).length ((Tx.bare t).map u8v), Fact.blk gm (txC A t.ins.length c B t.outs.length d t.lock) 26]) ?_ (fun sl ρv W hJ => ?_)
   ·skip
    refine k_drawT (.rd 0 (.rd 1 (.rd 2 (.rd 3 (.rd 4 (.rd 5 (.many 5 [6, 7] fun j => (bif Nat.beq j 6 then (.ef 7 (.ef 8 (.rd 9 (.rd 10 (.ef 11 .nil))))) else (.ef 6 (.ef 8 (.rd 9 (.rd 10 (.ef 11 .nil))))))))))))) [Fact.blk gw (txC Aw (Tx.setWit t k [[1]]).ins.length cw (some ⟨gc, 0, none⟩) (Tx.setWit t k [[1]]).outs.length dw (Tx.setWit t k [[1]]).lock) 26] (by kernel_rfl) (by kernel_rfl) H (by repeat (first | exact .refl _ | exact List.nil_sublist _ | refine .cons_cons _ ?_ | refine .cons _ ?_)) ?_
    clear H; intro W H
    refine t_run rfl (w_none rfl) rfl (fun W H => d_fa rfl rfl tf26_1) (t_run rfl (w_none rfl) rfl (fun W H => d_ld rfl H rfl ta24 rfl) (t_run rfl (w_none rfl) rfl (fun W H => d_fa rfl rfl tf26_1) (t_run rfl (w_none rfl) rfl (fun W H => d_ld rfl H rfl ta24 rfl) (t_run rfl (w_none rfl) rfl (fun W H => d_iaP (q := 0) rfl rfl rfl rfl hm0 tu24 ts37) (t_run rfl (w_none rfl) rfl (fun W H => d_fa rfl rfl tf37_1) (t_each ?_ ?_))))))
    ·skip
     refine t_eff rfl (e_run (w_none rfl) rfl (d_ldE (q := 0) (off := 1) rfl (H.rowrd (A := (some ⟨gc, 0, none⟩))) hm0 hL0w rfl rfl rfl (by omega) ta35) ?_)
     refine ⟨_, fun _ h => h, H.sub (by repeat (first | exact .refl _ | exact List.nil_sublist _ | refine .cons_cons _ ?_ | refine .cons _ ?_)), ?_⟩
     refine t_eff rfl (e_bsl (xs := [.const (.int .u8 7)]) (vals := [.int .u8 _]) (vs := [.int .u8 _]) (w_none rfl) rfl rfl rfl rfl rfl rfl tu35 ts5 ty5 rfl rfl rfl H ?_)
     clear H; intro g7 W H
     refine ⟨_, fun _ h => h, H.sub (by repeat (first | exact .refl _ | exact List.nil_sublist _ | refine .cons_cons _ ?_ | refine .cons _ ?_)), ?_⟩
     refine t_eff rfl (e_app (w_none rfl) rfl rfl tu35 tx5 rfl rfl rfl H (rd_blk (m := 1) (H.blk (g := g7)) rfl) (rfl) (by omega) rfl ?_)
     clear H; intro A7 c7 W hc7 hd7 H
     replace H := H.drop
     refine ⟨_, fun _ h => h, H.sub (by repeat (first | exact .refl _ | exact List.nil_sublist _ | refine .cons_cons _ ?_ | refine .cons _ ?_)), ?_⟩
     refine t_run rfl (w_none rfl) rfl (fun W H => d_iaP (q := 0) rfl rfl rfl rfl hm0 tu24 ts37) (t_run rfl (w_none rfl) rfl (fun W H => d_fa rfl rfl tf37_1) (t_eff rfl (e_stoG (v := .slice A7 (o.script.length + 1) c7) (k := 1) (s := 2) (e := 37) (m := (Tx.setWit t k [[1]]).outs.length) (c := dw) (w_none rfl) rfl rfl rfl rfl rfl rfl ts35 rfl H (by omega) ?_)))
     clear H; intro W H
     skip
     refine ⟨_, fun _ h => h, H.sub (by repeat (first | exact .refl _ | exact List.nil_sublist _ | refine .cons_cons _ ?_ | refine .cons _ ?_)), ?_⟩
     refine t_nil (k_nil (n_then ?_))
     rw [show o.script.map u8v ++ [.int .u8 7] = (o.script ++ [7]).map u8v by rw [List.map_append]; rfl] at H
     replace H := (H.torb (l := o.script ++ [7]) (by simp)).rerep (R' := ROut) (cs' := outC o.value A7 (o.script.length + 1) c7) (b := ⟨o.value, o.script ++ [7]⟩) (fun h => ⟨_, _, rfl, ⟨rfl, hnv⟩, h⟩)
     replace H := els_cons H rfl
     rw [show ysw.set 1 (.slice A7 (o.script.length + 1) c7) = outC o.value A7 (o.script.length + 1) c7 ++ ysw.drop 2 from (congrArg (fun z => z.set 1 (.slice A7 (o.script.length + 1) c7)) hys).trans rfl, ← Tx.set_scr hosN] at H
     refine ⟨_, _, rfl, ?_, ?_, ⟨_, _, rfl, H⟩⟩
     ·repeat (first | with_reducible exact .refl | (with_reducible refine .updl _ (.ovr2 ?_ ?_) ?_); rotate_left; exact rfl; exact rfl | (with_reducible refine .upd ?_ ?_); rotate_left; exact rfl)
     ·exact trivial
    refine t_each ?_ ?_
    ·skip
     refine t_eff rfl (e_bsl (xs := [.const (.int .u8 7)]) (vals := [.int .u8 _]) (vs := [.int .u8 _]) (w_none rfl) rfl rfl rfl rfl rfl rfl tu35 ts5 ty5 rfl rfl rfl H ?_)
     clear H; intro g7 W H
     refine ⟨_, fun _ h => h, H.sub (by repeat (first | exact .refl _ | exact List.nil_sublist _ | refine .cons_cons _ ?_ | refine .cons _ ?_)), ?_⟩
     refine t_eff rfl (e_run (w_none rfl) rfl (d_ldE (q := 0) (off := 1) rfl (H.rowrd (A := (some ⟨gc, 0, none⟩))) hm0 hL0w rfl rfl rfl (by omega) ta35) ?_)
     refine ⟨_, fun _ h => h, H.sub (by repeat (first | exact .refl _ | exact List.nil_sublist _ | refine .cons_cons _ ?_ | refine .cons _ ?_)), ?_⟩
     refine t_eff rfl (e_app (w_none rfl) rfl rfl tu35 tx5 rfl rfl rfl H (rd_blk (m := 1) (H.blk (g := g7)) rfl) (rfl) (by omega) rfl ?_)
     clear H; intro A7 c7 W hc7 hd7 H
     replace H := H.drop
     refine ⟨_, fun _ h => h, H.sub (by repeat (first | exact .refl _ | exact List.nil_sublist _ | refine .cons_cons _ ?_ | refine .cons _ ?_)), ?_⟩
     refine t_run rfl (w_none rfl) rfl (fun W H => d_iaP (q := 0) rfl rfl rfl rfl hm0 tu24 ts37) (t_run rfl (w_none rfl) rfl (fun W H => d_fa rfl rfl tf37_1) (t_eff rfl (e_stoG (v := .slice A7 (o.script.length + 1) c7) (k := 1) (s := 2) (e := 37) (m := (Tx.setWit t k [[1]]).outs.length) (c := dw) (w_none rfl) rfl rfl rfl rfl rfl rfl ts35 rfl H (by omega) ?_)))
     clear H; intro W H
     skip
     refine ⟨_, fun _ h => h, H.sub (by repeat (first | exact .refl _ | exact List.nil_sublist _ | refine .cons_cons _ ?_ | refine .cons _ ?_)), ?_⟩
     refine t_nil (k_nil (n_then ?_))
     rw [show o.script.map u8v ++ [.int .u8 7] = (o.script ++ [7]).map u8v by rw [List.map_append]; rfl] at H
     replace H := (H.torb (l := o.script ++ [7]) (by simp)).rerep (R' := ROut) (cs' := outC o.value A7 (o.script.length + 1) c7) (b := ⟨o.value, o.script ++ [7]⟩) (fun h => ⟨_, _, rfl, ⟨rfl, hnv⟩, h⟩)
     replace H := els_cons H rfl
     rw [show ysw.set 1 (.slice A7 (o.script.length + 1) c7) = outC o.value A7 (o.script.length + 1) c7 ++ ysw.drop 2 from (congrArg (fun z => z.set 1 (.slice A7 (o.script.length + 1) c7)) hys).trans rfl, ← Tx.set_scr hosN] at H
     refine ⟨_, _, rfl, ?_, ?_, ⟨_, _, rfl, H⟩⟩
     ·repeat (first | with_reducible exact .refl | (with_reducible refine .updl _ (.ovr2 ?_ ?_) ?_); rotate_left; exact rfl; exact rfl | (with_reducible refine .upd ?_ ?_); rotate_left; exact rfl)
     ·exact trivial
    exact t_none
   clear H; obtain ⟨S1v, ysv, rfl, H⟩ := hJ
   refine k_seq ?_
   rcases (show o.script.length = 252 ∨ o.script.length = 256 ∨ (¬ o.script.length = 252 ∧ ¬ o.script.length = 256) by omega) with h3 | h3 | h3
   ·skip
    refine k_draw [(0, true), (2, true), (1, false), (3, false), (4, true), (5, true), (6, true), (7, true), (8, true), (9, true), (10, true), (11, true), (12, true), (13, true), (14, true), (15, true), (16, true), (17, true), (18, true), (19, true), (20, true), (21, true), (22, true), (23, false), (24, true), (25, true)] [Fact.blk gw (txC Aw (Tx.setWit t k [[1]]).ins.length cw (some ⟨gc, 0, none⟩) (Tx.setWit t k [[1]]).outs.length dw (Tx.setWit t k [[1]]).lock) 26, Fact.blk gr (txC (some ⟨gb, 0, none⟩) (Tx.setWit t k []).ins.length cm Bm (Tx.setWit t k []).outs.length dm (Tx.setWit t k []).lock) 26, Fact.blk gn (txC (some ⟨ga, 0, none⟩) t.ins.length cn Bn t.outs.length dn t.lock) 26] (by kernel_rfl) (by kernel_rfl) H (by repeat (first | exact .refl _ | exact List.nil_sublist _ | refine .cons_cons _ ?_ | refine .cons _ ?_)) ?_
    clear H; intro W H
    refine cR rfl rfl rfl (fun W H => d_ldXM (g := gr) (off := 0) rfl H (sub_all (a := txC (some ⟨gb, 0, none⟩) (Tx.setWit t k []).ins.length cm Bm (Tx.setWit t k []).outs.length dm (Tx.setWit t k []).lock) (m := 3) rfl) rfl rfl rfl rfl ta26 ts26) (cR rfl rfl rfl (fun W H => d_ldXM (g := gn) (off := 0) rfl H (sub_all (a := txC (some ⟨ga, 0, none⟩) t.ins.length cn Bn t.outs.length dn t.lock) (m := 3) rfl) rfl rfl rfl rfl ta26 ts26) (c_eff rfl (e_call (w_none rfl) rfl rfl Tryz.func26 rfl rfl rfl (weightTP _ (show RTx _ (0 ≤ ·) _ (Tx.setWit t k [[1, 2]]) from tx_rows (eI := 34) (eO := 37) (xs := xsc) (ys := ysm) (S0 := S0c) (S1 := S1m) (l := (Tx.setWit t k [[1, 2]]).ins) (r := (Tx.setWit t k []).outs) H (by unfold Tx.setWit; rw [List.length_modify, List.length_modify]) rfl hk) (H.gat hG)) ?_)))
    rintro _ W ⟨rfl, hb⟩
    replace H := H.below hb
    clear hb
    refine ⟨H.sub (by repeat (first | exact .refl _ | exact List.nil_sublist _ | refine .cons_cons _ ?_ | refine .cons _ ?_)), ?_⟩
    refine c_eff rfl (e_call (w_none rfl) rfl rfl Tryz.func26 rfl rfl rfl (weightTP _ (show RTx _ (0 ≤ ·) _ (Tx.setWit t k [[1]]) from tx_rows (eI := 34) (eO := 37) (xs := xsb) (ys := ysn) (S0 := S0b) (S1 := S1n) (l := (Tx.setWit t k [[1]]).ins) (r := t.outs) H (by unfold Tx.setWit; rw [List.length_modify]) rfl hk) (H.gat hG)) ?_)
    rintro _ W ⟨rfl, hb⟩
    replace H := H.below hb
    clear hb
    refine ⟨H.sub (by repeat (first | exact .refl _ | exact List.nil_sublist _ | refine .cons_cons _ ?_ | refine .cons _ ?_)), ?_⟩
    refine cR rfl rfl rfl (fun W H => d_add rfl rfl rfl (by omega)) (cR rfl rfl rfl (fun W H => d_eq rfl rfl rfl) (cR rfl rfl rfl (fun W H => mv_bx (c := true) rfl rfl (by rw [hw1]; simp)) ?_))
    refine c_run rfl (w_g rfl rfl rfl rfl) rfl (fun W H => mv_i rfl rfl) (c_run rfl (w_g rfl rfl rfl rfl) rfl (fun W H => d_eq rfl rfl rfl) (c_run rfl (w_g rfl rfl rfl rfl) rfl (fun W H => mv_bx (c := true) rfl rfl (by simp; omega)) (c_skip rfl (w_gno rfl rfl rfl rfl rfl) rfl (c_skip rfl (w_gno rfl rfl rfl rfl rfl) rfl (c_run rfl (w_g rfl rfl rfl rfl) rfl (fun W H => d_pickT rfl rfl rfl) (c_run rfl (w_g rfl rfl rfl rfl) rfl (fun W H => mv_bx (c := true) rfl rfl (by first | rfl | (simp; omega))) ?_))))))
    refine c_skip rfl (w_gno rfl rfl rfl rfl rfl) rfl (c_skip rfl (w_gno rfl rfl rfl rfl rfl) rfl (c_skip rfl (w_gno rfl rfl rfl rfl rfl) rfl (c_skip rfl (w_gno rfl rfl rfl rfl rfl) rfl (c_skip rfl (w_gno rfl rfl rfl rfl rfl) rfl (c_skip rfl (w_gno rfl rfl rfl rfl rfl) rfl (c_run rfl (w_g rfl rfl rfl rfl) rfl (fun W H => d_pickT rfl rfl rfl) (cR rfl rfl rfl (fun W H => d_pickT rfl rfl rfl) (cR rfl rfl rfl (fun W H => mv_bx (c := true) rfl rfl (by first | rfl | (rw [hw3]; simp))) ?_))))))))
    refine c_eff rfl (e_call (w_g rfl rfl rfl rfl) rfl rfl Tryz.func13 rfl rfl rfl (works07 _ (H.gat hG) (H.gl hB)) ?_)
    rintro _ W ⟨rfl, hb⟩
    replace H := H.below hb
    clear hb
    refine ⟨H.sub (by repeat (first | exact .refl _ | exact List.nil_sublist _ | refine .cons_cons _ ?_ | refine .cons _ ?_)), ?_⟩
    refine cR rfl rfl rfl (fun W H => d_pickT rfl rfl rfl) (cR rfl rfl rfl (fun W H => as_b rfl rfl) (c_nil (k_ret ?_)))
    repeat (first | refine r_then ?_ | refine r_blk ?_)
    exact q_ret (v := .bool _) rfl rfl ⟨_, rfl, rfl, H.under⟩
   ·skip
    refine k_draw [(0, true), (2, true), (1, false), (3, false), (4, true), (5, true), (6, true), (7, true), (8, true), (9, true), (10, true), (11, true), (12, true), (13, true), (14, true), (15, true), (16, true), (17, true), (18, true), (19, true), (20, true), (21, true), (22, true), (23, false), (24, true), (25, true)] [Fact.blk gw (txC Aw (Tx.setWit t k [[1]]).ins.length cw (some ⟨gc, 0, none⟩) (Tx.setWit t k [[1]]).outs.length dw (Tx.setWit t k [[1]]).lock) 26, Fact.blk gr (txC (some ⟨gb, 0, none⟩) (Tx.setWit t k []).ins.length cm Bm (Tx.setWit t k []).outs.length dm (Tx.setWit t k []).lock) 26, Fact.blk gn (txC (some ⟨ga, 0, none⟩) t.ins.length cn Bn t.outs.length dn t.lock) 26] (by kernel_rfl) (by kernel_rfl) H (by repeat (first | exact .refl _ | exact List.nil_sublist _ | refine .cons_cons _ ?_ | refine .cons _ ?_)) ?_
    clear H; intro W H
    refine cR rfl rfl rfl (fun W H => d_ldXM (g := gr) (off := 0) rfl H (sub_all (a := txC (some ⟨gb, 0, none⟩) (Tx.setWit t k []).ins.length cm Bm (Tx.setWit t k []).outs.length dm (Tx.setWit t k []).lock) (m := 3) rfl) rfl rfl rfl rfl ta26 ts26) (cR rfl rfl rfl (fun W H => d_ldXM (g := gn) (off := 0) rfl H (sub_all (a := txC (some ⟨ga, 0, none⟩) t.ins.length cn Bn t.outs.length dn t.lock) (m := 3) rfl) rfl rfl rfl rfl ta26 ts26) (c_eff rfl (e_call (w_none rfl) rfl rfl Tryz.func26 rfl rfl rfl (weightTP _ (show RTx _ (0 ≤ ·) _ (Tx.setWit t k [[1, 2]]) from tx_rows (eI := 34) (eO := 37) (xs := xsc) (ys := ysm) (S0 := S0c) (S1 := S1m) (l := (Tx.setWit t k [[1, 2]]).ins) (r := (Tx.setWit t k []).outs) H (by unfold Tx.setWit; rw [List.length_modify, List.length_modify]) rfl hk) (H.gat hG)) ?_)))
    rintro _ W ⟨rfl, hb⟩
    replace H := H.below hb
    clear hb
    refine ⟨H.sub (by repeat (first | exact .refl _ | exact List.nil_sublist _ | refine .cons_cons _ ?_ | refine .cons _ ?_)), ?_⟩
    refine c_eff rfl (e_call (w_none rfl) rfl rfl Tryz.func26 rfl rfl rfl (weightTP _ (show RTx _ (0 ≤ ·) _ (Tx.setWit t k [[1]]) from tx_rows (eI := 34) (eO := 37) (xs := xsb) (ys := ysn) (S0 := S0b) (S1 := S1n) (l := (Tx.setWit t k [[1]]).ins) (r := t.outs) H (by unfold Tx.setWit; rw [List.length_modify]) rfl hk) (H.gat hG)) ?_)
    rintro _ W ⟨rfl, hb⟩
    replace H := H.below hb
    clear hb
    refine ⟨H.sub (by repeat (first | exact .refl _ | exact List.nil_sublist _ | refine .cons_cons _ ?_ | refine .cons _ ?_)), ?_⟩
    refine cR rfl rfl rfl (fun W H => d_add rfl rfl rfl (by omega)) (cR rfl rfl rfl (fun W H => d_eq rfl rfl rfl) (cR rfl rfl rfl (fun W H => mv_bx (c := true) rfl rfl (by rw [hw1]; simp)) ?_))
    refine c_run rfl (w_g rfl rfl rfl rfl) rfl (fun W H => mv_i rfl rfl) (c_run rfl (w_g rfl rfl rfl rfl) rfl (fun W H => d_eq rfl rfl rfl) (c_run rfl (w_g rfl rfl rfl rfl) rfl (fun W H => mv_bx (c := false) rfl rfl (by simp; omega)) (c_run rfl (w_g rfl rfl rfl rfl) rfl (fun W H => mv_i rfl rfl) (c_run rfl (w_g rfl rfl rfl rfl) rfl (fun W H => d_eq rfl rfl rfl) (c_run rfl (w_g rfl rfl rfl rfl) rfl (fun W H => d_pickF rfl rfl rfl) (c_run rfl (w_g rfl rfl rfl rfl) rfl (fun W H => mv_bx (c := true) rfl rfl (by first | rfl | (simp; omega))) ?_))))))
    refine c_skip rfl (w_gno rfl rfl rfl rfl rfl) rfl (c_skip rfl (w_gno rfl rfl rfl rfl rfl) rfl (c_skip rfl (w_gno rfl rfl rfl rfl rfl) rfl (c_skip rfl (w_gno rfl rfl rfl rfl rfl) rfl (c_skip rfl (w_gno rfl rfl rfl rfl rfl) rfl (c_skip rfl (w_gno rfl rfl rfl rfl rfl) rfl (c_run rfl (w_g rfl rfl rfl rfl) rfl (fun W H => d_pickT rfl rfl rfl) (cR rfl rfl rfl (fun W H => d_pickT rfl rfl rfl) (cR rfl rfl rfl (fun W H => mv_bx (c := true) rfl rfl (by first | rfl | (rw [hw3]; simp))) ?_))))))))
    refine c_eff rfl (e_call (w_g rfl rfl rfl rfl) rfl rfl Tryz.func13 rfl rfl rfl (works07 _ (H.gat hG) (H.gl hB)) ?_)
    rintro _ W ⟨rfl, hb⟩
    replace H := H.below hb
    clear hb
    refine ⟨H.sub (by repeat (first | exact .refl _ | exact List.nil_sublist _ | refine .cons_cons _ ?_ | refine .cons _ ?_)), ?_⟩
    refine cR rfl rfl rfl (fun W H => d_pickT rfl rfl rfl) (cR rfl rfl rfl (fun W H => as_b rfl rfl) (c_nil (k_ret ?_)))
    repeat (first | refine r_then ?_ | refine r_blk ?_)
    exact q_ret (v := .bool _) rfl rfl ⟨_, rfl, rfl, H.under⟩
   ·have hw3 := hw2 h3.1 h3.2
    refine k_draw [(0, true), (2, true), (1, false), (3, false), (4, true), (5, true), (6, true), (7, true), (8, true), (9, true), (10, true), (11, true), (12, true), (13, true), (14, true), (16, true), (15, false), (17, false), (18, true), (19, true), (20, true), (21, true), (22, true), (23, false), (24, true), (25, true)] [Fact.blk gw (txC Aw (Tx.setWit t k [[1]]).ins.length cw (some ⟨gc, 0, none⟩) (Tx.setWit t k [[1]]).outs.length dw (Tx.setWit t k [[1]]).lock) 26, Fact.blk gr (txC (some ⟨gb, 0, none⟩) (Tx.setWit t k []).ins.length cm Bm (Tx.setWit t k []).outs.length dm (Tx.setWit t k []).lock) 26, Fact.blk gn (txC (some ⟨ga, 0, none⟩) t.ins.length cn Bn t.outs.length dn t.lock) 26] (by kernel_rfl) (by kernel_rfl) H (by repeat (first | exact .refl _ | exact List.nil_sublist _ | refine .cons_cons _ ?_ | refine .cons _ ?_)) ?_
    clear H; intro W H
    refine cR rfl rfl rfl (fun W H => d_ldXM (g := gr) (off := 0) rfl H (sub_all (a := txC (some ⟨gb, 0, none⟩) (Tx.setWit t k []).ins.length cm Bm (Tx.setWit t k []).outs.length dm (Tx.setWit t k []).lock) (m := 3) rfl) rfl rfl rfl rfl ta26 ts26) (cR rfl rfl rfl (fun W H => d_ldXM (g := gn) (off := 0) rfl H (sub_all (a := txC (some ⟨ga, 0, none⟩) t.ins.length cn Bn t.outs.length dn t.lock) (m := 3) rfl) rfl rfl rfl rfl ta26 ts26) (c_eff rfl (e_call (w_none rfl) rfl rfl Tryz.func26 rfl rfl rfl (weightTP _ (show RTx _ (0 ≤ ·) _ (Tx.setWit t k [[1, 2]]) from tx_rows (eI := 34) (eO := 37) (xs := xsc) (ys := ysm) (S0 := S0c) (S1 := S1m) (l := (Tx.setWit t k [[1, 2]]).ins) (r := (Tx.setWit t k []).outs) H (by unfold Tx.setWit; rw [List.length_modify, List.length_modify]) rfl hk) (H.gat hG)) ?_)))
    rintro _ W ⟨rfl, hb⟩
    replace H := H.below hb
    clear hb
    refine ⟨H.sub (by repeat (first | exact .refl _ | exact List.nil_sublist _ | refine .cons_cons _ ?_ | refine .cons _ ?_)), ?_⟩
    refine c_eff rfl (e_call (w_none rfl) rfl rfl Tryz.func26 rfl rfl rfl (weightTP _ (show RTx _ (0 ≤ ·) _ (Tx.setWit t k [[1]]) from tx_rows (eI := 34) (eO := 37) (xs := xsb) (ys := ysn) (S0 := S0b) (S1 := S1n) (l := (Tx.setWit t k [[1]]).ins) (r := t.outs) H (by unfold Tx.setWit; rw [List.length_modify]) rfl hk) (H.gat hG)) ?_)
    rintro _ W ⟨rfl, hb⟩
    replace H := H.below hb
    clear hb
    refine ⟨H.sub (by repeat (first | exact .refl _ | exact List.nil_sublist _ | refine .cons_cons _ ?_ | refine .cons _ ?_)), ?_⟩
    refine cR rfl rfl rfl (fun W H => d_add rfl rfl rfl (by omega)) (cR rfl rfl rfl (fun W H => d_eq rfl rfl rfl) (cR rfl rfl rfl (fun W H => mv_bx (c := true) rfl rfl (by rw [hw1]; simp)) ?_))
    refine c_run rfl (w_g rfl rfl rfl rfl) rfl (fun W H => mv_i rfl rfl) (c_run rfl (w_g rfl rfl rfl rfl) rfl (fun W H => d_eq rfl rfl rfl) (c_run rfl (w_g rfl rfl rfl rfl) rfl (fun W H => mv_bx (c := false) rfl rfl (by simp; omega)) (c_run rfl (w_g rfl rfl rfl rfl) rfl (fun W H => mv_i rfl rfl) (c_run rfl (w_g rfl rfl rfl rfl) rfl (fun W H => d_eq rfl rfl rfl) (c_run rfl (w_g rfl rfl rfl rfl) rfl (fun W H => d_pickF rfl rfl rfl) (c_run rfl (w_g rfl rfl rfl rfl) rfl (fun W H => mv_bx (c := false) rfl rfl (by first | rfl | (simp; omega))) ?_))))))
    refine c_run rfl (w_g rfl rfl rfl rfl) rfl (fun W H => d_ldXM (g := gw) (off := 0) rfl H (sub_all (a := txC Aw (Tx.setWit t k [[1]]).ins.length cw (some ⟨gc, 0, none⟩) (Tx.setWit t k [[1]]).outs.length dw (Tx.setWit t k [[1]]).lock) (m := 3) rfl) rfl rfl rfl rfl ta26 ts26) (c_run rfl (w_g rfl rfl rfl rfl) rfl (fun W H => d_ldXM (g := gn) (off := 0) rfl H (sub_all (a := txC (some ⟨ga, 0, none⟩) t.ins.length cn Bn t.outs.length dn t.lock) (m := 3) rfl) rfl rfl rfl rfl ta26 ts26) (c_eff rfl (e_call (w_g rfl rfl rfl rfl) rfl rfl Tryz.func26 rfl rfl rfl (weightTP _ (show RTx _ (0 ≤ ·) _ (Tx.setScr (Tx.setWit t k [[1]]) (o.script ++ [7])) from tx_rows (eI := 34) (eO := 37) (xs := xsw) (ys := ysv) (S0 := S0w) (S1 := S1v) (l := (Tx.setWit t k [[1]]).ins) (r := (Tx.setScr (Tx.setWit t k [[1]]) (o.script ++ [7])).outs) H rfl (by unfold Tx.setScr; rw [List.length_modify]) hk) (H.gat hG)) ?_)))
    rintro _ W ⟨rfl, hb⟩
    replace H := H.below hb
    clear hb
    refine ⟨H.sub (by repeat (first | exact .refl _ | exact List.nil_sublist _ | refine .cons_cons _ ?_ | refine .cons _ ?_)), ?_⟩
    refine c_eff rfl (e_call (w_g rfl rfl rfl rfl) rfl rfl Tryz.func26 rfl rfl rfl (weightTP _ (show RTx _ (0 ≤ ·) _ (Tx.setWit t k [[1]]) from tx_rows (eI := 34) (eO := 37) (xs := xsb) (ys := ysn) (S0 := S0b) (S1 := S1n) (l := (Tx.setWit t k [[1]]).ins) (r := t.outs) H (by unfold Tx.setWit; rw [List.length_modify]) rfl hk) (H.gat hG)) ?_)
    rintro _ W ⟨rfl, hb⟩
    replace H := H.below hb
    clear hb
    refine ⟨H.sub (by repeat (first | exact .refl _ | exact List.nil_sublist _ | refine .cons_cons _ ?_ | refine .cons _ ?_)), ?_⟩
    refine c_run rfl (w_g rfl rfl rfl rfl) rfl (fun W H => d_add rfl rfl rfl (by omega)) (c_run rfl (w_g rfl rfl rfl rfl) rfl (fun W H => d_eq rfl rfl rfl) (c_run rfl (w_g rfl rfl rfl rfl) rfl (fun W H => d_pickF rfl rfl rfl) (cR rfl rfl rfl (fun W H => d_pickT rfl rfl rfl) (cR rfl rfl rfl (fun W H => mv_bx (c := true) rfl rfl (by first | rfl | (rw [hw3]; simp))) ?_))))
    refine c_eff rfl (e_call (w_g rfl rfl rfl rfl) rfl rfl Tryz.func13 rfl rfl rfl (works07 _ (H.gat hG) (H.gl hB)) ?_)
    rintro _ W ⟨rfl, hb⟩
    replace H := H.below hb
    clear hb
    refine ⟨H.sub (by repeat (first | exact .refl _ | exact List.nil_sublist _ | refine .cons_cons _ ?_ | refine .cons _ ?_)), ?_⟩
    refine cR rfl rfl rfl (fun W H => d_pickT rfl rfl rfl) (cR rfl rfl rfl (fun W H => as_b rfl rfl) (c_nil (k_ret ?_)))
    repeat (first | refine r_then ?_ | refine r_blk ?_)
    exact q_ret (v := .bool _) rfl rfl ⟨_, rfl, rfl, H.under⟩
 ·skip
  refine k_region (sR rfl rfl (d_ldXM (g := gm) (off := 0) rfl H (sub_all (a := txC A t.ins.length c B t.outs.length d t.lock) (m := 3) rfl) rfl rfl rfl rfl ta26 ts26) (sC rfl rfl rfl Tryz.func14 rfl rfl rfl (bigTx (rows := 40) (bytes := 8192) _ (keeps_Tx _ _ _ _ _ ht (fun g hg _ => H.fr.block g hg (fun h => h))) hz) ?_))
  rintro _ W ⟨rfl, hb⟩
  replace H := H.below hb
  clear hb
  refine sR rfl rfl (mv_bx (c := true) rfl rfl (by rw [hbig])) ?_
  refine s_skip (w_gno rfl rfl rfl rfl rfl) rfl (s_skip (w_gno rfl rfl rfl rfl rfl) rfl (s_skip (w_gno rfl rfl rfl rfl rfl) rfl (sR rfl rfl (d_pickT rfl rfl rfl) (l_nil (k_condT rfl rfl (k_seq (k_region (sC rfl rfl rfl Tryz.func13 rfl rfl rfl (works07 _ (H.gat hG) (H.gl hB)) ?_))))))))
  rintro _ W ⟨rfl, hb⟩
  replace H := H.below hb
  clear hb
  refine sAb rfl rfl rfl rfl (l_nil (k_ret ?_))
  repeat (first | refine r_then ?_ | refine r_blk ?_)
  exact q_ret (v := .bool _) rfl rfl ⟨_, rfl, rfl, H.under⟩
end Go.Proofs.YteakkflhndifbaaGreatDoor
