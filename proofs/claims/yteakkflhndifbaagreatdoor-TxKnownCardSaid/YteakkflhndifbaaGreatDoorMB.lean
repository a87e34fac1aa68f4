/- Texts of this claim, laid together: K10, K11. -/
import Derived.Test.YteakkflhndifbaaGreatDoorMA
set_option linter.unusedVariables false
set_option linter.unusedSimpArgs false

namespace Go.Proofs.YteakkflhndifbaaGreatDoor
open Go Go.RowKit
attribute [local irreducible] wpList

theorem Bs.pre {W : World} {S : Nat → Prop} {A : Option Addr} {n c h : Nat} {l : List UInt8} (hb : Bs W S (.slice A n c) l) (hl : l.length = n) (hh : h ≤ n) : Bs W S (.slice A h c) (l.take h) := by
 subst hl
 obtain ⟨A', c', hv, h1, h2, hr⟩ := hb.op
 cases hv
 refine Bs.mk ?_ (by omega) h2
 refine ⟨by simp; omega, fun hn => ?_⟩
 obtain ⟨g, o, rfl, hg, hc⟩ := hr.2 (by omega)
 refine ⟨g, o, rfl, hg, fun j u hu => hc j u ?_⟩
 rw [List.map_take, List.getElem?_take] at hu
 split at hu
 ·exact hu
 ·cases hu
theorem spoil {A0 B : Option Addr} {n0 c0 q m c : Nat} {l : List UInt8} (w : World) (hR : w.ownsRow 0 5 1 (.slice A0 n0 c0) n0 (l.map u8v)) (hB : 0 < m → B = A0.map (·.add q)) (hq : q + m ≤ n0) (hm : m ≤ 1000000000000) :
  Calls Tryz.prog 21 [.slice B m c].toArray w (Ret (fun v' w' => v' = .tuple #[] ∧ (∃ ys : List UInt8, w'.ownsRow 0 5 1 (.slice A0 n0 c0) n0 (ys.map u8v) ∧ ys.length = l.length ∧ ys.take q = l.take q ∧ ys.drop (q + m) = l.drop (q + m)) ∧ Fr (fun g => (Value.slice A0 n0 c0).ownBlock = some g) w w')) := by
 refine k_enter (l := [_]) Tryz.func21 rfl rfl ?_
 have H := St.begin (f := Fact.row 5 1 (.slice A0 n0 c0) n0 (l.map u8v)) hR (fun g hg => (World.ownsRow.lt hR g hg).2)
 refine k_seq (k_region (sAi rfl rfl rfl rfl (l_nil (k_block (k_loop 2 [] (fun mm sl W => ∃ k : Nat, ∃ ys : List UInt8, m - k = mm ∧ sl = [(2, .int .i64 (k : Int))] ∧ (k ≤ m) ∧ (ys.length = l.length ∧ ys.take q = l.take q ∧ ys.drop (q + m) = l.drop (q + m)) ∧ St (fun g => (Value.slice A0 n0 c0).ownBlock = some g) w W [Fact.row 5 1 (.slice A0 n0 c0) n0 (ys.map u8v)]) _ _ ⟨0, l, rfl, rfl, Nat.zero_le _, ⟨rfl, rfl, rfl⟩, H⟩ ⟨rfl, trivial⟩ (fun mm sl ρv W hJ => ?_))))))
 clear H; obtain ⟨k, ys, rfl, rfl, hk, hy, H⟩ := hJ
 refine k_one (k_seq (k_seq (k_region (sMi rfl rfl rfl rfl (sMs rfl rfl rfl rfl (sR rfl rfl (d_len rfl rfl tu35) (sR rfl rfl (d_lt rfl rfl rfl) (l_nil (k_cond rfl (fun hc6 => ?_) (fun hc6 => ?_))))))))))
 ·first | (replace hc6 := of_decide_eq_true hc6) | simp at hc6
  refine k_skip (k_seq (k_block (k_region (sMs rfl rfl rfl rfl (sMi rfl rfl rfl rfl (sMi rfl rfl rfl rfl (sR rfl rfl (d_add rfl rfl rfl (by omega)) (sC rfl rfl rfl Tryz.func61 rfl rfl rfl (markBytes (k + 7) _ _ (by omega) (by omega)) ?_))))))))
  rintro _ W ⟨rfl, hb⟩
  replace H := H.below hb
  clear hb
  refine sR rfl rfl (d_iaB rfl ((H.rowrd (A := A0)).cutv (m := m) hq hB) rfl rfl (q := k) rfl (by omega) tu35 ts5) (s_eff (e_stoR (e := 5) (A := A0) (m := n0) (c := c0) (q := q) (k := k) (w_none rfl) rfl rfl rfl rfl (hB (by omega)) rfl ts5 rfl H (by omega) ?_))
  clear H; intro W H
  refine l_nil (k_nil (b_end (k_region (sMi rfl rfl rfl rfl (sR rfl rfl (d_add rfl rfl rfl (by omega)) (sAi rfl rfl rfl rfl (l_nil (k_nil (k_next ?_)))))))))
  refine ⟨_, _, _, ?_, rfl, ?_, ?_, ⟨k + 1, ys.set (q + k) (UInt8.ofNat (201 + 7 * (k + 7))), rfl, rfl, by omega, ⟨by rw [List.length_set]; exact hy.1, by rw [List.take_set_of_le (by omega)]; exact hy.2.1, by rw [List.drop_set_of_lt (by omega)]; exact hy.2.2⟩, by rw [List.map_set]; exact H⟩⟩
  ·omega
  ·repeat (first | (with_reducible refine .updl _ .ovr ?_); exact rfl | (with_reducible refine .updl _ (.ovr2 ?_ ?_) ?_); rotate_left; exact rfl; exact rfl | (with_reducible refine .upd ?_ ?_); rotate_left; exact rfl)
  ·refine ⟨?_, trivial⟩
   ·exact vi (by omega)
 ·first | (replace hc6 := of_decide_eq_false hc6) | simp at hc6
  refine k_exit (x_then (x_then ?_))
  exact x_hit (k_nil (q_end0 rfl ⟨_, rfl, rfl, ⟨ys, H.get (f := Fact.row 5 1 (.slice A0 n0 c0) n0 (ys.map u8v)), hy⟩, H.fr⟩))

theorem kept {S S' : Nat → Prop} {v u : Value} {al l : List UInt8} (w : World) (ha : Bs w S v al) (hb : Bs w S' u l) (he : al = l ++ marks 5) (hl : l.length ≤ 1000000000000) : Calls Tryz.prog 37 [v, u].toArray w (Ret (Is w (.bool true))) := by
 have hal : al.length = l.length + 5 := by rw [he, List.length_append, marks_len]
 have ht : al.take l.length = l := by rw [he, List.take_left]
 have hd : (al.drop l.length).take (al.length - l.length) = marks 5 := by rw [he, List.drop_left, List.take_of_length_le (by simp)]
 obtain ⟨A, c, rfl, hc1, hc2, ha1⟩ := ha.op
 obtain ⟨B, d, rfl, hd1, hd2, hb1⟩ := hb.op
 refine k_enter (l := [_, _]) Tryz.func37 rfl rfl ?_
 have H := St.start nT w
 refine k_seq (k_region (sAb rfl rfl rfl rfl (l_nil (k_seq (k_seq (k_region (sMs rfl rfl rfl rfl (sR rfl rfl (d_len rfl rfl tu35) (sMs rfl rfl rfl rfl (sR rfl rfl (d_len rfl rfl tu35) ?_))))))))))
 refine sR rfl rfl (d_add rfl rfl rfl (by omega)) (sR rfl rfl (d_ne rfl rfl rfl) (sR rfl rfl (mv_bx (c := false) rfl rfl (by simp; omega)) (s_run (w_g rfl rfl rfl rfl) rfl (mv_s rfl rfl) (s_run (w_g rfl rfl rfl rfl) rfl (mv_s rfl rfl) (s_run (w_g rfl rfl rfl rfl) rfl (d_len rfl rfl tu35) (s_run (w_g rfl rfl rfl rfl) rfl (d_cutP rfl rfl (h := l.length) rfl (by omega) rfl tu35 ts5) (s_run (w_g rfl rfl rfl rfl) rfl (mv_s rfl rfl) (s_eff (e_call (w_g rfl rfl rfl rfl) rfl rfl Tryz.func20 rfl rfl rfl (sameBytes _ _ _ _ _ ((H.bs ha).pre (h := l.length) rfl (by omega)) (H.bs hb)) ?_)))))))))
 rw [ht]
 rintro _ W ⟨rfl, hb⟩
 replace H := H.below hb
 clear hb
 refine s_run (w_g rfl rfl rfl rfl) rfl (d_not rfl rfl) (sR rfl rfl (d_pickF rfl rfl rfl) (l_nil (k_condF rfl (by first | (simp; done) | (simp; omega)) ?_)))
 refine k_skip (k_seq (k_region (sAs rfl rfl rfl rfl (l_nil (k_seq (k_seq (k_region (sAi rfl rfl rfl rfl (l_nil (k_block ?_))))))))))
 refine k_loop 22 [5, 6] (fun mm sl W => ∃ k : Nat, ∃ B2 : Option Addr, ∃ d2 : Nat, 5 - k = mm ∧ sl = [(6, .int .i64 (k : Int)), (5, .slice B2 k d2)] ∧ (k ≤ 5) ∧ (k ≤ d2 ∧ d2 ≤ 9223372036854775807) ∧ St nT w W [Fact.row 5 1 (.slice B2 k d2) k ((marks k).map u8v)]) _ _ ⟨0, none, 0, rfl, rfl, by omega, ⟨by omega, by omega⟩, H.nilrow 5 1⟩ ⟨rfl, rfl, trivial⟩ (fun mm sl ρv W hJ => ?_)
 clear H; obtain ⟨k, B2, d2, rfl, rfl, hk, hd3, H⟩ := hJ
 refine k_one (k_seq (k_seq (k_region (sMi rfl rfl rfl rfl (sR rfl rfl (d_lt rfl rfl rfl) (l_nil (k_cond rfl (fun hc23 => ?_) (fun hc23 => ?_))))))))
 ·first | (replace hc23 := of_decide_eq_true hc23) | simp at hc23
  refine k_skip (k_seq (k_block (k_region (sMs rfl rfl rfl rfl (sMi rfl rfl rfl rfl (sC rfl rfl rfl Tryz.func61 rfl rfl rfl (markBytes k _ _ rfl (by omega)) ?_))))))
  rintro _ W ⟨rfl, hb⟩
  replace H := H.below hb
  clear hb
  refine s_eff (e_bsl (xs := [.tmp 28]) (vals := [.int .u8 _]) (vs := [.int .u8 _]) (w_none rfl) rfl rfl rfl rfl rfl rfl tu35 ts5 ty5 rfl rfl rfl H ?_)
  clear H; intro g7_3 W H
  refine s_eff (e_app (w_none rfl) rfl rfl tu35 tx5 rfl rfl rfl H (rd_blk H.blk rfl) (rfl) (by omega) rfl ?_)
  clear H; intro A2 c2 W hc2 hd2 H
  replace H := H.drop
  refine sAs rfl rfl rfl rfl (l_nil (k_nil (b_end (k_region (sMi rfl rfl rfl rfl (sR rfl rfl (d_add rfl rfl rfl (by omega)) (sAi rfl rfl rfl rfl (l_nil (k_nil (k_next ?_))))))))))
  refine ⟨_, _, _, ?_, rfl, ?_, ?_, ⟨k + 1, A2, c2, rfl, rfl, by omega, ⟨hc2, hd2⟩, by rw [marks_succ, List.map_append]; exact H⟩⟩
  ·omega
  ·repeat (first | (with_reducible refine .updl _ .ovr ?_); exact rfl | (with_reducible refine .updl _ (.ovr2 ?_ ?_) ?_); rotate_left; exact rfl; exact rfl | (with_reducible refine .upd ?_ ?_); rotate_left; exact rfl)
  ·refine ⟨?_, ?_, trivial⟩
   ·exact vi (by omega)
   ·exact rfl
 ·first | (replace hc23 := of_decide_eq_false hc23) | simp at hc23
  refine k_exit (x_then (x_then ?_))
  refine x_hit (k_seq ?_)
  obtain rfl : k = 5 := by omega
  refine k_region (sMs rfl rfl rfl rfl (sMs rfl rfl rfl rfl (sR rfl rfl (d_len rfl rfl tu35) (sR rfl rfl (d_cutS rfl rfl (l := l.length) rfl (by omega) rfl tu35 ts5) (sMs rfl rfl rfl rfl (sC rfl rfl rfl Tryz.func20 rfl rfl rfl (sameBytes _ _ _ _ _ (bs_cut (H.bs ha) rfl (by omega) (Nat.le_refl _)) (H.rowbs (A := B2) (marks_len 5))) ?_))))))
  rw [hd]
  rintro _ W ⟨rfl, hb⟩
  replace H := H.below hb
  clear hb
  refine sAb rfl rfl rfl rfl (l_nil (k_ret ?_))
  repeat (first | refine r_then ?_ | refine r_blk ?_)
  exact q_ret (v := .bool _) rfl rfl ⟨_, rfl, by rw [decide_eq_true rfl], H.under⟩

theorem St.away {w W : World} {L : List Fact} {f : Fact} {g : Nat} (H : St nT w W L) [h : In f L] (hg : g < w.heap.size) : ¬ f.fp g := fun hf => by
 have := (H.own f h.mem g hf).1.resolve_left (fun h => h)
 omega
end Go.Proofs.YteakkflhndifbaaGreatDoor

namespace Go.Proofs.YteakkflhndifbaaGreatDoor
open Go Go.RowKit
attribute [local irreducible] wpList

def thingC (kd n : Int) (B : Option Addr) (m d : Nat) (h t : List UInt8) : List Value := .int .i64 kd :: .int .i64 n :: .slice B m d :: (h.map u8v ++ t.map u8v)
section
variable {kd n : Int} {B : Option Addr} {m d : Nat} {h t : List UInt8}
end
theorem lent_pre {W : World} {S : Nat → Prop} {A : Option Addr} {n c : Nat} {b : List UInt8} (h : Bs W S (.slice A n c) (b ++ marks 5)) (hl : (b ++ marks 5).length = n) : Bs W S (.slice A b.length c) b := by
 have h2 := h.pre (h := b.length) hl (by rw [← hl, List.length_append]; omega)
 rwa [List.take_left] at h2
theorem spoilAll {A : Option Addr} {m c : Nat} {l : List UInt8} (w : World) (hR : w.ownsRow 0 5 1 (.slice A m c) m (l.map u8v)) (hm : m ≤ 1000000000000) : Calls Tryz.prog 21 [.slice A m c].toArray w (Ret (fun v' w' => v' = .tuple #[] ∧ (∃ ys : List UInt8, w'.ownsRow 0 5 1 (.slice A m c) m (ys.map u8v)) ∧ Fr (fun g => (Value.slice A m c).ownBlock = some g) w w')) := by
 refine Calls.mono (spoil (q := 0) w hR (fun _ => ?_) (by omega) hm) (fun e w' h => ?_)
 ·rcases row_addr hR with rfl | ⟨g, rfl⟩
  ·rfl
  ·simp [Addr.add_mid]
 ·obtain ⟨v, h1, h2, ⟨ys, h3, _⟩, h4⟩ := h
  exact ⟨v, h1, h2, ⟨ys, h3⟩, h4⟩

end Go.Proofs.YteakkflhndifbaaGreatDoor
