/- PackBack, PackCut. -/
import Derived.Test.YtejaohlijaodjaaDoorK16
namespace Go.Proofs.YtejaohlijaodjaaDoor
open Go Go.RowKit
attribute [local irreducible] wpList

theorem St.rep {α : Type} {R : Rep α} {w W : World} {L : List Fact} {S : Nat → Prop} {cs : List Value} {a : α} (H : St nT w W L) (hK : Keeps R) (h : R w S cs a) : R W S cs a := hK _ _ _ _ _ h (fun g hg _ => H.fr.block g hg (fun h => h))
theorem pick_in {v n : Int} (hn : 1 ≤ n) : 0 ≤ pick v n ∧ pick v n < n := by
  unfold pick
  rw [if_neg (by omega)]
  exact ⟨Int.emod_nonneg _ (by omega), Int.emod_lt_of_pos _ (by omega)⟩
theorem pick_nat (v : Int) (n : Nat) : ∃ k : Nat, pick v (n : Int) = (k : Int) ∧ k ≤ n := by
  rcases Nat.eq_zero_or_pos n with h | h
  · subst h
    exact ⟨0, by unfold pick; rw [if_pos (by omega)]; rfl, Nat.le_refl _⟩
  · have := pick_in (v := v) (n := (n : Int)) (by omega)
    exact ⟨(pick v n).toNat, by omega, by omega⟩
theorem Rd.head {W : World} {S : Nat → Prop} {s n k : Nat} {A : Option Addr} {xs : List Value} (h : Rd W S s A n xs) (hk : k ≤ n) : Rd W S s A k (xs.take (k * s)) := by
  have hl := h.1
  have hks := Nat.mul_le_mul_right s hk
  refine ⟨by rw [List.length_take]; omega, fun hn => ?_⟩
  obtain ⟨g, o, rfl, hg, hc⟩ := h.2 (by omega)
  refine ⟨g, o, rfl, hg, fun j u hu => hc j u ?_⟩
  rw [List.getElem?_take] at hu
  split at hu
  · exact hu
  · cases hu
theorem rl_take {α : Type} {R : Rep α} {W : World} {S : Nat → Prop} {s k m c : Nat} {A : Option Addr} {l : List α} (h : RL s R W S [.slice A m c] l) (hk : k ≤ l.length) : RL s R W S [.slice A k c] (l.take k) := by
  obtain ⟨A', c', xs, hv, hc, hcm, hr, hel⟩ := h
  cases hv
  have hlk : (l.take k).length = k := by rw [List.length_take]; omega
  refine ⟨A, c, xs.take (k * s), by rw [hlk], by rw [hlk]; omega, hcm, by rw [hlk]; exact hr.head hk, fun i x hx => ?_⟩
  have hik : i < k := by
    have := (List.getElem?_eq_some_iff.1 hx).1
    rw [hlk] at this; exact this
  rw [List.getElem?_take_of_lt hik] at hx
  have h1 := hel i x hx
  have e : sub (xs.take (k * s)) (i * s) s = sub xs (i * s) s := by
    unfold sub
    have := Nat.mul_le_mul_right s (show i + 1 ≤ k by omega)
    rw [Nat.add_mul] at this
    rw [List.drop_take, List.take_take, Nat.min_eq_left (by omega)]
  rw [e]; exact h1
namespace Th
/-- What is left behind i things, cut at k. -/
def rem (l : List DThing) (k i : Nat) : List UInt8 := (lay (l.drop i)).take (k - (lay (l.take i)).length)
theorem rem_step {l : List DThing} {k i : Nat} {x : DThing} (hx : l[i]? = some x) (hk : (lay (l.take (i + 1))).length ≤ k) : rem l k i = enc x ++ rem l k (i + 1) := by
  have h1 := lay_at hx rfl
  rw [h1, List.length_append] at hk
  unfold rem
  rw [lay_drop hx, List.take_append, List.take_of_length_le (by omega), h1, List.length_append, Nat.sub_sub]
theorem rem_cut {l : List DThing} {k i : Nat} {x : DThing} (hx : l[i]? = some x) (hi : (lay (l.take i)).length ≤ k) (hk : k < (lay (l.take (i + 1))).length) : ∃ j, j < (enc x).length ∧ rem l k i = (enc x).take j := by
  have h1 := lay_at hx rfl
  rw [h1, List.length_append] at hk
  refine ⟨k - (lay (l.take i)).length, by omega, ?_⟩
  unfold rem
  rw [lay_drop hx, List.take_append_of_le_length (by omega)]
theorem rem_end {l : List DThing} {k : Nat} : rem l k l.length = [] := by unfold rem; rw [lay_end]; simp
/-- A thing cut short. -/
theorem rd_cut {room : Int} {x : DThing} {j : Nat} (h : Ok x) (hb : bigX x = false) (hr : 0 ≤ room ∧ room < 1000) (hj : j < (enc x).length) : rdS room x ((enc x).take j, 0) = ([], 4) := by
  obtain ⟨s1, s2⟩ := small hb
  obtain ⟨_, hn, h3, h4⟩ := h
  have hu : 0 ≤ x.n → Pk.toU x.n = x.n.toNat := fun h0 => Pk.toU_pos _ h0 (by omega)
  by_cases k1 : x.kind = 1
  · rw [(rd1 k1).1]
    unfold enc at *
    rw [if_pos k1] at *
    rw [Pk.rBlob_cut (by omega) (by omega) hj]
  by_cases k2 : x.kind = 2
  · rw [(rd2 k2).1]
    unfold enc at *
    rw [if_neg k1, if_pos k2] at *
    exact Pk.rBytes_cut h3 hj
  by_cases k3 : x.kind = 3
  · rw [(rd3 k3).1]
    unfold enc at *
    rw [if_neg k1, if_neg k2, if_pos k3] at *
    exact Pk.rBytes_cut h4 hj
  have h0 := s2 (by omega)
  have e : enc x = Pk.int (x.n.toNat) := by unfold enc; rw [if_neg k1, if_neg k2, if_neg k3, hu h0]
  rw [e] at hj ⊢
  by_cases k4 : x.kind = 4
  · rw [(rd4 k4).1, Pk.rCount_cut (by omega) hj]
  · rw [(rd0 k1 k2 k3 k4).1, Pk.rInt_cut (by omega) hj]
end Th

set_option maxHeartbeats 4000000 in
theorem packBack {S S1 : Nat → Prop} {v u : Value} {l : List DThing} {m : List UInt8} {rm : Int} (w : World) (hG : Gat w 0 formsC) (hl : RL 51 RThing w S [v] l) (hSo : ∀ g, S g → g < w.heap.size) (hm : Bs w S1 u m) : Calls Tryd.prog 6 [v, u, .int .i64 rm].toArray w (Ret (Is w (.bool true))) := by
  have hl0 := hl
  obtain ⟨A, c, xs, hv, hc, hcm, hr, hel⟩ := hl
  obtain rfl : v = .slice A l.length c := by cases hv; rfl
  have hm0 := hm
  obtain ⟨Am, cm, rfl, hcm1, hcm2, hmr⟩ := hm.op
  refine k_enter (l := [_, _, _]) Tryd.func6 rfl rfl ?_
  have H := St.start nT w
  refine k_seq ?_
  refine k_region ?_
  refine s_run (w_none rfl) rfl (as_b rfl rfl) ?_
  refine l_nil ?_
  refine k_seq ?_
  refine k_seq ?_
  rcases (show Th.big l = true ∨ (Th.big l = false ∧ 4096 < m.length) ∨ (Th.big l = false ∧ m.length ≤ 4096) by cases Th.big l <;> simp <;> omega) with hbg | ⟨hbg, hml⟩ | ⟨hbg, hml⟩
  · skip
    refine k_region ?_
    refine s_run (w_none rfl) rfl (mv_s rfl rfl) ?_
    refine s_eff (e_call (w_none rfl) rfl rfl Tryd.func41 rfl rfl rfl (bigThings _ (H.rep (keeps_L keeps_Thing) hl0)) ?_)
    rw [hbg]
    rintro _ W ⟨rfl, hb⟩
    replace H := H.below hb
    clear hb
    refine s_run (w_none rfl) rfl (mv_bx (c := true) rfl rfl (rfl)) ?_
    refine s_skip (w_gno rfl rfl rfl rfl rfl) rfl ?_
    refine s_skip (w_gno rfl rfl rfl rfl rfl) rfl ?_
    refine s_skip (w_gno rfl rfl rfl rfl rfl) rfl ?_
    refine s_run (w_none rfl) rfl (d_pickT rfl rfl rfl) ?_
    refine l_nil ?_
    refine k_condT rfl rfl ?_
    refine k_seq ?_
    refine k_region ?_
    refine s_eff (e_call (w_none rfl) rfl rfl Tryd.func23 rfl rfl rfl (works03 _ (H.gat hG)) ?_)
    rintro _ W ⟨rfl, hb⟩
    replace H := H.below hb
    clear hb
    refine s_run (w_none rfl) rfl (as_b rfl rfl) ?_
    refine l_nil ?_
    refine k_ret ?_
    repeat (first | refine r_then ?_ | refine r_blk ?_)
    exact q_ret (v := .bool _) rfl rfl ⟨_, rfl, rfl, H.under⟩
  · skip
    refine k_region ?_
    refine s_run (w_none rfl) rfl (mv_s rfl rfl) ?_
    refine s_eff (e_call (w_none rfl) rfl rfl Tryd.func41 rfl rfl rfl (bigThings _ (H.rep (keeps_L keeps_Thing) hl0)) ?_)
    rw [hbg]
    rintro _ W ⟨rfl, hb⟩
    replace H := H.below hb
    clear hb
    refine s_run (w_none rfl) rfl (mv_bx (c := false) rfl rfl (rfl)) ?_
    refine s_run (w_g rfl rfl rfl rfl) rfl (mv_s rfl rfl) ?_
    refine s_run (w_g rfl rfl rfl rfl) rfl (d_len rfl rfl tu23) ?_
    refine s_run (w_g rfl rfl rfl rfl) rfl (d_gt rfl rfl rfl) ?_
    refine s_run (w_none rfl) rfl (d_pickF rfl rfl rfl) ?_
    refine l_nil ?_
    refine k_condT rfl (by simp; omega) ?_
    refine k_seq ?_
    refine k_region ?_
    refine s_eff (e_call (w_none rfl) rfl rfl Tryd.func23 rfl rfl rfl (works03 _ (H.gat hG)) ?_)
    rintro _ W ⟨rfl, hb⟩
    replace H := H.below hb
    clear hb
    refine s_run (w_none rfl) rfl (as_b rfl rfl) ?_
    refine l_nil ?_
    refine k_ret ?_
    repeat (first | refine r_then ?_ | refine r_blk ?_)
    exact q_ret (v := .bool _) rfl rfl ⟨_, rfl, rfl, H.under⟩
  · have hnb := Th.not_big hbg
    have hokl := things_ok hel
    have hs1 : ∀ x ∈ l, x.b.length ≤ 512 := fun x hx => (Th.small (hnb.2 x hx)).1
    have hs2 : ∀ x ∈ l, (Th.enc x).length ≤ 600 := fun x hx => Th.len_enc (hokl x hx) (hs1 x hx)
    have hll := Th.len_lay hs2
    have hl40 := hnb.1
    have hs1b : ∀ x ∈ l, x.b.length ≤ 100000000000 := fun x hx => by have := hs1 x hx; omega
    refine k_region ?_
    refine s_run (w_none rfl) rfl (mv_s rfl rfl) ?_
    refine s_eff (e_call (w_none rfl) rfl rfl Tryd.func41 rfl rfl rfl (bigThings _ (H.rep (keeps_L keeps_Thing) hl0)) ?_)
    rw [hbg]
    rintro _ W ⟨rfl, hb⟩
    replace H := H.below hb
    clear hb
    refine s_run (w_none rfl) rfl (mv_bx (c := false) rfl rfl (rfl)) ?_
    refine s_run (w_g rfl rfl rfl rfl) rfl (mv_s rfl rfl) ?_
    refine s_run (w_g rfl rfl rfl rfl) rfl (d_len rfl rfl tu23) ?_
    refine s_run (w_g rfl rfl rfl rfl) rfl (d_gt rfl rfl rfl) ?_
    refine s_run (w_none rfl) rfl (d_pickF rfl rfl rfl) ?_
    refine l_nil ?_
    refine k_condF rfl (by simp; omega) ?_
    refine k_skip ?_
    refine k_seq ?_
    refine k_region ?_
    refine s_run (w_none rfl) rfl (mv_i rfl rfl) ?_
    refine s_eff (e_call (w_none rfl) rfl rfl Tryd.func42 rfl rfl rfl (pick_any rm 1000 _ (by omega)) ?_)
    rintro _ W ⟨rfl, hb⟩
    replace H := H.below hb
    clear hb
    refine s_run (w_none rfl) rfl (as_i rfl rfl) ?_
    refine l_nil ?_
    refine k_seq ?_
    refine k_region ?_
    refine s_run (w_none rfl) rfl (mv_s rfl rfl) ?_
    refine s_eff (e_call (w_none rfl) rfl rfl Tryd.func43 rfl rfl rfl (laidThings _ (H.rep (keeps_L keeps_Thing) hl0) (H.gat hG) (by omega) hs1b) ?_)
    rintro _ W ⟨A1, c1, rfl, hc1, hd1, hn⟩
    replace H := H.new hn
    clear hn
    refine s_run (w_none rfl) rfl (mv_s rfl rfl) ?_
    refine s_eff (e_app (w_none rfl) rfl rfl tu23 tx5 rfl rfl rfl H (H.rd hmr) (all_u8L _) (by omega) rfl ?_)
    clear H; intro A2 c2 W hc2 hd2 H
    refine s_eff (e_call (w_none rfl) rfl rfl Tryd.func19 rfl rfl rfl (prgRead (l := (Th.lay l ++ m)) _ (bs_row (e := 5) (A := A2) (c := c2) (by have := H.get (f := Fact.row 5 1 (.slice A2 ((Th.lay l).length + m.length) c2) ((Th.lay l).length + m.length) ((Th.lay l).map u8v ++ m.map u8v)); rw [List.map_append]; exact this) (by simp)) (by simp; omega)) ?_)
    rintro _ W ⟨r3, A3, c3, rfl, hS3⟩
    replace H := H.add hS3
    clear hS3
    simp only [List.cons_append, List.nil_append] at H
    refine s_run (w_none rfl) rfl (as_p rfl rfl) ?_
    refine l_nil ?_
    refine k_seq ?_
    refine k_seq ?_
    refine k_region ?_
    refine s_run (w_none rfl) rfl (as_i rfl rfl) ?_
    refine l_nil ?_
    refine k_block ?_
    refine k_loop 24 [6, 8] (fun mm sl W => ∃ i : Nat, l.length - i = mm ∧ sl = [(8, .int .i64 (i : Int))] ∧ (i ≤ l.length) ∧ St nT w W [RdP 5 96 r3 A3 (Th.lay l ++ m).length c3 (Th.lay (l.drop i) ++ m, 0), Fact.row 5 1 (.slice A2 ((Th.lay l).length + m.length) c2) ((Th.lay l).length + m.length) ((Th.lay l).map u8v ++ m.map u8v)]) _ _ ⟨0, rfl, rfl, Nat.zero_le _, H⟩ ⟨rfl, trivial⟩ (fun mm sl ρv W hJ => ?_)
    clear H; obtain ⟨i, rfl, rfl, hi, H⟩ := hJ
    refine k_one ?_
    refine k_seq ?_
    refine k_seq ?_
    refine k_region ?_
    refine s_run (w_none rfl) rfl (mv_i rfl rfl) ?_
    refine s_run (w_none rfl) rfl (mv_s rfl rfl) ?_
    refine s_run (w_none rfl) rfl (d_len rfl rfl tu55) ?_
    refine s_run (w_none rfl) rfl (d_lt rfl rfl rfl) ?_
    refine l_nil ?_
    refine k_cond rfl (fun hc27 => ?_) (fun hc27 => ?_)
    · replace hc27 := of_decide_eq_true hc27
      have hlt : i < l.length := by omega
      obtain ⟨g0, o0, rfl, -⟩ := hr.2 (by omega)
      obtain ⟨x, hx⟩ := get_lt hlt
      obtain ⟨B, d, hL, hB, hok⟩ := thing_of (hel i x hx)
      have hh := hok.2.2.1
      have ht := hok.2.2.2
      have hxb := hs1 x (List.mem_of_getElem? hx)
      have hrd := Th.rd_lay (m := m) (room := pick rm 1000) hx hok (hnb.2 x (List.mem_of_getElem? hx)) (pick_in (by omega))
      refine k_skip ?_
      refine k_seq ?_
      refine k_block ?_
      refine k_seq ?_
      refine k_region ?_
      refine s_run (w_none rfl) rfl (mv_p rfl rfl) ?_
      refine s_run (w_none rfl) rfl (mv_s rfl rfl) ?_
      refine s_run (w_none rfl) rfl (mv_i rfl rfl) ?_
      refine s_run (w_none rfl) rfl (d_iaG rfl (H.rd hr) rfl rfl (q := i) rfl hlt tu55 ts40) ?_
      refine s_run (w_none rfl) rfl (d_ldEM (off := 0) rfl (H.rd hr) hlt hL (sub_all (len_thing hh ht)) rfl rfl (by omega) ta40 ts40) ?_
      refine s_run (w_none rfl) rfl (mv_i rfl rfl) ?_
      refine s_eff (e_call (w_none rfl) rfl rfl Tryd.func44 rfl rfl rfl (readThing _ (H.get (f := RdP 5 96 r3 A3 (Th.lay l ++ m).length c3 (Th.lay (l.drop i) ++ m, 0))) ⟨fun h => absurd rfl h, by simp, by simp⟩ (H.gat hG) (H.away (f := RdP 5 96 r3 A3 (Th.lay l ++ m).length c3 (Th.lay (l.drop i) ++ m, 0)) hG.1) (H.bs hB) (fun g hg => H.away (f := RdP 5 96 r3 A3 (Th.lay l ++ m).length c3 (Th.lay (l.drop i) ++ m, 0)) (hSo g hg)) hok (pick_in (by omega)) (by omega) (by simp; omega)) ?_)
      rw [hrd.1, hrd.2]
      rintro _ W ⟨rfl, hp, hf⟩
      replace H := H.mut (f := RdP 5 96 r3 A3 (Th.lay l ++ m).length c3 (Th.lay (l.drop i) ++ m, 0)) (f' := RdP 5 96 r3 A3 (Th.lay l ++ m).length c3 (Th.lay (l.drop (i + 1)) ++ m, 0)) hf hp (fun _ h => h)
      clear hp hf
      refine s_run (w_none rfl) rfl (d_not rfl rfl) ?_
      refine s_run (w_none rfl) rfl (mv_bx (c := false) rfl rfl (rfl)) ?_
      refine s_run (w_g rfl rfl rfl rfl) rfl (mv_p rfl rfl) ?_
      refine s_eff (e_call (w_g rfl rfl rfl rfl) rfl rfl Tryd.func39 rfl rfl rfl (prgBad _ (H.get (f := RdP 5 96 r3 A3 (Th.lay l ++ m).length c3 (Th.lay (l.drop (i + 1)) ++ m, 0)))) ?_)
      rintro _ W ⟨rfl, hb⟩
      replace H := H.below hb
      clear hb
      refine s_run (w_none rfl) rfl (d_pickF rfl rfl rfl) ?_
      refine l_nil ?_
      refine k_condF rfl (by simp) ?_
      refine k_skip ?_
      refine k_nil ?_
      refine b_end ?_
      refine k_region ?_
      refine s_run (w_none rfl) rfl (mv_i rfl rfl) ?_
      refine s_run (w_none rfl) rfl (d_add rfl rfl rfl (by omega)) ?_
      refine s_run (w_none rfl) rfl (as_i rfl rfl) ?_
      refine l_nil ?_
      refine k_nil ?_
      refine k_next ?_
      refine ⟨_, _, _, ?_, rfl, ?_, ?_, ⟨i + 1, rfl, rfl, by omega, H⟩⟩
      · omega
      · repeat (first | ((with_reducible refine Eqo.updl _ Eqo.ovr ?_); exact rfl) | ((with_reducible refine Eqo.updl _ (Eqo.ovr2 ?_ ?_) ?_); rotate_left; exact rfl; exact rfl) | ((with_reducible refine Eqo.upd ?_ ?_); rotate_left; exact rfl))
      · refine ⟨?_, trivial⟩
        · exact vi (by omega)
    · replace hc27 := of_decide_eq_false hc27
      refine k_exit ?_
      refine x_then (x_then ?_)
      refine x_hit ?_
      refine k_seq ?_
      obtain rfl : i = l.length := by omega
      rw [Th.lay_end, List.nil_append] at H
      refine k_region ?_
      refine s_run (w_none rfl) rfl (mv_p rfl rfl) ?_
      refine s_eff (e_call (w_none rfl) rfl rfl Tryd.func35 rfl rfl rfl (prgLeft _ (H.get (f := RdP 5 96 r3 A3 (Th.lay l ++ m).length c3 (m, 0)))) ?_)
      rintro _ W ⟨rfl, hb⟩
      replace H := H.below hb
      clear hb
      refine s_run (w_none rfl) rfl (mv_s rfl rfl) ?_
      refine s_run (w_none rfl) rfl (d_len rfl rfl tu23) ?_
      refine s_run (w_none rfl) rfl (d_eq rfl rfl rfl) ?_
      refine s_run (w_none rfl) rfl (mv_bx (c := true) rfl rfl (by simp)) ?_
      refine s_run (w_g rfl rfl rfl rfl) rfl (mv_p rfl rfl) ?_
      refine s_eff (e_call (w_g rfl rfl rfl rfl) rfl rfl Tryd.func21 rfl rfl rfl (prgEnd _ (H.get (f := RdP 5 96 r3 A3 (Th.lay l ++ m).length c3 (m, 0)))) ?_)
      rintro _ W ⟨rfl, hb⟩
      replace H := H.below hb
      clear hb
      refine s_run (w_g rfl rfl rfl rfl) rfl (d_eq rfl rfl rfl) ?_
      refine s_run (w_g rfl rfl rfl rfl) rfl (mv_s rfl rfl) ?_
      refine s_run (w_g rfl rfl rfl rfl) rfl (d_len rfl rfl tu23) ?_
      refine s_run (w_g rfl rfl rfl rfl) rfl (d_eq rfl rfl rfl) ?_
      refine s_run (w_g rfl rfl rfl rfl) rfl (d_same rfl rfl rfl tu4) ?_
      refine s_run (w_none rfl) rfl (d_pickT rfl rfl rfl) ?_
      refine s_run (w_none rfl) rfl (mv_bx (c := true) rfl rfl (end_iff m)) ?_
      refine s_eff (e_call (w_g rfl rfl rfl rfl) rfl rfl Tryd.func23 rfl rfl rfl (works03 _ (H.gat hG)) ?_)
      rintro _ W ⟨rfl, hb⟩
      replace H := H.below hb
      clear hb
      refine s_run (w_none rfl) rfl (d_pickT rfl rfl rfl) ?_
      refine s_run (w_none rfl) rfl (as_b rfl rfl) ?_
      refine l_nil ?_
      refine k_ret ?_
      repeat (first | refine r_then ?_ | refine r_blk ?_)
      exact q_ret (v := .bool _) rfl rfl ⟨_, rfl, rfl, H.under⟩

set_option maxHeartbeats 4000000 in
theorem packCut {S : Nat → Prop} {v : Value} {l : List DThing} {ct rm : Int} (w : World) (hG : Gat w 0 formsC) (hl : RL 51 RThing w S [v] l) (hSo : ∀ g, S g → g < w.heap.size) : Calls Tryd.prog 7 [v, .int .i64 ct, .int .i64 rm].toArray w (Ret (Is w (.bool true))) := by
  have hl0 := hl
  obtain ⟨A, c, xs, hv, hc, hcm, hr, hel⟩ := hl
  obtain rfl : v = .slice A l.length c := by cases hv; rfl
  refine k_enter (l := [_, _, _]) Tryd.func7 rfl rfl ?_
  have H := St.start nT w
  refine k_seq ?_
  refine k_region ?_
  refine s_run (w_none rfl) rfl (as_b rfl rfl) ?_
  refine l_nil ?_
  refine k_seq ?_
  refine k_seq ?_
  rcases (show Th.big l = true ∨ Th.big l = false by cases Th.big l <;> simp) with hbg | hbg
  · skip
    refine k_region ?_
    refine s_run (w_none rfl) rfl (mv_s rfl rfl) ?_
    refine s_eff (e_call (w_none rfl) rfl rfl Tryd.func41 rfl rfl rfl (bigThings _ (H.rep (keeps_L keeps_Thing) hl0)) ?_)
    rw [hbg]
    rintro _ W ⟨rfl, hb⟩
    replace H := H.below hb
    clear hb
    refine l_nil ?_
    refine k_condT rfl rfl ?_
    refine k_seq ?_
    refine k_region ?_
    refine s_eff (e_call (w_none rfl) rfl rfl Tryd.func23 rfl rfl rfl (works03 _ (H.gat hG)) ?_)
    rintro _ W ⟨rfl, hb⟩
    replace H := H.below hb
    clear hb
    refine s_run (w_none rfl) rfl (as_b rfl rfl) ?_
    refine l_nil ?_
    refine k_ret ?_
    repeat (first | refine r_then ?_ | refine r_blk ?_)
    exact q_ret (v := .bool _) rfl rfl ⟨_, rfl, rfl, H.under⟩
  · have hnb := Th.not_big hbg
    have hokl := things_ok hel
    have hs1 : ∀ x ∈ l, x.b.length ≤ 512 := fun x hx => (Th.small (hnb.2 x hx)).1
    have hs2 : ∀ x ∈ l, (Th.enc x).length ≤ 600 := fun x hx => Th.len_enc (hokl x hx) (hs1 x hx)
    have hll := Th.len_lay hs2
    have hl40 := hnb.1
    have hs1b : ∀ x ∈ l, x.b.length ≤ 100000000000 := fun x hx => by have := hs1 x hx; omega
    refine k_region ?_
    refine s_run (w_none rfl) rfl (mv_s rfl rfl) ?_
    refine s_eff (e_call (w_none rfl) rfl rfl Tryd.func41 rfl rfl rfl (bigThings _ (H.rep (keeps_L keeps_Thing) hl0)) ?_)
    rw [hbg]
    rintro _ W ⟨rfl, hb⟩
    replace H := H.below hb
    clear hb
    refine l_nil ?_
    refine k_condF rfl rfl ?_
    refine k_skip ?_
    refine k_seq ?_
    refine k_region ?_
    refine s_run (w_none rfl) rfl (mv_i rfl rfl) ?_
    refine s_eff (e_call (w_none rfl) rfl rfl Tryd.func42 rfl rfl rfl (pick_any rm 1000 _ (by omega)) ?_)
    rintro _ W ⟨rfl, hb⟩
    replace H := H.below hb
    clear hb
    refine s_run (w_none rfl) rfl (as_i rfl rfl) ?_
    refine l_nil ?_
    refine k_seq ?_
    refine k_region ?_
    refine s_run (w_none rfl) rfl (mv_s rfl rfl) ?_
    refine s_eff (e_call (w_none rfl) rfl rfl Tryd.func43 rfl rfl rfl (laidThings _ (H.rep (keeps_L keeps_Thing) hl0) (H.gat hG) (by omega) hs1b) ?_)
    rintro _ W ⟨A1, c1, rfl, hc1, hd1, hn⟩
    replace H := H.new hn
    clear hn
    refine s_run (w_none rfl) rfl (as_s rfl rfl) ?_
    refine l_nil ?_
    refine k_seq ?_
    refine k_region ?_
    refine s_run (w_none rfl) rfl (mv_i rfl rfl) ?_
    refine s_run (w_none rfl) rfl (mv_s rfl rfl) ?_
    refine s_run (w_none rfl) rfl (d_len rfl rfl tu23) ?_
    refine s_eff (e_call (w_none rfl) rfl rfl Tryd.func42 rfl rfl rfl (pick_any ct _ _ (by omega)) ?_)
    rintro _ W ⟨rfl, hb⟩
    replace H := H.below hb
    clear hb
    refine s_run (w_none rfl) rfl (as_i rfl rfl) ?_
    refine l_nil ?_
    obtain ⟨ck, hck, hck2⟩ := pick_nat ct (Th.lay l).length
    rw [hck]
    refine k_seq ?_
    refine k_region ?_
    refine s_run (w_none rfl) rfl (mv_s rfl rfl) ?_
    refine s_run (w_none rfl) rfl (mv_i rfl rfl) ?_
    refine s_run (w_none rfl) rfl (mv_s rfl rfl) ?_
    refine s_run (w_none rfl) rfl (d_len rfl rfl tu23) ?_
    refine s_run (w_none rfl) rfl (d_min rfl rfl rfl) ?_
    refine s_run (w_none rfl) rfl (d_cutP rfl rfl (h := ck) (by omega) (by omega) rfl tu23 ts5) ?_
    refine s_eff (e_call (w_none rfl) rfl rfl Tryd.func19 rfl rfl rfl (prgRead (l := ((Th.lay l).take ck)) _ ((H.rowbs (A := A1) rfl).pre (h := ck) rfl hck2) (by rw [List.length_take]; omega)) ?_)
    rintro _ W ⟨r3, A3, c3, rfl, hS3⟩
    replace H := H.add hS3
    clear hS3
    simp only [List.cons_append, List.nil_append] at H
    refine s_run (w_none rfl) rfl (as_p rfl rfl) ?_
    refine l_nil ?_
    refine k_seq ?_
    refine k_region ?_
    refine s_run (w_none rfl) rfl (as_i rfl rfl) ?_
    refine l_nil ?_
    refine k_seq ?_
    refine k_block ?_
    refine k_loop 28 [6, 9] (fun mm sl W => ∃ i : Nat, l.length - i = mm ∧ sl = [(9, .int .i64 (i : Int))] ∧ (i ≤ l.length) ∧ ((Th.lay (l.take i)).length ≤ ck) ∧ St nT w W [RdP 5 96 r3 A3 ((Th.lay l).take ck).length c3 (Th.rem l ck i, 0), Fact.row 5 1 (.slice A1 (Th.lay l).length c1) (Th.lay l).length ((Th.lay l).map u8v)]) _ _ ⟨0, rfl, rfl, Nat.zero_le _, Nat.zero_le _, H⟩ ⟨rfl, trivial⟩ (fun mm sl ρv W hJ => ?_)
    clear H; obtain ⟨i, rfl, rfl, hi, ha, H⟩ := hJ
    refine k_one ?_
    refine k_seq ?_
    refine k_seq ?_
    rcases Nat.lt_or_ge i l.length with hlt | hge
    · skip
      refine k_region ?_
      refine s_run (w_none rfl) rfl (mv_i rfl rfl) ?_
      refine s_run (w_none rfl) rfl (mv_s rfl rfl) ?_
      refine s_run (w_none rfl) rfl (d_len rfl rfl tu55) ?_
      refine s_run (w_none rfl) rfl (d_lt rfl rfl rfl) ?_
      refine s_run (w_none rfl) rfl (mv_bx (c := true) rfl rfl (by simp; omega)) ?_
      refine s_run (w_g rfl rfl rfl rfl) rfl (mv_s rfl rfl) ?_
      refine s_run (w_g rfl rfl rfl rfl) rfl (mv_i rfl rfl) ?_
      refine s_run (w_g rfl rfl rfl rfl) rfl (d_add rfl rfl rfl (by omega)) ?_
      refine s_run (w_g rfl rfl rfl rfl) rfl (d_cutP rfl rfl (h := i + 1) rfl (by omega) rfl tu55 ts40) ?_
      refine s_eff (e_call (w_g rfl rfl rfl rfl) rfl rfl Tryd.func43 rfl rfl rfl (laidThings (l := l.take (i + 1)) _ (rl_take (k := i + 1) (H.rep (keeps_L keeps_Thing) hl0) (by omega)) (H.gat hG) (by have := Th.lay_take (l := l) (i + 1); omega) (fun x hx => hs1b x (List.mem_of_mem_take hx))) ?_)
      rintro _ W ⟨A7, c7, rfl, hc7, hd7, hn⟩
      replace H := H.new hn
      clear hn
      refine s_run (w_g rfl rfl rfl rfl) rfl (d_len rfl rfl tu23) ?_
      refine s_run (w_g rfl rfl rfl rfl) rfl (mv_i rfl rfl) ?_
      refine s_run (w_g rfl rfl rfl rfl) rfl (d_le rfl rfl rfl) ?_
      refine s_run (w_none rfl) rfl (d_pickT rfl rfl rfl) ?_
      refine l_nil ?_
      refine k_cond rfl (fun hc41 => ?_) (fun hc41 => ?_)
      · replace hc41 := of_decide_eq_true hc41
        obtain ⟨g0, o0, rfl, -⟩ := hr.2 (by omega)
        obtain ⟨x, hx⟩ := get_lt hlt
        obtain ⟨B, d, hL, hB, hok⟩ := thing_of (hel i x hx)
        have hh := hok.2.2.1
        have ht := hok.2.2.2
        have hxb := hs1 x (List.mem_of_getElem? hx)
        have hrd := Th.rd_enc (room := pick rm 1000) hok (hnb.2 x (List.mem_of_getElem? hx)) (pick_in (by omega)) (Th.rem l ck (i + 1))
        rw [← Th.rem_step hx (by omega)] at hrd
        refine k_skip ?_
        refine k_block ?_
        refine k_seq ?_
        refine k_seq ?_
        refine k_region ?_
        refine s_run (w_none rfl) rfl (mv_p rfl rfl) ?_
        refine s_run (w_none rfl) rfl (mv_s rfl rfl) ?_
        refine s_run (w_none rfl) rfl (mv_i rfl rfl) ?_
        refine s_run (w_none rfl) rfl (d_iaG rfl (H.rd hr) rfl rfl (q := i) rfl hlt tu55 ts40) ?_
        refine s_run (w_none rfl) rfl (d_ldEM (off := 0) rfl (H.rd hr) hlt hL (sub_all (len_thing hh ht)) rfl rfl (by omega) ta40 ts40) ?_
        refine s_run (w_none rfl) rfl (mv_i rfl rfl) ?_
        refine s_eff (e_call (w_none rfl) rfl rfl Tryd.func44 rfl rfl rfl (readThing _ (H.get (f := RdP 5 96 r3 A3 ((Th.lay l).take ck).length c3 (Th.rem l ck i, 0))) ⟨fun h => absurd rfl h, by simp, by simp⟩ (H.gat hG) (H.away (f := RdP 5 96 r3 A3 ((Th.lay l).take ck).length c3 (Th.rem l ck i, 0)) hG.1) (H.bs hB) (fun g hg => H.away (f := RdP 5 96 r3 A3 ((Th.lay l).take ck).length c3 (Th.rem l ck i, 0)) (hSo g hg)) hok (pick_in (by omega)) (by omega) (by simp; omega)) ?_)
        rw [hrd.1, hrd.2]
        rintro _ W ⟨rfl, hp, hf⟩
        replace H := H.mut (f := RdP 5 96 r3 A3 ((Th.lay l).take ck).length c3 (Th.rem l ck i, 0)) (f' := RdP 5 96 r3 A3 ((Th.lay l).take ck).length c3 (Th.rem l ck (i + 1), 0)) hf hp (fun _ h => h)
        clear hp hf
        refine s_run (w_none rfl) rfl (d_not rfl rfl) ?_
        refine s_run (w_none rfl) rfl (mv_bx (c := false) rfl rfl (rfl)) ?_
        refine s_run (w_g rfl rfl rfl rfl) rfl (mv_p rfl rfl) ?_
        refine s_eff (e_call (w_g rfl rfl rfl rfl) rfl rfl Tryd.func39 rfl rfl rfl (prgBad _ (H.get (f := RdP 5 96 r3 A3 ((Th.lay l).take ck).length c3 (Th.rem l ck (i + 1), 0)))) ?_)
        rintro _ W ⟨rfl, hb⟩
        replace H := H.below hb
        clear hb
        refine s_run (w_none rfl) rfl (d_pickF rfl rfl rfl) ?_
        refine l_nil ?_
        refine k_condF rfl (by simp) ?_
        refine k_skip ?_
        refine k_region ?_
        refine s_run (w_none rfl) rfl (mv_i rfl rfl) ?_
        refine s_run (w_none rfl) rfl (d_add rfl rfl rfl (by omega)) ?_
        refine s_run (w_none rfl) rfl (as_i rfl rfl) ?_
        refine l_nil ?_
        refine k_nil ?_
        refine b_end ?_
        refine k_nil ?_
        refine k_next ?_
        refine ⟨_, _, _, ?_, rfl, ?_, ?_, ⟨i + 1, rfl, rfl, by omega, by omega, H.sub (by repeat (first | exact List.Sublist.refl _ | refine List.Sublist.cons_cons _ ?_ | refine List.Sublist.cons _ ?_))⟩⟩
        · omega
        · repeat (first | ((with_reducible refine Eqo.updl _ Eqo.ovr ?_); exact rfl) | ((with_reducible refine Eqo.updl _ (Eqo.ovr2 ?_ ?_) ?_); rotate_left; exact rfl; exact rfl) | ((with_reducible refine Eqo.upd ?_ ?_); rotate_left; exact rfl))
        · refine ⟨?_, trivial⟩
          · exact vi (by omega)
      · replace hc41 := of_decide_eq_false hc41
        obtain ⟨g0, o0, rfl, -⟩ := hr.2 (by omega)
        obtain ⟨x, hx⟩ := get_lt hlt
        obtain ⟨B, d, hL, hB, hok⟩ := thing_of (hel i x hx)
        have hh := hok.2.2.1
        have ht := hok.2.2.2
        have hxb := hs1 x (List.mem_of_getElem? hx)
        obtain ⟨j, hj, hjr⟩ := Th.rem_cut (k := ck) hx ha (by omega)
        have hrd := Th.rd_cut (room := pick rm 1000) hok (hnb.2 x (List.mem_of_getElem? hx)) (pick_in (by omega)) hj
        rw [← hjr] at hrd
        refine k_exit ?_
        refine x_then (x_then ?_)
        refine x_hit ?_
        refine k_seq ?_
        refine k_seq ?_
        refine k_region ?_
        refine s_run (w_none rfl) rfl (mv_i rfl rfl) ?_
        refine s_run (w_none rfl) rfl (mv_s rfl rfl) ?_
        refine s_run (w_none rfl) rfl (d_len rfl rfl tu55) ?_
        refine s_run (w_none rfl) rfl (d_eq rfl rfl rfl) ?_
        refine l_nil ?_
        refine k_condF rfl (by simp; omega) ?_
        refine k_skip ?_
        refine k_seq ?_
        refine k_region ?_
        refine s_run (w_none rfl) rfl (mv_p rfl rfl) ?_
        refine s_run (w_none rfl) rfl (mv_s rfl rfl) ?_
        refine s_run (w_none rfl) rfl (mv_i rfl rfl) ?_
        refine s_run (w_none rfl) rfl (d_iaG rfl (H.rd hr) rfl rfl (q := i) rfl hlt tu55 ts40) ?_
        refine s_run (w_none rfl) rfl (d_ldEM (off := 0) rfl (H.rd hr) hlt hL (sub_all (len_thing hh ht)) rfl rfl (by omega) ta40 ts40) ?_
        refine s_run (w_none rfl) rfl (mv_i rfl rfl) ?_
        refine s_eff (e_call (w_none rfl) rfl rfl Tryd.func44 rfl rfl rfl (readThing _ (H.get (f := RdP 5 96 r3 A3 ((Th.lay l).take ck).length c3 (Th.rem l ck i, 0))) ⟨fun h => absurd rfl h, by simp, by simp⟩ (H.gat hG) (H.away (f := RdP 5 96 r3 A3 ((Th.lay l).take ck).length c3 (Th.rem l ck i, 0)) hG.1) (H.bs hB) (fun g hg => H.away (f := RdP 5 96 r3 A3 ((Th.lay l).take ck).length c3 (Th.rem l ck i, 0)) (hSo g hg)) hok (pick_in (by omega)) (by omega) (by simp; omega)) ?_)
        rw [hrd]
        rintro _ W ⟨rfl, hp, hf⟩
        replace H := H.mut (f := RdP 5 96 r3 A3 ((Th.lay l).take ck).length c3 (Th.rem l ck i, 0)) (f' := RdP 5 96 r3 A3 ((Th.lay l).take ck).length c3 ([], 4)) hf hp (fun _ h => h)
        clear hp hf
        refine l_nil ?_
        refine k_seq ?_
        refine k_seq ?_
        refine k_region ?_
        refine s_run (w_none rfl) rfl (mv_p rfl rfl) ?_
        refine s_eff (e_call (w_none rfl) rfl rfl Tryd.func39 rfl rfl rfl (prgBad _ (H.get (f := RdP 5 96 r3 A3 ((Th.lay l).take ck).length c3 ([], 4)))) ?_)
        rintro _ W ⟨rfl, hb⟩
        replace H := H.below hb
        clear hb
        refine s_run (w_none rfl) rfl (d_not rfl rfl) ?_
        refine s_run (w_none rfl) rfl (mv_bx (c := false) rfl rfl (by decide)) ?_
        refine s_run (w_g rfl rfl rfl rfl) rfl (mv_p rfl rfl) ?_
        refine s_eff (e_call (w_g rfl rfl rfl rfl) rfl rfl Tryd.func21 rfl rfl rfl (prgEnd _ (H.get (f := RdP 5 96 r3 A3 ((Th.lay l).take ck).length c3 ([], 4)))) ?_)
        rintro _ W ⟨rfl, hb⟩
        replace H := H.below hb
        clear hb
        refine s_run (w_g rfl rfl rfl rfl) rfl (d_ne rfl rfl rfl) ?_
        refine s_run (w_none rfl) rfl (d_pickF rfl rfl rfl) ?_
        refine s_run (w_none rfl) rfl (mv_bx (c := false) rfl rfl (by decide)) ?_
        refine s_run (w_g rfl rfl rfl rfl) rfl (mv_p rfl rfl) ?_
        refine s_eff (e_call (w_g rfl rfl rfl rfl) rfl rfl Tryd.func35 rfl rfl rfl (prgLeft _ (H.get (f := RdP 5 96 r3 A3 ((Th.lay l).take ck).length c3 ([], 4)))) ?_)
        rintro _ W ⟨rfl, hb⟩
        replace H := H.below hb
        clear hb
        refine s_run (w_g rfl rfl rfl rfl) rfl (d_ne rfl rfl rfl) ?_
        refine s_run (w_none rfl) rfl (d_pickF rfl rfl rfl) ?_
        refine l_nil ?_
        refine k_condF rfl (by decide) ?_
        refine k_skip ?_
        refine k_seq ?_
        refine k_region ?_
        refine s_run (w_none rfl) rfl (mv_p rfl rfl) ?_
        refine s_eff (e_call (w_none rfl) rfl rfl Tryd.func20 rfl rfl rfl (prgInt _ (H.get (f := RdP 5 96 r3 A3 ((Th.lay l).take ck).length c3 ([], 4))) ⟨fun _ => rfl, by decide, by decide⟩ (H.gat hG) (H.away (f := RdP 5 96 r3 A3 ((Th.lay l).take ck).length c3 ([], 4)) hG.1)) ?_)
        rw [show Pk.rInt ([], 4) = (0, ([], 4)) by decide]
        rintro _ W ⟨rfl, hp, hf⟩
        replace H := H.mut (f := RdP 5 96 r3 A3 ((Th.lay l).take ck).length c3 ([], 4)) (f' := RdP 5 96 r3 A3 ((Th.lay l).take ck).length c3 ([], 4)) hf hp (fun _ h => h)
        clear hp hf
        refine s_run (w_none rfl) rfl (d_eq rfl rfl rfl) ?_
        refine s_run (w_none rfl) rfl (mv_bx (c := true) rfl rfl (by decide)) ?_
        refine s_run (w_g rfl rfl rfl rfl) rfl (mv_p rfl rfl) ?_
        refine s_eff (e_call (w_g rfl rfl rfl rfl) rfl rfl Tryd.func45 rfl rfl rfl (prgHash _ (H.get (f := RdP 5 96 r3 A3 ((Th.lay l).take ck).length c3 ([], 4))) ⟨fun _ => rfl, by decide, by decide⟩) ?_)
        rw [show Pk.rBytes 32 ([], 4) = (List.replicate 32 0, ([], 4)) by decide]
        rintro _ W ⟨rfl, hp, hf⟩
        replace H := H.mut (f := RdP 5 96 r3 A3 ((Th.lay l).take ck).length c3 ([], 4)) (f' := RdP 5 96 r3 A3 ((Th.lay l).take ck).length c3 ([], 4)) hf hp (fun _ h => h)
        clear hp hf
        refine s_run (w_g rfl rfl rfl rfl) rfl (d_build (vs := (List.replicate 32 0).map u8v) rfl (by kernel_rfl)) ?_
        refine s_run (w_g rfl rfl rfl rfl) rfl (d_eqarr (b := List.replicate 32 0) rfl rfl rfl tu36 tu5 ts5 (by decide) (by decide) (by kernel_rfl)) ?_
        refine s_run (w_none rfl) rfl (d_pickT rfl rfl rfl) ?_
        refine s_run (w_none rfl) rfl (mv_bx (c := true) rfl rfl (by decide)) ?_
        refine s_run (w_g rfl rfl rfl rfl) rfl (mv_p rfl rfl) ?_
        refine s_eff (e_call (w_g rfl rfl rfl rfl) rfl rfl Tryd.func46 rfl rfl rfl (prgTag _ (H.get (f := RdP 5 96 r3 A3 ((Th.lay l).take ck).length c3 ([], 4))) ⟨fun _ => rfl, by decide, by decide⟩) ?_)
        rw [show Pk.rBytes 16 ([], 4) = (List.replicate 16 0, ([], 4)) by decide]
        rintro _ W ⟨rfl, hp, hf⟩
        replace H := H.mut (f := RdP 5 96 r3 A3 ((Th.lay l).take ck).length c3 ([], 4)) (f' := RdP 5 96 r3 A3 ((Th.lay l).take ck).length c3 ([], 4)) hf hp (fun _ h => h)
        clear hp hf
        refine s_run (w_g rfl rfl rfl rfl) rfl (d_build (vs := (List.replicate 16 0).map u8v) rfl (by kernel_rfl)) ?_
        refine s_run (w_g rfl rfl rfl rfl) rfl (d_eqarr (b := List.replicate 16 0) rfl rfl rfl tu38 tu5 ts5 (by decide) (by decide) (by kernel_rfl)) ?_
        refine s_run (w_none rfl) rfl (d_pickT rfl rfl rfl) ?_
        refine s_run (w_none rfl) rfl (mv_bx (c := true) rfl rfl (by decide)) ?_
        refine s_run (w_g rfl rfl rfl rfl) rfl (mv_p rfl rfl) ?_
        refine s_eff (e_call (w_g rfl rfl rfl rfl) rfl rfl Tryd.func47 rfl rfl rfl (prgCount (m := 9) _ (H.get (f := RdP 5 96 r3 A3 ((Th.lay l).take ck).length c3 ([], 4))) ⟨fun _ => rfl, by decide, by decide⟩ (H.gat hG) (H.away (f := RdP 5 96 r3 A3 ((Th.lay l).take ck).length c3 ([], 4)) hG.1)) ?_)
        rw [show Pk.rCount 9 ([], 4) = (0, ([], 4)) by decide]
        rintro _ W ⟨rfl, hp, hf⟩
        replace H := H.mut (f := RdP 5 96 r3 A3 ((Th.lay l).take ck).length c3 ([], 4)) (f' := RdP 5 96 r3 A3 ((Th.lay l).take ck).length c3 ([], 4)) hf hp (fun _ h => h)
        clear hp hf
        refine s_run (w_g rfl rfl rfl rfl) rfl (d_eq rfl rfl rfl) ?_
        refine s_run (w_none rfl) rfl (d_pickT rfl rfl rfl) ?_
        refine s_run (w_none rfl) rfl (mv_bx (c := true) rfl rfl (by decide)) ?_
        refine s_run (w_g rfl rfl rfl rfl) rfl (mv_p rfl rfl) ?_
        refine s_eff (e_call (w_g rfl rfl rfl rfl) rfl rfl Tryd.func48 rfl rfl rfl (prgBlob (m := 9) _ (H.get (f := RdP 5 96 r3 A3 ((Th.lay l).take ck).length c3 ([], 4))) ⟨fun _ => rfl, by decide, by decide⟩ (H.gat hG) (H.away (f := RdP 5 96 r3 A3 ((Th.lay l).take ck).length c3 ([], 4)) hG.1)) ?_)
        rw [show Pk.rBlob 9 ([], 4) = ([], ([], 4)) by decide]
        rintro _ W ⟨hp1, hf1⟩
        obtain ⟨B1, d1, rfl⟩ := RdB.form hp1
        replace H := H.mut (f := RdP 5 96 r3 A3 ((Th.lay l).take ck).length c3 ([], 4)) (f' := RdB 5 96 r3 A3 ((Th.lay l).take ck).length c3 (.slice B1 (List.length ([] : List UInt8)) d1) [] ([], 4)) hf1 hp1 (fun _ h => h)
        clear hp1 hf1
        refine s_run (w_g rfl rfl rfl rfl) rfl (d_len rfl rfl tu23) ?_
        refine s_run (w_g rfl rfl rfl rfl) rfl (d_eq rfl rfl rfl) ?_
        refine s_run (w_none rfl) rfl (d_pickT rfl rfl rfl) ?_
        refine s_run (w_none rfl) rfl (mv_bx (c := true) rfl rfl (by decide)) ?_
        refine s_run (w_g rfl rfl rfl rfl) rfl (mv_p rfl rfl) ?_
        refine s_eff (e_call (w_g rfl rfl rfl rfl) rfl rfl Tryd.func21 rfl rfl rfl (prgEnd _ (H.get (f := RdB 5 96 r3 A3 ((Th.lay l).take ck).length c3 (.slice B1 (List.length ([] : List UInt8)) d1) [] ([], 4)))) ?_)
        rintro _ W ⟨rfl, hb⟩
        replace H := H.below hb
        clear hb
        refine s_run (w_g rfl rfl rfl rfl) rfl (d_eq rfl rfl rfl) ?_
        refine s_run (w_none rfl) rfl (d_pickT rfl rfl rfl) ?_
        refine s_run (w_none rfl) rfl (mv_bx (c := true) rfl rfl (by decide)) ?_
        refine s_eff (e_call (w_g rfl rfl rfl rfl) rfl rfl Tryd.func23 rfl rfl rfl (works03 _ (H.gat hG)) ?_)
        rintro _ W ⟨rfl, hb⟩
        replace H := H.below hb
        clear hb
        refine s_run (w_none rfl) rfl (d_pickT rfl rfl rfl) ?_
        refine s_run (w_none rfl) rfl (as_b rfl rfl) ?_
        refine l_nil ?_
        refine k_ret ?_
        repeat (first | refine r_then ?_ | refine r_blk ?_)
        exact q_ret (v := .bool _) rfl rfl ⟨_, rfl, rfl, H.under⟩
    · skip
      refine k_region ?_
      refine s_run (w_none rfl) rfl (mv_i rfl rfl) ?_
      refine s_run (w_none rfl) rfl (mv_s rfl rfl) ?_
      refine s_run (w_none rfl) rfl (d_len rfl rfl tu55) ?_
      refine s_run (w_none rfl) rfl (d_lt rfl rfl rfl) ?_
      refine s_run (w_none rfl) rfl (mv_bx (c := false) rfl rfl (by simp; omega)) ?_
      refine s_skip (w_gno rfl rfl rfl rfl rfl) rfl ?_
      refine s_skip (w_gno rfl rfl rfl rfl rfl) rfl ?_
      refine s_skip (w_gno rfl rfl rfl rfl rfl) rfl ?_
      refine s_skip (w_gno rfl rfl rfl rfl rfl) rfl ?_
      refine s_skip (w_gno rfl rfl rfl rfl rfl) rfl ?_
      refine s_skip (w_gno rfl rfl rfl rfl rfl) rfl ?_
      refine s_skip (w_gno rfl rfl rfl rfl rfl) rfl ?_
      refine s_skip (w_gno rfl rfl rfl rfl rfl) rfl ?_
      refine s_run (w_none rfl) rfl (d_pickF rfl rfl rfl) ?_
      refine l_nil ?_
      refine k_condF rfl rfl ?_
      refine k_exit ?_
      refine x_then (x_then ?_)
      refine x_hit ?_
      refine k_seq ?_
      refine k_seq ?_
      refine k_region ?_
      refine s_run (w_none rfl) rfl (mv_i rfl rfl) ?_
      refine s_run (w_none rfl) rfl (mv_s rfl rfl) ?_
      refine s_run (w_none rfl) rfl (d_len rfl rfl tu55) ?_
      refine s_run (w_none rfl) rfl (d_eq rfl rfl rfl) ?_
      refine l_nil ?_
      refine k_condT rfl (by simp; omega) ?_
      refine k_seq ?_
      obtain rfl : i = l.length := by omega
      rw [Th.rem_end] at H
      refine k_region ?_
      refine s_run (w_none rfl) rfl (mv_p rfl rfl) ?_
      refine s_eff (e_call (w_none rfl) rfl rfl Tryd.func21 rfl rfl rfl (prgEnd _ (H.get (f := RdP 5 96 r3 A3 ((Th.lay l).take ck).length c3 ([], 0)))) ?_)
      rintro _ W ⟨rfl, hb⟩
      replace H := H.below hb
      clear hb
      refine s_run (w_none rfl) rfl (d_eq rfl rfl rfl) ?_
      refine s_run (w_none rfl) rfl (mv_bx (c := true) rfl rfl (by decide)) ?_
      refine s_eff (e_call (w_g rfl rfl rfl rfl) rfl rfl Tryd.func23 rfl rfl rfl (works03 _ (H.gat hG)) ?_)
      rintro _ W ⟨rfl, hb⟩
      replace H := H.below hb
      clear hb
      refine s_run (w_none rfl) rfl (d_pickT rfl rfl rfl) ?_
      refine s_run (w_none rfl) rfl (as_b rfl rfl) ?_
      refine l_nil ?_
      refine k_ret ?_
      repeat (first | refine r_then ?_ | refine r_blk ?_)
      exact q_ret (v := .bool _) rfl rfl ⟨_, rfl, rfl, H.under⟩
end Go.Proofs.YtejaohlijaodjaaDoor
