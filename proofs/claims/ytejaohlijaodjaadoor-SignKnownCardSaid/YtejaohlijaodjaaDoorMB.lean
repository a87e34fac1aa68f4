/- Texts of this claim, laid together: K10, K11, OpS. -/
import Derived.Test.YtejaohlijaodjaaDoorMA
import Derived.Test.YtejaohlijaodjaaDoorMV
import Derived.Test.YtejaohlijaodjaaDoorMT
import Derived.Test.YtejaohlijaodjaaDoorProg
import Derived.KernelRfl
set_option linter.unusedVariables false
set_option linter.unusedSimpArgs false

namespace Go.Proofs.YtejaohlijaodjaaDoor
open Go Go.RowKit
attribute [local irreducible] wpList

theorem Bs.pre {W : World} {S : Nat → Prop} {A : Option Addr} {n c h : Nat} {l : List UInt8} (hb : Bs W S (.slice A n c) l) (hl : l.length = n) (hh : h ≤ n) : Bs W S (.slice A h c) (l.take h) := by
  subst hl
  obtain ⟨A', c', hv, h1, h2, hr⟩ := hb.op
  cases hv
  refine Bs.mk ?_ (by omega) h2
  refine ⟨by simp; omega, fun hn => ?_⟩
  obtain ⟨g, o, rfl, hg, hc⟩ := hr.2 (by omega)
  refine ⟨g, o, rfl, hg, fun j u hu => hc j u ?_⟩
  rw [List.map_take, List.getElem?_take] at hu
  split at hu
  · exact hu
  · cases hu
theorem spoil {A0 B : Option Addr} {n0 c0 q m c : Nat} {l : List UInt8} (w : World) (hR : w.ownsRow 0 5 1 (.slice A0 n0 c0) n0 (l.map u8v)) (hB : 0 < m → B = A0.map (·.add q)) (hq : q + m ≤ n0) (hm : m ≤ 1000000000000) :
    Calls Tryd.prog 32 [.slice B m c].toArray w (Ret (fun v' w' => v' = .tuple #[] ∧ (∃ ys : List UInt8, w'.ownsRow 0 5 1 (.slice A0 n0 c0) n0 (ys.map u8v) ∧ ys.length = l.length ∧ ys.take q = l.take q ∧ ys.drop (q + m) = l.drop (q + m)) ∧ Fr (fun g => (Value.slice A0 n0 c0).ownBlock = some g) w w')) := by
  refine k_enter (l := [_]) Tryd.func32 rfl rfl ?_
  have H := St.begin (f := Fact.row 5 1 (.slice A0 n0 c0) n0 (l.map u8v)) hR (fun g hg => (World.ownsRow.lt hR g hg).2)
  refine k_seq ?_
  refine k_region ?_
  refine s_run (w_none rfl) rfl (as_i rfl rfl) ?_
  refine l_nil ?_
  refine k_block ?_
  refine k_loop 2 [] (fun mm sl W => ∃ k : Nat, ∃ ys : List UInt8, m - k = mm ∧ sl = [(2, .int .i64 (k : Int))] ∧ (k ≤ m) ∧ (ys.length = l.length ∧ ys.take q = l.take q ∧ ys.drop (q + m) = l.drop (q + m)) ∧ St (fun g => (Value.slice A0 n0 c0).ownBlock = some g) w W [Fact.row 5 1 (.slice A0 n0 c0) n0 (ys.map u8v)]) _ _ ⟨0, l, rfl, rfl, Nat.zero_le _, ⟨rfl, rfl, rfl⟩, H⟩ ⟨rfl, trivial⟩ (fun mm sl ρv W hJ => ?_)
  clear H; obtain ⟨k, ys, rfl, rfl, hk, hy, H⟩ := hJ
  refine k_one ?_
  refine k_seq ?_
  refine k_seq ?_
  refine k_region ?_
  refine s_run (w_none rfl) rfl (mv_i rfl rfl) ?_
  refine s_run (w_none rfl) rfl (mv_s rfl rfl) ?_
  refine s_run (w_none rfl) rfl (d_len rfl rfl tu23) ?_
  refine s_run (w_none rfl) rfl (d_lt rfl rfl rfl) ?_
  refine l_nil ?_
  refine k_cond rfl (fun hc6 => ?_) (fun hc6 => ?_)
  · first | (replace hc6 := of_decide_eq_true hc6) | simp at hc6
    refine k_skip ?_
    refine k_seq ?_
    refine k_block ?_
    refine k_region ?_
    refine s_run (w_none rfl) rfl (mv_s rfl rfl) ?_
    refine s_run (w_none rfl) rfl (mv_i rfl rfl) ?_
    refine s_run (w_none rfl) rfl (mv_i rfl rfl) ?_
    refine s_run (w_none rfl) rfl (d_add rfl rfl rfl (by omega)) ?_
    refine s_eff (e_call (w_none rfl) rfl rfl Tryd.func73 rfl rfl rfl (markBytes (k + 7) _ _ (by omega) (by omega)) ?_)
    rintro _ W ⟨rfl, hb⟩
    replace H := H.below hb
    clear hb
    refine s_run (w_none rfl) rfl (d_iaB rfl ((H.rowrd (A := A0)).cutv (m := m) hq hB) rfl rfl (q := k) rfl (by omega) tu23 ts5) ?_
    refine s_eff (e_stoR (e := 5) (A := A0) (m := n0) (c := c0) (q := q) (k := k) (w_none rfl) rfl rfl rfl rfl (hB (by omega)) rfl ts5 rfl H (by omega) ?_)
    clear H; intro W H
    refine l_nil ?_
    refine k_nil ?_
    refine b_end ?_
    refine k_region ?_
    refine s_run (w_none rfl) rfl (mv_i rfl rfl) ?_
    refine s_run (w_none rfl) rfl (d_add rfl rfl rfl (by omega)) ?_
    refine s_run (w_none rfl) rfl (as_i rfl rfl) ?_
    refine l_nil ?_
    refine k_nil ?_
    refine k_next ?_
    refine ⟨_, _, _, ?_, rfl, ?_, ?_, ⟨k + 1, ys.set (q + k) (UInt8.ofNat (201 + 7 * (k + 7))), rfl, rfl, by omega, ⟨by rw [List.length_set]; exact hy.1, by rw [List.take_set_of_le (by omega)]; exact hy.2.1, by rw [List.drop_set_of_lt (by omega)]; exact hy.2.2⟩, by rw [List.map_set]; exact H⟩⟩
    · omega
    · repeat (first | ((with_reducible refine Eqo.updl _ Eqo.ovr ?_); exact rfl) | ((with_reducible refine Eqo.updl _ (Eqo.ovr2 ?_ ?_) ?_); rotate_left; exact rfl; exact rfl) | ((with_reducible refine Eqo.upd ?_ ?_); rotate_left; exact rfl))
    · refine ⟨?_, trivial⟩
      · exact vi (by omega)
  · first | (replace hc6 := of_decide_eq_false hc6) | simp at hc6
    refine k_exit ?_
    refine x_then (x_then ?_)
    refine x_hit ?_
    refine k_nil ?_
    exact q_end0 rfl ⟨_, rfl, rfl, ⟨ys, H.get (f := Fact.row 5 1 (.slice A0 n0 c0) n0 (ys.map u8v)), hy⟩, H.fr⟩

theorem kept {S S' : Nat → Prop} {v u : Value} {al l : List UInt8} (w : World) (ha : Bs w S v al) (hb : Bs w S' u l) (he : al = l ++ marks 5) (hl : l.length ≤ 1000000000000) : Calls Tryd.prog 33 [v, u].toArray w (Ret (Is w (.bool true))) := by
  have hal : al.length = l.length + 5 := by rw [he, List.length_append, marks_len]
  have ht : al.take l.length = l := by rw [he, List.take_left]
  have hd : (al.drop l.length).take (al.length - l.length) = marks 5 := by rw [he, List.drop_left, List.take_of_length_le (by simp)]
  obtain ⟨A, c, rfl, hc1, hc2, ha1⟩ := ha.op
  obtain ⟨B, d, rfl, hd1, hd2, hb1⟩ := hb.op
  refine k_enter (l := [_, _]) Tryd.func33 rfl rfl ?_
  have H := St.start nT w
  refine k_seq ?_
  refine k_region ?_
  refine s_run (w_none rfl) rfl (as_b rfl rfl) ?_
  refine l_nil ?_
  refine k_seq ?_
  refine k_seq ?_
  refine k_region ?_
  refine s_run (w_none rfl) rfl (mv_s rfl rfl) ?_
  refine s_run (w_none rfl) rfl (d_len rfl rfl tu23) ?_
  refine s_run (w_none rfl) rfl (mv_s rfl rfl) ?_
  refine s_run (w_none rfl) rfl (d_len rfl rfl tu23) ?_
  refine s_run (w_none rfl) rfl (d_add rfl rfl rfl (by omega)) ?_
  refine s_run (w_none rfl) rfl (d_ne rfl rfl rfl) ?_
  refine s_run (w_none rfl) rfl (mv_bx (c := false) rfl rfl (by simp; omega)) ?_
  refine s_run (w_g rfl rfl rfl rfl) rfl (mv_s rfl rfl) ?_
  refine s_run (w_g rfl rfl rfl rfl) rfl (mv_s rfl rfl) ?_
  refine s_run (w_g rfl rfl rfl rfl) rfl (d_len rfl rfl tu23) ?_
  refine s_run (w_g rfl rfl rfl rfl) rfl (d_cutP rfl rfl (h := l.length) rfl (by omega) rfl tu23 ts5) ?_
  refine s_run (w_g rfl rfl rfl rfl) rfl (mv_s rfl rfl) ?_
  refine s_eff (e_call (w_g rfl rfl rfl rfl) rfl rfl Tryd.func22 rfl rfl rfl (sameBytes _ _ _ _ _ ((H.bs ha).pre (h := l.length) rfl (by omega)) (H.bs hb)) ?_)
  rw [ht]
  rintro _ W ⟨rfl, hb⟩
  replace H := H.below hb
  clear hb
  refine s_run (w_g rfl rfl rfl rfl) rfl (d_not rfl rfl) ?_
  refine s_run (w_none rfl) rfl (d_pickF rfl rfl rfl) ?_
  refine l_nil ?_
  refine k_condF rfl (by first | (simp; done) | (simp; omega)) ?_
  refine k_skip ?_
  refine k_seq ?_
  refine k_region ?_
  refine s_run (w_none rfl) rfl (as_s rfl rfl) ?_
  refine l_nil ?_
  refine k_seq ?_
  refine k_seq ?_
  refine k_region ?_
  refine s_run (w_none rfl) rfl (as_i rfl rfl) ?_
  refine l_nil ?_
  refine k_block ?_
  refine k_loop 22 [5, 6] (fun mm sl W => ∃ k : Nat, ∃ B2 : Option Addr, ∃ d2 : Nat, 5 - k = mm ∧ sl = [(6, .int .i64 (k : Int)), (5, .slice B2 k d2)] ∧ (k ≤ 5) ∧ (k ≤ d2 ∧ d2 ≤ 9223372036854775807) ∧ St nT w W [Fact.row 5 1 (.slice B2 k d2) k ((marks k).map u8v)]) _ _ ⟨0, none, 0, rfl, rfl, by omega, ⟨by omega, by omega⟩, H.nilrow 5 1⟩ ⟨rfl, rfl, trivial⟩ (fun mm sl ρv W hJ => ?_)
  clear H; obtain ⟨k, B2, d2, rfl, rfl, hk, hd3, H⟩ := hJ
  refine k_one ?_
  refine k_seq ?_
  refine k_seq ?_
  refine k_region ?_
  refine s_run (w_none rfl) rfl (mv_i rfl rfl) ?_
  refine s_run (w_none rfl) rfl (d_lt rfl rfl rfl) ?_
  refine l_nil ?_
  refine k_cond rfl (fun hc23 => ?_) (fun hc23 => ?_)
  · first | (replace hc23 := of_decide_eq_true hc23) | simp at hc23
    refine k_skip ?_
    refine k_seq ?_
    refine k_block ?_
    refine k_region ?_
    refine s_run (w_none rfl) rfl (mv_s rfl rfl) ?_
    refine s_run (w_none rfl) rfl (mv_i rfl rfl) ?_
    refine s_eff (e_call (w_none rfl) rfl rfl Tryd.func73 rfl rfl rfl (markBytes k _ _ rfl (by omega)) ?_)
    rintro _ W ⟨rfl, hb⟩
    replace H := H.below hb
    clear hb
    refine s_eff (e_bsl (xs := [.tmp 28]) (vals := [.int .u8 _]) (vs := [.int .u8 _]) (w_none rfl) rfl rfl rfl rfl rfl rfl tu23 ts5 ty5 rfl rfl rfl H ?_)
    clear H; intro g7_3 W H
    refine s_eff (e_app (w_none rfl) rfl rfl tu23 tx5 rfl rfl rfl H (rd_blk H.blk rfl) (rfl) (by omega) rfl ?_)
    clear H; intro A2 c2 W hc2 hd2 H
    replace H := H.drop
    refine s_run (w_none rfl) rfl (as_s rfl rfl) ?_
    refine l_nil ?_
    refine k_nil ?_
    refine b_end ?_
    refine k_region ?_
    refine s_run (w_none rfl) rfl (mv_i rfl rfl) ?_
    refine s_run (w_none rfl) rfl (d_add rfl rfl rfl (by omega)) ?_
    refine s_run (w_none rfl) rfl (as_i rfl rfl) ?_
    refine l_nil ?_
    refine k_nil ?_
    refine k_next ?_
    refine ⟨_, _, _, ?_, rfl, ?_, ?_, ⟨k + 1, A2, c2, rfl, rfl, by omega, ⟨hc2, hd2⟩, by rw [marks_succ, List.map_append]; exact H⟩⟩
    · omega
    · repeat (first | ((with_reducible refine Eqo.updl _ Eqo.ovr ?_); exact rfl) | ((with_reducible refine Eqo.updl _ (Eqo.ovr2 ?_ ?_) ?_); rotate_left; exact rfl; exact rfl) | ((with_reducible refine Eqo.upd ?_ ?_); rotate_left; exact rfl))
    · refine ⟨?_, ?_, trivial⟩
      · exact vi (by omega)
      · exact rfl
  · first | (replace hc23 := of_decide_eq_false hc23) | simp at hc23
    refine k_exit ?_
    refine x_then (x_then ?_)
    refine x_hit ?_
    refine k_seq ?_
    obtain rfl : k = 5 := by omega
    refine k_region ?_
    refine s_run (w_none rfl) rfl (mv_s rfl rfl) ?_
    refine s_run (w_none rfl) rfl (mv_s rfl rfl) ?_
    refine s_run (w_none rfl) rfl (d_len rfl rfl tu23) ?_
    refine s_run (w_none rfl) rfl (d_cutS rfl rfl (l := l.length) rfl (by omega) rfl tu23 ts5) ?_
    refine s_run (w_none rfl) rfl (mv_s rfl rfl) ?_
    refine s_eff (e_call (w_none rfl) rfl rfl Tryd.func22 rfl rfl rfl (sameBytes _ _ _ _ _ (bs_cut (H.bs ha) rfl (by omega) (Nat.le_refl _)) (H.rowbs (A := B2) (marks_len 5))) ?_)
    rw [hd]
    rintro _ W ⟨rfl, hb⟩
    replace H := H.below hb
    clear hb
    refine s_run (w_none rfl) rfl (as_b rfl rfl) ?_
    refine l_nil ?_
    refine k_ret ?_
    repeat (first | refine r_then ?_ | refine r_blk ?_)
    exact q_ret (v := .bool _) rfl rfl ⟨_, rfl, by rw [decide_eq_true rfl], H.under⟩

theorem St.away {w W : World} {L : List Fact} {f : Fact} {g : Nat} (H : St nT w W L) [h : In f L] (hg : g < w.heap.size) : ¬ f.fp g := fun hf => by
  have := (H.own f h.mem g hf).1.resolve_left (fun h => h)
  omega
theorem works03 (w : World) (hG : Gat w 0 formsC) : Calls Tryd.prog 23 [].toArray w (Ret (Is w (.bool true))) := by
  refine k_enter (l := []) Tryd.func23 rfl rfl ?_
  have H := St.start nT w
  refine k_seq ?_
  refine k_region ?_
  refine s_run (w_none rfl) rfl (as_b rfl rfl) ?_
  refine l_nil ?_
  refine k_seq ?_
  refine k_region ?_
  refine s_eff (e_bsl (xs := [.const (.int .u8 9)]) (vals := [.int .u8 _]) (vs := [.int .u8 _]) (w_none rfl) rfl rfl rfl rfl rfl rfl tu23 ts5 ty5 rfl rfl rfl H ?_)
  clear H; intro ga W H
  refine s_eff (e_call (w_none rfl) rfl rfl Tryd.func18 rfl rfl rfl (packInt (b := [9]) 253 _ (H.gat hG) (Bs.mk (S := (· = ga)) (rd_blk H.blk rfl) (by decide) (by decide)) (by decide) (by decide)) ?_)
  rintro _ W ⟨A1, c1, rfl, hc1, hd1, hn⟩
  replace H := H.new hn
  clear hn
  rw [show ([9] ++ Pk.int (Pk.toU 253) : List UInt8) = [9, 253, 253, 0] by decide] at hc1 H ⊢
  refine s_run (w_none rfl) rfl (as_s rfl rfl) ?_
  refine l_nil ?_
  refine k_seq ?_
  refine k_region ?_
  refine s_eff (e_bsl (xs := [.const (.int .u8 253), .const (.int .u8 252), .const (.int .u8 0)]) (vals := [.int .u8 _, .int .u8 _, .int .u8 _]) (vs := [.int .u8 _, .int .u8 _, .int .u8 _]) (w_none rfl) rfl rfl rfl rfl rfl rfl tu23 ts5 ty5 rfl rfl rfl H ?_)
  clear H; intro gb W H
  refine s_eff (e_call (w_none rfl) rfl rfl Tryd.func19 rfl rfl rfl (prgRead (l := [253, 252, 0]) _ (Bs.mk (S := (· = gb)) (rd_blk H.blk rfl) (by decide) (by decide)) (by decide)) ?_)
  rintro _ W ⟨r2, A2, c2, rfl, hS⟩
  replace H := H.add hS
  clear hS
  simp only [List.cons_append, List.nil_append] at H
  refine s_run (w_none rfl) rfl (as_p rfl rfl) ?_
  refine l_nil ?_
  refine k_seq ?_
  refine k_region ?_
  refine s_run (w_none rfl) rfl (mv_p rfl rfl) ?_
  refine s_eff (e_call (w_none rfl) rfl rfl Tryd.func20 rfl rfl rfl (prgInt _ (H.get (f := RdP 5 96 r2 A2 3 c2 ([253, 252, 0], 0))) ⟨fun h => absurd rfl h, by decide, by decide⟩ (H.gat hG) (H.away (f := RdP 5 96 r2 A2 3 c2 ([253, 252, 0], 0)) hG.1)) ?_)
  rw [show Pk.rInt ([253, 252, 0], 0) = (0, ([], 10)) by decide]
  rintro _ W ⟨rfl, hp, hf⟩
  replace H := H.mut (f := RdP 5 96 r2 A2 3 c2 ([253, 252, 0], 0)) (f' := RdP 5 96 r2 A2 3 c2 ([], 10)) hf hp (fun _ h => h)
  clear hp hf
  refine s_run (w_none rfl) rfl (as_i rfl rfl) ?_
  refine l_nil ?_
  refine k_seq ?_
  refine k_region ?_
  refine s_run (w_none rfl) rfl (mv_s rfl rfl) ?_
  refine s_eff (e_bsl (xs := [.const (.int .u8 9), .const (.int .u8 253), .const (.int .u8 253), .const (.int .u8 0)]) (vals := [.int .u8 _, .int .u8 _, .int .u8 _, .int .u8 _]) (vs := [.int .u8 _, .int .u8 _, .int .u8 _, .int .u8 _]) (w_none rfl) rfl rfl rfl rfl rfl rfl tu23 ts5 ty5 rfl rfl rfl H ?_)
  clear H; intro gc W H
  refine s_eff (e_call (w_none rfl) rfl rfl Tryd.func22 rfl rfl rfl (sameBytes _ _ [9, 253, 253, 0] [9, 253, 253, 0] _ (H.rowbs (A := A1) rfl) (Bs.mk (S := (· = gc)) (l := [9, 253, 253, 0]) (rd_blk H.blk rfl) (by decide) (by decide))) ?_)
  rintro _ W ⟨rfl, hb⟩
  replace H := H.below hb
  clear hb
  refine s_run (w_none rfl) rfl (mv_bx (c := true) rfl rfl (by decide)) ?_
  refine s_run (w_g rfl rfl rfl rfl) rfl (mv_i rfl rfl) ?_
  refine s_run (w_g rfl rfl rfl rfl) rfl (d_eq rfl rfl rfl) ?_
  refine s_run (w_none rfl) rfl (d_pickT rfl rfl rfl) ?_
  refine s_run (w_none rfl) rfl (mv_bx (c := true) rfl rfl (by decide)) ?_
  refine s_run (w_g rfl rfl rfl rfl) rfl (mv_p rfl rfl) ?_
  refine s_eff (e_call (w_g rfl rfl rfl rfl) rfl rfl Tryd.func39 rfl rfl rfl (prgBad _ (H.get (f := RdP 5 96 r2 A2 3 c2 ([], 10)))) ?_)
  rintro _ W ⟨rfl, hb⟩
  replace H := H.below hb
  clear hb
  refine s_run (w_none rfl) rfl (d_pickT rfl rfl rfl) ?_
  refine s_run (w_none rfl) rfl (mv_bx (c := true) rfl rfl (by decide)) ?_
  refine s_run (w_g rfl rfl rfl rfl) rfl (mv_p rfl rfl) ?_
  refine s_eff (e_call (w_g rfl rfl rfl rfl) rfl rfl Tryd.func21 rfl rfl rfl (prgEnd _ (H.get (f := RdP 5 96 r2 A2 3 c2 ([], 10)))) ?_)
  rintro _ W ⟨rfl, hb⟩
  replace H := H.below hb
  clear hb
  refine s_run (w_g rfl rfl rfl rfl) rfl (d_eq rfl rfl rfl) ?_
  refine s_run (w_none rfl) rfl (d_pickT rfl rfl rfl) ?_
  refine s_run (w_none rfl) rfl (mv_bx (c := true) rfl rfl (by decide)) ?_
  refine s_run (w_g rfl rfl rfl rfl) rfl (mv_s rfl rfl) ?_
  refine s_run (w_g rfl rfl rfl rfl) rfl (d_cutS rfl rfl (l := 1) rfl (by decide) rfl tu23 ts5) ?_
  refine s_eff (e_call (w_g rfl rfl rfl rfl) rfl rfl Tryd.func19 rfl rfl rfl (prgRead (l := [253, 253, 0]) _ (bs_cut (H.rowbs (A := A1) (l := [9, 253, 253, 0]) rfl) rfl (a := 1) (b := 4) (by decide) (by decide)) (by decide)) ?_)
  rintro _ W ⟨r3, A3, c3, rfl, hS⟩
  replace H := H.add hS
  clear hS
  simp only [List.cons_append, List.nil_append] at H
  refine s_eff (e_call (w_g rfl rfl rfl rfl) rfl rfl Tryd.func20 rfl rfl rfl (prgInt _ (H.get (f := RdP 5 96 r3 A3 3 c3 ([253, 253, 0], 0))) ⟨fun h => absurd rfl h, by decide, by decide⟩ (H.gat hG) (H.away (f := RdP 5 96 r3 A3 3 c3 ([253, 253, 0], 0)) hG.1)) ?_)
  rw [show Pk.rInt ([253, 253, 0], 0) = (253, ([], 0)) by decide]
  rintro _ W ⟨rfl, hp, hf⟩
  replace H := H.mut (f := RdP 5 96 r3 A3 3 c3 ([253, 253, 0], 0)) (f' := RdP 5 96 r3 A3 3 c3 ([], 0)) hf hp (fun _ h => h)
  clear hp hf
  refine s_run (w_g rfl rfl rfl rfl) rfl (d_eq rfl rfl rfl) ?_
  refine s_run (w_none rfl) rfl (d_pickT rfl rfl rfl) ?_
  refine s_run (w_none rfl) rfl (as_b rfl rfl) ?_
  refine l_nil ?_
  refine k_ret ?_
  repeat (first | refine r_then ?_ | refine r_blk ?_)
  exact q_ret (v := .bool _) rfl rfl ⟨_, rfl, rfl, H.under⟩
end Go.Proofs.YtejaohlijaodjaaDoor

namespace Go.Proofs.YtejaohlijaodjaaDoor
open Go Go.RowKit
attribute [local irreducible] wpList

theorem d_ldmX {P : Program} {o : Oper} {n : Nat} {ρ : Nat → Value} {W w0 : World} {T : Nat → Prop} {L : List Fact} {x : Operand} {t t' : TypeId} {g i m : Nat} {c : List Value} (cs : List Value) (ho : o.op = .load t x) (H : St T w0 W L) (hx : ev n ρ x = .pointer (some ⟨g, i, none⟩)) (ha : aggB P t = some true) (hs : (P.info? t).map (·.size) = some m) [hb : Blk g L c t'] (hl : i + m ≤ c.length) (hc : sub c i m = cs) : Runs P n ρ o W (.agg cs.toArray) W := by
  subst hc
  exact d_ldm (hb := hb) ho H hx ha hs (Nat.ble_eq_true_of_le hl)
def thingC (kd n : Int) (B : Option Addr) (m d : Nat) (h t : List UInt8) : List Value := .int .i64 kd :: .int .i64 n :: .slice B m d :: (h.map u8v ++ t.map u8v)
section
variable {kd n : Int} {B : Option Addr} {m d : Nat} {h t : List UInt8}
theorem len_thing (hh : h.length = 32) (ht : t.length = 16) : (thingC kd n B m d h t).length = 51 := by simp [thingC]; omega
theorem thing_h (hh : h.length = 32) : sub (thingC kd n B m d h t) 3 32 = h.map u8v := by
  unfold thingC sub
  simp only [List.drop_succ_cons, List.drop_zero]
  rw [List.take_append_of_le_length (by rw [List.length_map]; omega), List.take_of_length_le (by rw [List.length_map]; omega)]
theorem thing_t (hh : h.length = 32) (ht : t.length = 16) : sub (thingC kd n B m d h t) 35 16 = t.map u8v := by
  unfold thingC sub
  simp only [List.drop_succ_cons]
  rw [List.drop_append, List.drop_eq_nil_of_le (by rw [List.length_map]; omega), List.length_map, hh]
  simp only [Nat.sub_self, List.drop_zero, List.nil_append]
  rw [List.take_of_length_le (by rw [List.length_map]; omega)]
end
theorem lent_pre {W : World} {S : Nat → Prop} {A : Option Addr} {n c : Nat} {b : List UInt8} (h : Bs W S (.slice A n c) (b ++ marks 5)) (hl : (b ++ marks 5).length = n) : Bs W S (.slice A b.length c) b := by
  have h2 := h.pre (h := b.length) hl (by rw [← hl, List.length_append]; omega)
  rwa [List.take_left] at h2
theorem spoilAll {A : Option Addr} {m c : Nat} {l : List UInt8} (w : World) (hR : w.ownsRow 0 5 1 (.slice A m c) m (l.map u8v)) (hm : m ≤ 1000000000000) : Calls Tryd.prog 32 [.slice A m c].toArray w (Ret (fun v' w' => v' = .tuple #[] ∧ (∃ ys : List UInt8, w'.ownsRow 0 5 1 (.slice A m c) m (ys.map u8v)) ∧ Fr (fun g => (Value.slice A m c).ownBlock = some g) w w')) := by
  refine Calls.mono (spoil (q := 0) w hR (fun _ => ?_) (by omega) hm) (fun e w' h => ?_)
  · rcases row_addr hR with rfl | ⟨g, rfl⟩
    · rfl
    · simp [Addr.add_mid]
  · obtain ⟨v, h1, h2, ⟨ys, h3, _⟩, h4⟩ := h
    exact ⟨v, h1, h2, ⟨ys, h3⟩, h4⟩

theorem packLaysA {S S1 : Nat → Prop} {v : Value} {b p h t : List UInt8} {kd n : Int} {B : Option Addr} {d : Nat} (w : World) (hG : Gat w 0 formsC) (hb : Bs w S v b) (hp : Bs w S1 (.slice B p.length d) p) (hh : h.length = 32) (ht : t.length = 16) (hn : -9223372036854775808 ≤ n ∧ n ≤ 9223372036854775807) (hm : 4096 < b.length ∨ 4096 < p.length) : Calls Tryd.prog 4 [v, .agg (thingC kd n B p.length d h t).toArray].toArray w (Ret (Is w (.bool true))) := by
  have hb0 := hb
  obtain ⟨A, c, rfl, _, _, _⟩ := hb.op
  refine k_enter (l := [_, _]) Tryd.func4 rfl rfl ?_
  have H := St.start nT w
  refine k_seq ?_
  refine k_region ?_
  refine s_eff (e_box (vs := thingC kd n B p.length d h t) (w_none rfl) rfl rfl rfl rfl H ?_)
  clear H; intro gt W H
  refine s_run (w_none rfl) rfl (as_b rfl rfl) ?_
  refine l_nil ?_
  refine k_seq ?_
  refine k_seq ?_
  refine k_region ?_
  refine s_run (w_none rfl) rfl (mv_s rfl rfl) ?_
  refine s_run (w_none rfl) rfl (d_len rfl rfl tu23) ?_
  refine s_run (w_none rfl) rfl (d_fa rfl rfl tf40_2) ?_
  refine s_run (w_none rfl) rfl (d_ld rfl H rfl ta23 rfl) ?_
  refine s_run (w_none rfl) rfl (d_len rfl rfl tu23) ?_
  refine s_run (w_none rfl) rfl (d_max rfl rfl rfl) ?_
  refine s_run (w_none rfl) rfl (d_gt rfl rfl rfl) ?_
  refine l_nil ?_
  refine k_condT rfl (by simp; omega) ?_
  refine k_seq ?_
  refine k_region ?_
  refine s_eff (e_call (w_none rfl) rfl rfl Tryd.func23 rfl rfl rfl (works03 _ (H.gat hG)) ?_)
  rintro _ W ⟨rfl, hb⟩
  replace H := H.below hb
  clear hb
  refine s_run (w_none rfl) rfl (as_b rfl rfl) ?_
  refine l_nil ?_
  refine k_ret ?_
  repeat (first | refine r_then ?_ | refine r_blk ?_)
  exact q_ret (v := .bool _) rfl rfl ⟨_, rfl, rfl, H.under⟩

set_option maxHeartbeats 4000000 in
theorem packLaysB {S S1 : Nat → Prop} {v : Value} {b p h t : List UInt8} {kd n : Int} {B : Option Addr} {d : Nat} (w : World) (hG : Gat w 0 formsC) (hb : Bs w S v b) (hp : Bs w S1 (.slice B p.length d) p) (hh : h.length = 32) (ht : t.length = 16) (hn : -9223372036854775808 ≤ n ∧ n ≤ 9223372036854775807) (hm : b.length ≤ 4096 ∧ p.length ≤ 4096) : Calls Tryd.prog 4 [v, .agg (thingC kd n B p.length d h t).toArray].toArray w (Ret (Is w (.bool true))) := by
  have hb0 := hb
  obtain ⟨A, c, rfl, _, _, _⟩ := hb.op
  refine k_enter (l := [_, _]) Tryd.func4 rfl rfl ?_
  have H := St.start nT w
  have hil := Pk.len_int p.length
  have hin := Pk.len_int (Pk.toU n)
  refine k_seq ?_
  refine k_region ?_
  refine s_eff (e_box (vs := thingC kd n B p.length d h t) (w_none rfl) rfl rfl rfl rfl H ?_)
  clear H; intro gt W H
  refine s_run (w_none rfl) rfl (as_b rfl rfl) ?_
  refine l_nil ?_
  refine k_seq ?_
  refine k_seq ?_
  refine k_region ?_
  refine s_run (w_none rfl) rfl (mv_s rfl rfl) ?_
  refine s_run (w_none rfl) rfl (d_len rfl rfl tu23) ?_
  refine s_run (w_none rfl) rfl (d_fa rfl rfl tf40_2) ?_
  refine s_run (w_none rfl) rfl (d_ld rfl H rfl ta23 rfl) ?_
  refine s_run (w_none rfl) rfl (d_len rfl rfl tu23) ?_
  refine s_run (w_none rfl) rfl (d_max rfl rfl rfl) ?_
  refine s_run (w_none rfl) rfl (d_gt rfl rfl rfl) ?_
  refine l_nil ?_
  refine k_condF rfl (by simp; omega) ?_
  refine k_skip ?_
  refine k_seq ?_
  refine k_region ?_
  refine s_run (w_none rfl) rfl (mv_s rfl rfl) ?_
  refine s_eff (e_call (w_none rfl) rfl rfl Tryd.func24 rfl rfl rfl (lentBytes _ _ _ (H.bs hb0) (by omega)) ?_)
  rintro _ W ⟨A1, c1, rfl, hc1, hd1, hn⟩
  replace H := H.new hn
  clear hn
  refine s_run (w_none rfl) rfl (as_s rfl rfl) ?_
  refine l_nil ?_
  refine k_seq ?_
  refine k_region ?_
  refine s_run (w_none rfl) rfl (d_fa rfl rfl tf40_2) ?_
  refine s_run (w_none rfl) rfl (d_ld rfl H rfl ta23 rfl) ?_
  refine s_eff (e_call (w_none rfl) rfl rfl Tryd.func24 rfl rfl rfl (lentBytes _ _ _ (H.bs hp) (by omega)) ?_)
  rintro _ W ⟨A2, c2, rfl, hc2, hd2, hn⟩
  replace H := H.new hn
  clear hn
  refine s_run (w_none rfl) rfl (as_s rfl rfl) ?_
  refine l_nil ?_
  refine k_seq ?_
  refine k_region ?_
  refine s_run (w_none rfl) rfl (mv_s rfl rfl) ?_
  refine s_run (w_none rfl) rfl (mv_s rfl rfl) ?_
  refine s_run (w_none rfl) rfl (d_len rfl rfl tu23) ?_
  refine s_run (w_none rfl) rfl (d_cutP rfl rfl (h := b.length) rfl (by have := hc1; rw [List.length_append] at this; omega) rfl tu23 ts5) ?_
  refine s_run (w_none rfl) rfl (as_s rfl rfl) ?_
  refine l_nil ?_
  refine k_seq ?_
  refine k_draw [(0, true), (1, true), (2, true), (4, true), (5, true), (6, true), (7, true), (8, true), (9, true), (11, true), (12, true), (13, true), (15, true), (16, true), (17, true), (3, false), (10, false), (14, false), (18, false), (19, false), (20, true)] _ (by kernel_rfl) (by kernel_rfl) H (.refl _) ?_
  clear H; intro W H
  refine c_run rfl (w_none rfl) rfl (fun W H => mv_s rfl rfl) ?_
  refine c_run rfl (w_none rfl) rfl (fun W H => d_fa rfl rfl tf40_1) ?_
  refine c_run rfl (w_none rfl) rfl (fun W H => d_ld rfl H rfl ta3 rfl) ?_
  refine c_run rfl (w_none rfl) rfl (fun W H => mv_s rfl rfl) ?_
  refine c_run rfl (w_none rfl) rfl (fun W H => mv_s rfl rfl) ?_
  refine c_run rfl (w_none rfl) rfl (fun W H => d_fa rfl rfl tf40_2) ?_
  refine c_run rfl (w_none rfl) rfl (fun W H => d_ld rfl H rfl ta23 rfl) ?_
  refine c_run rfl (w_none rfl) rfl (fun W H => d_len rfl rfl tu23) ?_
  refine c_run rfl (w_none rfl) rfl (fun W H => d_cutP rfl rfl (h := p.length) rfl (by have := hc2; rw [List.length_append] at this; omega) rfl tu23 ts5) ?_
  refine c_run rfl (w_none rfl) rfl (fun W H => mv_s rfl rfl) ?_
  refine c_run rfl (w_none rfl) rfl (fun W H => d_fa rfl rfl tf40_3) ?_
  refine c_run rfl (w_none rfl) rfl (fun W H => d_ldmX (h.map u8v) rfl H rfl ta36 ts36 (by rw [len_thing hh ht]; decide) (thing_h hh)) ?_
  refine c_run rfl (w_none rfl) rfl (fun W H => mv_s rfl rfl) ?_
  refine c_run rfl (w_none rfl) rfl (fun W H => d_fa rfl rfl tf40_4) ?_
  refine c_run rfl (w_none rfl) rfl (fun W H => d_ldmX (t.map u8v) rfl H rfl ta38 ts38 (by rw [len_thing hh ht]; decide) (thing_t hh ht)) ?_
  refine c_eff rfl (e_call (w_none rfl) rfl rfl Tryd.func18 rfl rfl rfl (packInt (b := b) n _ (H.gat hG) (lent_pre (H.rowbs (A := A1) (l := b ++ marks 5) rfl) rfl) hn (by omega)) ?_)
  rintro _ W ⟨A3, c3, rfl, hc3, hd3, hn⟩
  replace H := H.new hn
  clear hn
  refine ⟨H.sub (by repeat (first | exact List.Sublist.refl _ | refine List.Sublist.cons_cons _ ?_ | refine List.Sublist.cons _ ?_)), ?_⟩
  refine c_eff rfl (e_call (w_none rfl) rfl rfl Tryd.func25 rfl rfl rfl (packBlob (b := b) (p := p) _ (H.gat hG) (lent_pre (H.rowbs (A := A1) (l := b ++ marks 5) rfl) rfl) (by omega) (lent_pre (H.rowbs (A := A2) (l := p ++ marks 5) rfl) rfl) (by omega)) ?_)
  rintro _ W ⟨A4, c4, rfl, hc4, hd4, hn⟩
  replace H := H.new hn
  clear hn
  refine ⟨H.sub (by repeat (first | exact List.Sublist.refl _ | refine List.Sublist.cons_cons _ ?_ | refine List.Sublist.cons _ ?_)), ?_⟩
  refine c_eff rfl (e_call (w_none rfl) rfl rfl Tryd.func26 rfl rfl rfl (packHash (b := b) (h := h) _ (lent_pre (H.rowbs (A := A1) (l := b ++ marks 5) rfl) rfl) (by omega) hh) ?_)
  rintro _ W ⟨A5, c5, rfl, hc5, hd5, hn⟩
  replace H := H.new hn
  clear hn
  refine ⟨H.sub (by repeat (first | exact List.Sublist.refl _ | refine List.Sublist.cons_cons _ ?_ | refine List.Sublist.cons _ ?_)), ?_⟩
  refine c_eff rfl (e_call (w_none rfl) rfl rfl Tryd.func27 rfl rfl rfl (packTag (b := b) (h := t) _ (lent_pre (H.rowbs (A := A1) (l := b ++ marks 5) rfl) rfl) (by omega) ht) ?_)
  rintro _ W ⟨A6, c6, rfl, hc6, hd6, hn⟩
  replace H := H.new hn
  clear hn
  refine ⟨H.sub (by repeat (first | exact List.Sublist.refl _ | refine List.Sublist.cons_cons _ ?_ | refine List.Sublist.cons _ ?_)), ?_⟩
  refine c_eff rfl (e_bsl (xs := [.tmp 31, .tmp 38, .tmp 42, .tmp 46]) (vals := [.slice _ _ _, .slice _ _ _, .slice _ _ _, .slice _ _ _]) (vs := [.slice _ _ _, .slice _ _ _, .slice _ _ _, .slice _ _ _]) (w_none rfl) rfl rfl rfl rfl rfl rfl tu45 ts23 ty23 rfl rfl rfl H ?_)
  clear H; intro gr W H
  refine ⟨H.sub (by repeat (first | exact List.Sublist.refl _ | refine List.Sublist.cons_cons _ ?_ | refine List.Sublist.cons _ ?_)), ?_⟩
  refine c_run rfl (w_none rfl) rfl (fun W H => as_s rfl rfl) ?_
  refine c_nil ?_
  refine k_seq ?_
  refine k_draw [(0, true), (1, true), (2, true), (4, true), (5, true), (6, true), (8, true), (9, true), (10, true), (12, true), (13, true), (14, true), (3, false), (7, false), (11, false), (15, false), (16, false), (17, true)] _ (by kernel_rfl) (by kernel_rfl) H (.refl _) ?_
  clear H; intro W H
  refine c_run rfl (w_none rfl) rfl (fun W H => mv_s rfl rfl) ?_
  refine c_run rfl (w_none rfl) rfl (fun W H => d_fa rfl rfl tf40_1) ?_
  refine c_run rfl (w_none rfl) rfl (fun W H => d_ld rfl H rfl ta3 rfl) ?_
  refine c_run rfl (w_none rfl) rfl (fun W H => mv_s rfl rfl) ?_
  refine c_run rfl (w_none rfl) rfl (fun W H => d_fa rfl rfl tf40_2) ?_
  refine c_run rfl (w_none rfl) rfl (fun W H => d_ld rfl H rfl ta23 rfl) ?_
  refine c_run rfl (w_none rfl) rfl (fun W H => mv_s rfl rfl) ?_
  refine c_run rfl (w_none rfl) rfl (fun W H => d_fa rfl rfl tf40_3) ?_
  refine c_run rfl (w_none rfl) rfl (fun W H => d_ldmX (h.map u8v) rfl H rfl ta36 ts36 (by rw [len_thing hh ht]; decide) (thing_h hh)) ?_
  refine c_run rfl (w_none rfl) rfl (fun W H => mv_s rfl rfl) ?_
  refine c_run rfl (w_none rfl) rfl (fun W H => d_fa rfl rfl tf40_4) ?_
  refine c_run rfl (w_none rfl) rfl (fun W H => d_ldmX (t.map u8v) rfl H rfl ta38 ts38 (by rw [len_thing hh ht]; decide) (thing_t hh ht)) ?_
  refine c_eff rfl (e_call (w_none rfl) rfl rfl Tryd.func28 rfl rfl rfl (refInt (b := b) n _ (H.bs hb0) hn (by omega)) ?_)
  rintro _ W ⟨A7, c7, rfl, hc7, hd7, hn⟩
  replace H := H.new hn
  clear hn
  refine ⟨H.sub (by repeat (first | exact List.Sublist.refl _ | refine List.Sublist.cons_cons _ ?_ | refine List.Sublist.cons _ ?_)), ?_⟩
  refine c_eff rfl (e_call (w_none rfl) rfl rfl Tryd.func29 rfl rfl rfl (refBlob (b := b) (p := p) _ (H.bs hb0) (by omega) (H.bs hp) (by omega)) ?_)
  rintro _ W ⟨A8, c8, rfl, hc8, hd8, hn⟩
  replace H := H.new hn
  clear hn
  refine ⟨H.sub (by repeat (first | exact List.Sublist.refl _ | refine List.Sublist.cons_cons _ ?_ | refine List.Sublist.cons _ ?_)), ?_⟩
  refine c_eff rfl (e_call (w_none rfl) rfl rfl Tryd.func30 rfl rfl rfl (refHash (b := b) (h := h) _ (H.bs hb0) (by omega) hh) ?_)
  rintro _ W ⟨A9, c9, rfl, hc9, hd9, hn⟩
  replace H := H.new hn
  clear hn
  refine ⟨H.sub (by repeat (first | exact List.Sublist.refl _ | refine List.Sublist.cons_cons _ ?_ | refine List.Sublist.cons _ ?_)), ?_⟩
  refine c_eff rfl (e_call (w_none rfl) rfl rfl Tryd.func31 rfl rfl rfl (refTag (b := b) (h := t) _ (H.bs hb0) (by omega) ht) ?_)
  rintro _ W ⟨A10, c10, rfl, hc10, hd10, hn⟩
  replace H := H.new hn
  clear hn
  refine ⟨H.sub (by repeat (first | exact List.Sublist.refl _ | refine List.Sublist.cons_cons _ ?_ | refine List.Sublist.cons _ ?_)), ?_⟩
  refine c_eff rfl (e_bsl (xs := [.tmp 51, .tmp 55, .tmp 59, .tmp 63]) (vals := [.slice _ _ _, .slice _ _ _, .slice _ _ _, .slice _ _ _]) (vs := [.slice _ _ _, .slice _ _ _, .slice _ _ _, .slice _ _ _]) (w_none rfl) rfl rfl rfl rfl rfl rfl tu45 ts23 ty23 rfl rfl rfl H ?_)
  clear H; intro gw W H
  refine ⟨H.sub (by repeat (first | exact List.Sublist.refl _ | refine List.Sublist.cons_cons _ ?_ | refine List.Sublist.cons _ ?_)), ?_⟩
  refine c_run rfl (w_none rfl) rfl (fun W H => as_s rfl rfl) ?_
  refine c_nil ?_
  refine k_seq ?_
  refine k_seq ?_
  refine k_region ?_
  refine s_run (w_none rfl) rfl (as_i rfl rfl) ?_
  refine l_nil ?_
  refine k_block ?_
  refine k_unr (k_one ?_)
  refine k_seq ?_
  refine k_seq ?_
  refine k_region ?_
  refine s_run (w_none rfl) rfl (mv_i rfl rfl) ?_
  refine s_run (w_none rfl) rfl (mv_s rfl rfl) ?_
  refine s_run (w_none rfl) rfl (d_len rfl rfl tu45) ?_
  refine s_run (w_none rfl) rfl (d_lt rfl rfl rfl) ?_
  refine l_nil ?_
  refine k_condT rfl (by first | (simp; done) | (simp; omega)) ?_
  refine k_skip ?_
  refine k_seq ?_
  refine k_block ?_
  refine k_seq ?_
  refine k_seq ?_
  refine k_draw [(0, true), (1, true), (2, true), (3, true), (4, true), (5, true), (6, true), (7, true), (8, false), (9, true)] _ (by kernel_rfl) (by kernel_rfl) H (.refl _) ?_
  clear H; intro W H
  refine c_run rfl (w_none rfl) rfl (fun W H => mv_s rfl rfl) ?_
  refine c_run rfl (w_none rfl) rfl (fun W H => mv_i rfl rfl) ?_
  refine c_run rfl (w_none rfl) rfl (fun W H => d_iaS rfl (rd_blk (H.blk (g := gr)) rfl) rfl rfl (q := 0) rfl (by decide) tu45 ts23) ?_
  refine c_run rfl (w_none rfl) rfl (fun W H => d_ld rfl H rfl ta23 rfl) ?_
  refine c_run rfl (w_none rfl) rfl (fun W H => mv_s rfl rfl) ?_
  refine c_run rfl (w_none rfl) rfl (fun W H => mv_i rfl rfl) ?_
  refine c_run rfl (w_none rfl) rfl (fun W H => d_iaS rfl (rd_blk (H.blk (g := gw)) rfl) rfl rfl (q := 0) rfl (by decide) tu45 ts23) ?_
  refine c_run rfl (w_none rfl) rfl (fun W H => d_ld rfl H rfl ta23 rfl) ?_
  refine c_eff rfl (e_call (w_none rfl) rfl rfl Tryd.func22 rfl rfl rfl (sameBytes _ _ (b ++ Pk.int (Pk.toU n)) (b ++ Pk.int (Pk.toU n)) _ (H.rowbs (A := A3) rfl) (H.rowbs (A := A7) rfl)) ?_)
  rw [decide_eq_true rfl]
  rintro _ W ⟨rfl, hb⟩
  replace H := H.below hb
  clear hb
  refine ⟨H.sub (by repeat (first | exact List.Sublist.refl _ | refine List.Sublist.cons_cons _ ?_ | refine List.Sublist.cons _ ?_)), ?_⟩
  refine c_run rfl (w_none rfl) rfl (fun W H => d_not rfl rfl) ?_
  refine c_nil ?_
  refine k_condF rfl (by first | (simp; done) | (simp; omega)) ?_
  refine k_skip ?_
  refine k_region ?_
  refine s_run (w_none rfl) rfl (mv_s rfl rfl) ?_
  refine s_run (w_none rfl) rfl (mv_i rfl rfl) ?_
  refine s_run (w_none rfl) rfl (d_iaS rfl (rd_blk (H.blk (g := gr)) rfl) rfl rfl (q := 0) rfl (by decide) tu45 ts23) ?_
  refine s_run (w_none rfl) rfl (d_ld rfl H rfl ta23 rfl) ?_
  refine s_eff (e_call (w_none rfl) rfl rfl Tryd.func32 rfl rfl rfl (spoilAll _ (H.get (f := Fact.row 5 1 (.slice A3 (b ++ Pk.int (Pk.toU n)).length c3) (b ++ Pk.int (Pk.toU n)).length ((b ++ Pk.int (Pk.toU n)).map u8v))) (by simp; omega)) ?_)
  rintro _ W ⟨rfl, ⟨ys3, hys⟩, hf⟩
  replace H := H.mut (f := Fact.row 5 1 (.slice A3 (b ++ Pk.int (Pk.toU n)).length c3) (b ++ Pk.int (Pk.toU n)).length ((b ++ Pk.int (Pk.toU n)).map u8v)) (f' := Fact.row 5 1 (.slice A3 (b ++ Pk.int (Pk.toU n)).length c3) (b ++ Pk.int (Pk.toU n)).length (ys3.map u8v)) hf hys (fun _ h => h)
  clear hys hf
  refine l_nil ?_
  refine k_nil ?_
  refine b_end ?_
  refine k_region ?_
  refine s_run (w_none rfl) rfl (mv_i rfl rfl) ?_
  refine s_run (w_none rfl) rfl (d_add rfl rfl rfl (by omega)) ?_
  refine s_run (w_none rfl) rfl (as_i rfl rfl) ?_
  refine l_nil ?_
  refine k_nil ?_
  refine k_next (hd_of (k_one ?_))
  refine k_seq ?_
  refine k_seq ?_
  refine k_region ?_
  refine s_run (w_none rfl) rfl (mv_i rfl rfl) ?_
  refine s_run (w_none rfl) rfl (mv_s rfl rfl) ?_
  refine s_run (w_none rfl) rfl (d_len rfl rfl tu45) ?_
  refine s_run (w_none rfl) rfl (d_lt rfl rfl rfl) ?_
  refine l_nil ?_
  refine k_condT rfl (by first | (simp; done) | (simp; omega)) ?_
  refine k_skip ?_
  refine k_seq ?_
  refine k_block ?_
  refine k_seq ?_
  refine k_seq ?_
  refine k_draw [(0, true), (1, true), (2, true), (3, true), (4, true), (5, true), (6, true), (7, true), (8, false), (9, true)] _ (by kernel_rfl) (by kernel_rfl) H (.refl _) ?_
  clear H; intro W H
  refine c_run rfl (w_none rfl) rfl (fun W H => mv_s rfl rfl) ?_
  refine c_run rfl (w_none rfl) rfl (fun W H => mv_i rfl rfl) ?_
  refine c_run rfl (w_none rfl) rfl (fun W H => d_iaS rfl (rd_blk (H.blk (g := gr)) rfl) rfl rfl (q := 1) rfl (by decide) tu45 ts23) ?_
  refine c_run rfl (w_none rfl) rfl (fun W H => d_ld rfl H rfl ta23 rfl) ?_
  refine c_run rfl (w_none rfl) rfl (fun W H => mv_s rfl rfl) ?_
  refine c_run rfl (w_none rfl) rfl (fun W H => mv_i rfl rfl) ?_
  refine c_run rfl (w_none rfl) rfl (fun W H => d_iaS rfl (rd_blk (H.blk (g := gw)) rfl) rfl rfl (q := 1) rfl (by decide) tu45 ts23) ?_
  refine c_run rfl (w_none rfl) rfl (fun W H => d_ld rfl H rfl ta23 rfl) ?_
  refine c_eff rfl (e_call (w_none rfl) rfl rfl Tryd.func22 rfl rfl rfl (sameBytes _ _ (b ++ (Pk.int p.length ++ p)) (b ++ (Pk.int p.length ++ p)) _ (H.rowbs (A := A4) rfl) (H.rowbs (A := A8) rfl)) ?_)
  rw [decide_eq_true rfl]
  rintro _ W ⟨rfl, hb⟩
  replace H := H.below hb
  clear hb
  refine ⟨H.sub (by repeat (first | exact List.Sublist.refl _ | refine List.Sublist.cons_cons _ ?_ | refine List.Sublist.cons _ ?_)), ?_⟩
  refine c_run rfl (w_none rfl) rfl (fun W H => d_not rfl rfl) ?_
  refine c_nil ?_
  refine k_condF rfl (by first | (simp; done) | (simp; omega)) ?_
  refine k_skip ?_
  refine k_region ?_
  refine s_run (w_none rfl) rfl (mv_s rfl rfl) ?_
  refine s_run (w_none rfl) rfl (mv_i rfl rfl) ?_
  refine s_run (w_none rfl) rfl (d_iaS rfl (rd_blk (H.blk (g := gr)) rfl) rfl rfl (q := 1) rfl (by decide) tu45 ts23) ?_
  refine s_run (w_none rfl) rfl (d_ld rfl H rfl ta23 rfl) ?_
  refine s_eff (e_call (w_none rfl) rfl rfl Tryd.func32 rfl rfl rfl (spoilAll _ (H.get (f := Fact.row 5 1 (.slice A4 (b ++ (Pk.int p.length ++ p)).length c4) (b ++ (Pk.int p.length ++ p)).length ((b ++ (Pk.int p.length ++ p)).map u8v))) (by simp; omega)) ?_)
  rintro _ W ⟨rfl, ⟨ys4, hys⟩, hf⟩
  replace H := H.mut (f := Fact.row 5 1 (.slice A4 (b ++ (Pk.int p.length ++ p)).length c4) (b ++ (Pk.int p.length ++ p)).length ((b ++ (Pk.int p.length ++ p)).map u8v)) (f' := Fact.row 5 1 (.slice A4 (b ++ (Pk.int p.length ++ p)).length c4) (b ++ (Pk.int p.length ++ p)).length (ys4.map u8v)) hf hys (fun _ h => h)
  clear hys hf
  refine l_nil ?_
  refine k_nil ?_
  refine b_end ?_
  refine k_region ?_
  refine s_run (w_none rfl) rfl (mv_i rfl rfl) ?_
  refine s_run (w_none rfl) rfl (d_add rfl rfl rfl (by omega)) ?_
  refine s_run (w_none rfl) rfl (as_i rfl rfl) ?_
  refine l_nil ?_
  refine k_nil ?_
  refine k_next (hd_of (k_one ?_))
  refine k_seq ?_
  refine k_seq ?_
  refine k_region ?_
  refine s_run (w_none rfl) rfl (mv_i rfl rfl) ?_
  refine s_run (w_none rfl) rfl (mv_s rfl rfl) ?_
  refine s_run (w_none rfl) rfl (d_len rfl rfl tu45) ?_
  refine s_run (w_none rfl) rfl (d_lt rfl rfl rfl) ?_
  refine l_nil ?_
  refine k_condT rfl (by first | (simp; done) | (simp; omega)) ?_
  refine k_skip ?_
  refine k_seq ?_
  refine k_block ?_
  refine k_seq ?_
  refine k_seq ?_
  refine k_draw [(0, true), (1, true), (2, true), (3, true), (4, true), (5, true), (6, true), (7, true), (8, false), (9, true)] _ (by kernel_rfl) (by kernel_rfl) H (.refl _) ?_
  clear H; intro W H
  refine c_run rfl (w_none rfl) rfl (fun W H => mv_s rfl rfl) ?_
  refine c_run rfl (w_none rfl) rfl (fun W H => mv_i rfl rfl) ?_
  refine c_run rfl (w_none rfl) rfl (fun W H => d_iaS rfl (rd_blk (H.blk (g := gr)) rfl) rfl rfl (q := 2) rfl (by decide) tu45 ts23) ?_
  refine c_run rfl (w_none rfl) rfl (fun W H => d_ld rfl H rfl ta23 rfl) ?_
  refine c_run rfl (w_none rfl) rfl (fun W H => mv_s rfl rfl) ?_
  refine c_run rfl (w_none rfl) rfl (fun W H => mv_i rfl rfl) ?_
  refine c_run rfl (w_none rfl) rfl (fun W H => d_iaS rfl (rd_blk (H.blk (g := gw)) rfl) rfl rfl (q := 2) rfl (by decide) tu45 ts23) ?_
  refine c_run rfl (w_none rfl) rfl (fun W H => d_ld rfl H rfl ta23 rfl) ?_
  refine c_eff rfl (e_call (w_none rfl) rfl rfl Tryd.func22 rfl rfl rfl (sameBytes _ _ (b ++ h) (b ++ h) _ (H.rowbs (A := A5) rfl) (H.rowbs (A := A9) rfl)) ?_)
  rw [decide_eq_true rfl]
  rintro _ W ⟨rfl, hb⟩
  replace H := H.below hb
  clear hb
  refine ⟨H.sub (by repeat (first | exact List.Sublist.refl _ | refine List.Sublist.cons_cons _ ?_ | refine List.Sublist.cons _ ?_)), ?_⟩
  refine c_run rfl (w_none rfl) rfl (fun W H => d_not rfl rfl) ?_
  refine c_nil ?_
  refine k_condF rfl (by first | (simp; done) | (simp; omega)) ?_
  refine k_skip ?_
  refine k_region ?_
  refine s_run (w_none rfl) rfl (mv_s rfl rfl) ?_
  refine s_run (w_none rfl) rfl (mv_i rfl rfl) ?_
  refine s_run (w_none rfl) rfl (d_iaS rfl (rd_blk (H.blk (g := gr)) rfl) rfl rfl (q := 2) rfl (by decide) tu45 ts23) ?_
  refine s_run (w_none rfl) rfl (d_ld rfl H rfl ta23 rfl) ?_
  refine s_eff (e_call (w_none rfl) rfl rfl Tryd.func32 rfl rfl rfl (spoilAll _ (H.get (f := Fact.row 5 1 (.slice A5 (b ++ h).length c5) (b ++ h).length ((b ++ h).map u8v))) (by simp; omega)) ?_)
  rintro _ W ⟨rfl, ⟨ys5, hys⟩, hf⟩
  replace H := H.mut (f := Fact.row 5 1 (.slice A5 (b ++ h).length c5) (b ++ h).length ((b ++ h).map u8v)) (f' := Fact.row 5 1 (.slice A5 (b ++ h).length c5) (b ++ h).length (ys5.map u8v)) hf hys (fun _ h => h)
  clear hys hf
  refine l_nil ?_
  refine k_nil ?_
  refine b_end ?_
  refine k_region ?_
  refine s_run (w_none rfl) rfl (mv_i rfl rfl) ?_
  refine s_run (w_none rfl) rfl (d_add rfl rfl rfl (by omega)) ?_
  refine s_run (w_none rfl) rfl (as_i rfl rfl) ?_
  refine l_nil ?_
  refine k_nil ?_
  refine k_next (hd_of (k_one ?_))
  refine k_seq ?_
  refine k_seq ?_
  refine k_region ?_
  refine s_run (w_none rfl) rfl (mv_i rfl rfl) ?_
  refine s_run (w_none rfl) rfl (mv_s rfl rfl) ?_
  refine s_run (w_none rfl) rfl (d_len rfl rfl tu45) ?_
  refine s_run (w_none rfl) rfl (d_lt rfl rfl rfl) ?_
  refine l_nil ?_
  refine k_condT rfl (by first | (simp; done) | (simp; omega)) ?_
  refine k_skip ?_
  refine k_seq ?_
  refine k_block ?_
  refine k_seq ?_
  refine k_seq ?_
  refine k_draw [(0, true), (1, true), (2, true), (3, true), (4, true), (5, true), (6, true), (7, true), (8, false), (9, true)] _ (by kernel_rfl) (by kernel_rfl) H (.refl _) ?_
  clear H; intro W H
  refine c_run rfl (w_none rfl) rfl (fun W H => mv_s rfl rfl) ?_
  refine c_run rfl (w_none rfl) rfl (fun W H => mv_i rfl rfl) ?_
  refine c_run rfl (w_none rfl) rfl (fun W H => d_iaS rfl (rd_blk (H.blk (g := gr)) rfl) rfl rfl (q := 3) rfl (by decide) tu45 ts23) ?_
  refine c_run rfl (w_none rfl) rfl (fun W H => d_ld rfl H rfl ta23 rfl) ?_
  refine c_run rfl (w_none rfl) rfl (fun W H => mv_s rfl rfl) ?_
  refine c_run rfl (w_none rfl) rfl (fun W H => mv_i rfl rfl) ?_
  refine c_run rfl (w_none rfl) rfl (fun W H => d_iaS rfl (rd_blk (H.blk (g := gw)) rfl) rfl rfl (q := 3) rfl (by decide) tu45 ts23) ?_
  refine c_run rfl (w_none rfl) rfl (fun W H => d_ld rfl H rfl ta23 rfl) ?_
  refine c_eff rfl (e_call (w_none rfl) rfl rfl Tryd.func22 rfl rfl rfl (sameBytes _ _ (b ++ t) (b ++ t) _ (H.rowbs (A := A6) rfl) (H.rowbs (A := A10) rfl)) ?_)
  rw [decide_eq_true rfl]
  rintro _ W ⟨rfl, hb⟩
  replace H := H.below hb
  clear hb
  refine ⟨H.sub (by repeat (first | exact List.Sublist.refl _ | refine List.Sublist.cons_cons _ ?_ | refine List.Sublist.cons _ ?_)), ?_⟩
  refine c_run rfl (w_none rfl) rfl (fun W H => d_not rfl rfl) ?_
  refine c_nil ?_
  refine k_condF rfl (by first | (simp; done) | (simp; omega)) ?_
  refine k_skip ?_
  refine k_region ?_
  refine s_run (w_none rfl) rfl (mv_s rfl rfl) ?_
  refine s_run (w_none rfl) rfl (mv_i rfl rfl) ?_
  refine s_run (w_none rfl) rfl (d_iaS rfl (rd_blk (H.blk (g := gr)) rfl) rfl rfl (q := 3) rfl (by decide) tu45 ts23) ?_
  refine s_run (w_none rfl) rfl (d_ld rfl H rfl ta23 rfl) ?_
  refine s_eff (e_call (w_none rfl) rfl rfl Tryd.func32 rfl rfl rfl (spoilAll _ (H.get (f := Fact.row 5 1 (.slice A6 (b ++ t).length c6) (b ++ t).length ((b ++ t).map u8v))) (by simp; omega)) ?_)
  rintro _ W ⟨rfl, ⟨ys6, hys⟩, hf⟩
  replace H := H.mut (f := Fact.row 5 1 (.slice A6 (b ++ t).length c6) (b ++ t).length ((b ++ t).map u8v)) (f' := Fact.row 5 1 (.slice A6 (b ++ t).length c6) (b ++ t).length (ys6.map u8v)) hf hys (fun _ h => h)
  clear hys hf
  refine l_nil ?_
  refine k_nil ?_
  refine b_end ?_
  refine k_region ?_
  refine s_run (w_none rfl) rfl (mv_i rfl rfl) ?_
  refine s_run (w_none rfl) rfl (d_add rfl rfl rfl (by omega)) ?_
  refine s_run (w_none rfl) rfl (as_i rfl rfl) ?_
  refine l_nil ?_
  refine k_nil ?_
  refine k_next (hd_of (k_one ?_))
  refine k_seq ?_
  refine k_seq ?_
  refine k_region ?_
  refine s_run (w_none rfl) rfl (mv_i rfl rfl) ?_
  refine s_run (w_none rfl) rfl (mv_s rfl rfl) ?_
  refine s_run (w_none rfl) rfl (d_len rfl rfl tu45) ?_
  refine s_run (w_none rfl) rfl (d_lt rfl rfl rfl) ?_
  refine l_nil ?_
  refine k_condF rfl (by first | (simp; done) | (simp; omega)) ?_
  refine k_exit ?_
  refine x_then (x_then ?_)
  refine x_hit ?_
  refine k_seq ?_
  refine k_region ?_
  refine s_run (w_none rfl) rfl (mv_s rfl rfl) ?_
  refine s_run (w_none rfl) rfl (mv_s rfl rfl) ?_
  refine s_eff (e_call (w_none rfl) rfl rfl Tryd.func33 rfl rfl rfl (kept _ (H.rowbs (A := A1) (l := b ++ marks 5) rfl) (H.bs hb0) rfl (by omega)) ?_)
  rintro _ W ⟨rfl, hb⟩
  replace H := H.below hb
  clear hb
  refine s_run (w_none rfl) rfl (mv_bx (c := true) rfl rfl (rfl)) ?_
  refine s_run (w_g rfl rfl rfl rfl) rfl (mv_s rfl rfl) ?_
  refine s_run (w_g rfl rfl rfl rfl) rfl (d_fa rfl rfl tf40_2) ?_
  refine s_run (w_g rfl rfl rfl rfl) rfl (d_ld rfl H rfl ta23 rfl) ?_
  refine s_eff (e_call (w_g rfl rfl rfl rfl) rfl rfl Tryd.func33 rfl rfl rfl (kept _ (H.rowbs (A := A2) (l := p ++ marks 5) rfl) (H.bs hp) rfl (by omega)) ?_)
  rintro _ W ⟨rfl, hb⟩
  replace H := H.below hb
  clear hb
  refine s_run (w_none rfl) rfl (d_pickT rfl rfl rfl) ?_
  refine s_run (w_none rfl) rfl (mv_bx (c := true) rfl rfl (rfl)) ?_
  refine s_eff (e_call (w_g rfl rfl rfl rfl) rfl rfl Tryd.func23 rfl rfl rfl (works03 _ (H.gat hG)) ?_)
  rintro _ W ⟨rfl, hb⟩
  replace H := H.below hb
  clear hb
  refine s_run (w_none rfl) rfl (d_pickT rfl rfl rfl) ?_
  refine s_run (w_none rfl) rfl (as_b rfl rfl) ?_
  refine l_nil ?_
  refine k_ret ?_
  repeat (first | refine r_then ?_ | refine r_blk ?_)
  exact q_ret (v := .bool _) rfl rfl ⟨_, rfl, rfl, H.under⟩
end Go.Proofs.YtejaohlijaodjaaDoor

namespace Go.Proofs.YtejaohlijaodjaaDoor
open Go Go.RowKit
attribute [local irreducible] wpList
theorem ce3 : Tryd.prog.cellsOf 3 = 1 := by kernel_rfl
theorem ce5 : Tryd.prog.cellsOf 5 = 1 := by kernel_rfl
theorem ce23 : Tryd.prog.cellsOf 23 = 1 := by kernel_rfl
theorem ce36 : Tryd.prog.cellsOf 36 = 32 := by kernel_rfl
theorem ce38 : Tryd.prog.cellsOf 38 = 16 := by kernel_rfl
theorem ce40 : Tryd.prog.cellsOf 40 = 51 := by kernel_rfl
theorem ce53 : Tryd.prog.cellsOf 53 = 2 := by kernel_rfl
theorem ce76 : Tryd.prog.cellsOf 76 = 3 := by kernel_rfl
theorem ce78 : Tryd.prog.cellsOf 78 = 41 := by kernel_rfl
structure DThing where
  kind : Int
  n : Int
  b : List UInt8
  h : List UInt8
  t : List UInt8
def zeroThing : DThing := ⟨0, 0, [], (List.replicate 32 0), (List.replicate 16 0)⟩
def RThing : Rep DThing := fun W S cs x => ∃ c0 c1 c2 c3 c4, cs = c0 ++ (c1 ++ (c2 ++ (c3 ++ (c4)))) ∧ RI W S c0 x.kind ∧ RI W S c1 x.n ∧ RB W S c2 x.b ∧ (RA 32) W S c3 x.h ∧ (RA 16) W S c4 x.t
theorem keeps_Thing : Keeps RThing := fun W W' S cs a h k => by
  obtain ⟨c0, c1, c2, c3, c4, h0, e0, e1, e2, e3, e4⟩ := h
  exact ⟨c0, c1, c2, c3, c4, h0, keeps_I _ _ _ _ _ e0 k, keeps_I _ _ _ _ _ e1 k, keeps_B _ _ _ _ _ e2 k, keeps_A _ _ _ _ _ e3 k, keeps_A _ _ _ _ _ e4 k⟩
set_option maxRecDepth 100000 in
theorem opens_Thing : Opens Tryd.prog 40 RThing := fun H enc W sp hd fuel cs x h => by
  obtain ⟨hl, hf⟩ := open_st Tryd.underlying40 h
  rw [ce40] at hl
  obtain ⟨m0, y0, h0⟩ := hf 0 _ rfl
  replace h0 : DataW.trod enc Tryd.prog W 0 sp hd m0 3 ((cs.drop 0).take (Tryd.prog.cellsOf 3)) = some y0 := h0
  rw [ce3] at h0
  obtain ⟨x0, r0⟩ := (opens_I tu3) _ _ _ _ _ _ _ _ h0
  obtain ⟨m1, y1, h1⟩ := hf 1 _ rfl
  replace h1 : DataW.trod enc Tryd.prog W 0 sp hd m1 3 ((cs.drop 1).take (Tryd.prog.cellsOf 3)) = some y1 := h1
  rw [ce3] at h1
  obtain ⟨x1, r1⟩ := (opens_I tu3) _ _ _ _ _ _ _ _ h1
  obtain ⟨m2, y2, h2⟩ := hf 2 _ rfl
  replace h2 : DataW.trod enc Tryd.prog W 0 sp hd m2 23 ((cs.drop 2).take (Tryd.prog.cellsOf 23)) = some y2 := h2
  rw [ce23] at h2
  obtain ⟨x2, r2⟩ := (opens_B tu23 tu5 ce5) _ _ _ _ _ _ _ _ h2
  obtain ⟨m3, y3, h3⟩ := hf 3 _ rfl
  replace h3 : DataW.trod enc Tryd.prog W 0 sp hd m3 36 ((cs.drop 3).take (Tryd.prog.cellsOf 36)) = some y3 := h3
  rw [ce36] at h3
  obtain ⟨x3, r3⟩ := (opens_A tu36 tu5 ce5 ce36) _ _ _ _ _ _ _ _ h3
  obtain ⟨m4, y4, h4⟩ := hf 4 _ rfl
  replace h4 : DataW.trod enc Tryd.prog W 0 sp hd m4 38 ((cs.drop 35).take (Tryd.prog.cellsOf 38)) = some y4 := h4
  rw [ce38] at h4
  obtain ⟨x4, r4⟩ := (opens_A tu38 tu5 ce5 ce38) _ _ _ _ _ _ _ _ h4
  have e := cuts_all [1, 1, 1, 32, 16] cs 0 (by rw [hl]; rfl)
  simp only [cutsOf, List.append_nil, Nat.zero_add, Nat.reduceAdd, List.drop_zero] at e
  simp only [List.drop_zero] at r0
  exact ⟨⟨x0, x1, x2, x3, x4⟩, _, _, _, _, _, e, r0, r1, r2, r3, r4⟩
theorem lens_Thing : Lens RThing 51 := fun W S cs a h => by
  obtain ⟨c0, c1, c2, c3, c4, h0, e0, e1, e2, e3, e4⟩ := h
  rw [h0]
  simp only [List.length_append, lens_I _ _ _ _ e0, lens_I _ _ _ _ e1, lens_B _ _ _ _ e2, lens_A _ _ _ _ e3, lens_A _ _ _ _ e4]
theorem sub_Thing_0 {c0 c1 c2 c3 c4 : List Value} (h0 : c0.length = 1) : sub (c0 ++ (c1 ++ (c2 ++ (c3 ++ (c4))))) 0 1 = c0 := by
  exact sub_head h0
theorem sub_Thing_1 {c0 c1 c2 c3 c4 : List Value} (h0 : c0.length = 1) (h1 : c1.length = 1) : sub (c0 ++ (c1 ++ (c2 ++ (c3 ++ (c4))))) 1 1 = c1 := by
  refine (sub_skip (k := 0) (m := 1) h0).trans ?_
  exact sub_head h1
theorem sub_Thing_2 {c0 c1 c2 c3 c4 : List Value} (h0 : c0.length = 1) (h1 : c1.length = 1) (h2 : c2.length = 1) : sub (c0 ++ (c1 ++ (c2 ++ (c3 ++ (c4))))) 2 1 = c2 := by
  refine (sub_skip (k := 1) (m := 1) h0).trans ?_
  refine (sub_skip (k := 0) (m := 1) h1).trans ?_
  exact sub_head h2
theorem sub_Thing_3 {c0 c1 c2 c3 c4 : List Value} (h0 : c0.length = 1) (h1 : c1.length = 1) (h2 : c2.length = 1) (h3 : c3.length = 32) : sub (c0 ++ (c1 ++ (c2 ++ (c3 ++ (c4))))) 3 32 = c3 := by
  refine (sub_skip (k := 2) (m := 32) h0).trans ?_
  refine (sub_skip (k := 1) (m := 32) h1).trans ?_
  refine (sub_skip (k := 0) (m := 32) h2).trans ?_
  exact sub_head h3
theorem sub_Thing_4 {c0 c1 c2 c3 c4 : List Value} (h0 : c0.length = 1) (h1 : c1.length = 1) (h2 : c2.length = 1) (h3 : c3.length = 32) (h4 : c4.length = 16) : sub (c0 ++ (c1 ++ (c2 ++ (c3 ++ (c4))))) 35 16 = c4 := by
  refine (sub_skip (k := 34) (m := 16) h0).trans ?_
  refine (sub_skip (k := 33) (m := 16) h1).trans ?_
  refine (sub_skip (k := 32) (m := 16) h2).trans ?_
  refine (sub_skip (k := 0) (m := 16) h3).trans ?_
  exact sub_all h4
structure DAsked where
  kind : Int
  most : Int
def zeroAsked : DAsked := ⟨0, 0⟩
def RAsked : Rep DAsked := fun W S cs x => ∃ c0 c1, cs = c0 ++ (c1) ∧ RI W S c0 x.kind ∧ RI W S c1 x.most
theorem keeps_Asked : Keeps RAsked := fun W W' S cs a h k => by
  obtain ⟨c0, c1, h0, e0, e1⟩ := h
  exact ⟨c0, c1, h0, keeps_I _ _ _ _ _ e0 k, keeps_I _ _ _ _ _ e1 k⟩
set_option maxRecDepth 100000 in
theorem opens_Asked : Opens Tryd.prog 53 RAsked := fun H enc W sp hd fuel cs x h => by
  obtain ⟨hl, hf⟩ := open_st Tryd.underlying53 h
  rw [ce53] at hl
  obtain ⟨m0, y0, h0⟩ := hf 0 _ rfl
  replace h0 : DataW.trod enc Tryd.prog W 0 sp hd m0 3 ((cs.drop 0).take (Tryd.prog.cellsOf 3)) = some y0 := h0
  rw [ce3] at h0
  obtain ⟨x0, r0⟩ := (opens_I tu3) _ _ _ _ _ _ _ _ h0
  obtain ⟨m1, y1, h1⟩ := hf 1 _ rfl
  replace h1 : DataW.trod enc Tryd.prog W 0 sp hd m1 3 ((cs.drop 1).take (Tryd.prog.cellsOf 3)) = some y1 := h1
  rw [ce3] at h1
  obtain ⟨x1, r1⟩ := (opens_I tu3) _ _ _ _ _ _ _ _ h1
  have e := cuts_all [1, 1] cs 0 (by rw [hl]; rfl)
  simp only [cutsOf, List.append_nil, Nat.zero_add, Nat.reduceAdd, List.drop_zero] at e
  simp only [List.drop_zero] at r0
  exact ⟨⟨x0, x1⟩, _, _, e, r0, r1⟩
theorem lens_Asked : Lens RAsked 2 := fun W S cs a h => by
  obtain ⟨c0, c1, h0, e0, e1⟩ := h
  rw [h0]
  simp only [List.length_append, lens_I _ _ _ _ e0, lens_I _ _ _ _ e1]
theorem sub_Asked_0 {c0 c1 : List Value} (h0 : c0.length = 1) : sub (c0 ++ (c1)) 0 1 = c0 := by
  exact sub_head h0
theorem sub_Asked_1 {c0 c1 : List Value} (h0 : c0.length = 1) (h1 : c1.length = 1) : sub (c0 ++ (c1)) 1 1 = c1 := by
  refine (sub_skip (k := 0) (m := 1) h0).trans ?_
  exact sub_all h1
structure DLeg where
  whereA : Int
  amount : Int
  untilA : Int
def zeroLeg : DLeg := ⟨0, 0, 0⟩
def RLeg : Rep DLeg := fun W S cs x => ∃ c0 c1 c2, cs = c0 ++ (c1 ++ (c2)) ∧ RI W S c0 x.whereA ∧ RI W S c1 x.amount ∧ RI W S c2 x.untilA
theorem keeps_Leg : Keeps RLeg := fun W W' S cs a h k => by
  obtain ⟨c0, c1, c2, h0, e0, e1, e2⟩ := h
  exact ⟨c0, c1, c2, h0, keeps_I _ _ _ _ _ e0 k, keeps_I _ _ _ _ _ e1 k, keeps_I _ _ _ _ _ e2 k⟩
set_option maxRecDepth 100000 in
theorem opens_Leg : Opens Tryd.prog 76 RLeg := fun H enc W sp hd fuel cs x h => by
  obtain ⟨hl, hf⟩ := open_st Tryd.underlying76 h
  rw [ce76] at hl
  obtain ⟨m0, y0, h0⟩ := hf 0 _ rfl
  replace h0 : DataW.trod enc Tryd.prog W 0 sp hd m0 3 ((cs.drop 0).take (Tryd.prog.cellsOf 3)) = some y0 := h0
  rw [ce3] at h0
  obtain ⟨x0, r0⟩ := (opens_I tu3) _ _ _ _ _ _ _ _ h0
  obtain ⟨m1, y1, h1⟩ := hf 1 _ rfl
  replace h1 : DataW.trod enc Tryd.prog W 0 sp hd m1 3 ((cs.drop 1).take (Tryd.prog.cellsOf 3)) = some y1 := h1
  rw [ce3] at h1
  obtain ⟨x1, r1⟩ := (opens_I tu3) _ _ _ _ _ _ _ _ h1
  obtain ⟨m2, y2, h2⟩ := hf 2 _ rfl
  replace h2 : DataW.trod enc Tryd.prog W 0 sp hd m2 3 ((cs.drop 2).take (Tryd.prog.cellsOf 3)) = some y2 := h2
  rw [ce3] at h2
  obtain ⟨x2, r2⟩ := (opens_I tu3) _ _ _ _ _ _ _ _ h2
  have e := cuts_all [1, 1, 1] cs 0 (by rw [hl]; rfl)
  simp only [cutsOf, List.append_nil, Nat.zero_add, Nat.reduceAdd, List.drop_zero] at e
  simp only [List.drop_zero] at r0
  exact ⟨⟨x0, x1, x2⟩, _, _, _, e, r0, r1, r2⟩
theorem lens_Leg : Lens RLeg 3 := fun W S cs a h => by
  obtain ⟨c0, c1, c2, h0, e0, e1, e2⟩ := h
  rw [h0]
  simp only [List.length_append, lens_I _ _ _ _ e0, lens_I _ _ _ _ e1, lens_I _ _ _ _ e2]
theorem sub_Leg_0 {c0 c1 c2 : List Value} (h0 : c0.length = 1) : sub (c0 ++ (c1 ++ (c2))) 0 1 = c0 := by
  exact sub_head h0
theorem sub_Leg_1 {c0 c1 c2 : List Value} (h0 : c0.length = 1) (h1 : c1.length = 1) : sub (c0 ++ (c1 ++ (c2))) 1 1 = c1 := by
  refine (sub_skip (k := 0) (m := 1) h0).trans ?_
  exact sub_head h1
theorem sub_Leg_2 {c0 c1 c2 : List Value} (h0 : c0.length = 1) (h1 : c1.length = 1) (h2 : c2.length = 1) : sub (c0 ++ (c1 ++ (c2))) 2 1 = c2 := by
  refine (sub_skip (k := 1) (m := 1) h0).trans ?_
  refine (sub_skip (k := 0) (m := 1) h1).trans ?_
  exact sub_all h2
structure DMessage where
  kind : Int
  id : Int
  code : Int
  pays : DLeg
  gets : DLeg
  hash : List UInt8
def zeroMessage : DMessage := ⟨0, 0, 0, zeroLeg, zeroLeg, (List.replicate 32 0)⟩
def RMessage : Rep DMessage := fun W S cs x => ∃ c0 c1 c2 c3 c4 c5, cs = c0 ++ (c1 ++ (c2 ++ (c3 ++ (c4 ++ (c5))))) ∧ RI W S c0 x.kind ∧ RI W S c1 x.id ∧ RI W S c2 x.code ∧ RLeg W S c3 x.pays ∧ RLeg W S c4 x.gets ∧ (RA 32) W S c5 x.hash
theorem keeps_Message : Keeps RMessage := fun W W' S cs a h k => by
  obtain ⟨c0, c1, c2, c3, c4, c5, h0, e0, e1, e2, e3, e4, e5⟩ := h
  exact ⟨c0, c1, c2, c3, c4, c5, h0, keeps_I _ _ _ _ _ e0 k, keeps_I _ _ _ _ _ e1 k, keeps_I _ _ _ _ _ e2 k, keeps_Leg _ _ _ _ _ e3 k, keeps_Leg _ _ _ _ _ e4 k, keeps_A _ _ _ _ _ e5 k⟩
set_option maxRecDepth 100000 in
theorem opens_Message : Opens Tryd.prog 78 RMessage := fun H enc W sp hd fuel cs x h => by
  obtain ⟨hl, hf⟩ := open_st Tryd.underlying78 h
  rw [ce78] at hl
  obtain ⟨m0, y0, h0⟩ := hf 0 _ rfl
  replace h0 : DataW.trod enc Tryd.prog W 0 sp hd m0 3 ((cs.drop 0).take (Tryd.prog.cellsOf 3)) = some y0 := h0
  rw [ce3] at h0
  obtain ⟨x0, r0⟩ := (opens_I tu3) _ _ _ _ _ _ _ _ h0
  obtain ⟨m1, y1, h1⟩ := hf 1 _ rfl
  replace h1 : DataW.trod enc Tryd.prog W 0 sp hd m1 3 ((cs.drop 1).take (Tryd.prog.cellsOf 3)) = some y1 := h1
  rw [ce3] at h1
  obtain ⟨x1, r1⟩ := (opens_I tu3) _ _ _ _ _ _ _ _ h1
  obtain ⟨m2, y2, h2⟩ := hf 2 _ rfl
  replace h2 : DataW.trod enc Tryd.prog W 0 sp hd m2 3 ((cs.drop 2).take (Tryd.prog.cellsOf 3)) = some y2 := h2
  rw [ce3] at h2
  obtain ⟨x2, r2⟩ := (opens_I tu3) _ _ _ _ _ _ _ _ h2
  obtain ⟨m3, y3, h3⟩ := hf 3 _ rfl
  replace h3 : DataW.trod enc Tryd.prog W 0 sp hd m3 76 ((cs.drop 3).take (Tryd.prog.cellsOf 76)) = some y3 := h3
  rw [ce76] at h3
  obtain ⟨x3, r3⟩ := opens_Leg _ _ _ _ _ _ _ _ h3
  obtain ⟨m4, y4, h4⟩ := hf 4 _ rfl
  replace h4 : DataW.trod enc Tryd.prog W 0 sp hd m4 76 ((cs.drop 6).take (Tryd.prog.cellsOf 76)) = some y4 := h4
  rw [ce76] at h4
  obtain ⟨x4, r4⟩ := opens_Leg _ _ _ _ _ _ _ _ h4
  obtain ⟨m5, y5, h5⟩ := hf 5 _ rfl
  replace h5 : DataW.trod enc Tryd.prog W 0 sp hd m5 36 ((cs.drop 9).take (Tryd.prog.cellsOf 36)) = some y5 := h5
  rw [ce36] at h5
  obtain ⟨x5, r5⟩ := (opens_A tu36 tu5 ce5 ce36) _ _ _ _ _ _ _ _ h5
  have e := cuts_all [1, 1, 1, 3, 3, 32] cs 0 (by rw [hl]; rfl)
  simp only [cutsOf, List.append_nil, Nat.zero_add, Nat.reduceAdd, List.drop_zero] at e
  simp only [List.drop_zero] at r0
  exact ⟨⟨x0, x1, x2, x3, x4, x5⟩, _, _, _, _, _, _, e, r0, r1, r2, r3, r4, r5⟩
theorem lens_Message : Lens RMessage 41 := fun W S cs a h => by
  obtain ⟨c0, c1, c2, c3, c4, c5, h0, e0, e1, e2, e3, e4, e5⟩ := h
  rw [h0]
  simp only [List.length_append, lens_I _ _ _ _ e0, lens_I _ _ _ _ e1, lens_I _ _ _ _ e2, lens_Leg _ _ _ _ e3, lens_Leg _ _ _ _ e4, lens_A _ _ _ _ e5]
theorem sub_Message_0 {c0 c1 c2 c3 c4 c5 : List Value} (h0 : c0.length = 1) : sub (c0 ++ (c1 ++ (c2 ++ (c3 ++ (c4 ++ (c5)))))) 0 1 = c0 := by
  exact sub_head h0
theorem sub_Message_1 {c0 c1 c2 c3 c4 c5 : List Value} (h0 : c0.length = 1) (h1 : c1.length = 1) : sub (c0 ++ (c1 ++ (c2 ++ (c3 ++ (c4 ++ (c5)))))) 1 1 = c1 := by
  refine (sub_skip (k := 0) (m := 1) h0).trans ?_
  exact sub_head h1
theorem sub_Message_2 {c0 c1 c2 c3 c4 c5 : List Value} (h0 : c0.length = 1) (h1 : c1.length = 1) (h2 : c2.length = 1) : sub (c0 ++ (c1 ++ (c2 ++ (c3 ++ (c4 ++ (c5)))))) 2 1 = c2 := by
  refine (sub_skip (k := 1) (m := 1) h0).trans ?_
  refine (sub_skip (k := 0) (m := 1) h1).trans ?_
  exact sub_head h2
theorem sub_Message_3 {c0 c1 c2 c3 c4 c5 : List Value} (h0 : c0.length = 1) (h1 : c1.length = 1) (h2 : c2.length = 1) (h3 : c3.length = 3) : sub (c0 ++ (c1 ++ (c2 ++ (c3 ++ (c4 ++ (c5)))))) 3 3 = c3 := by
  refine (sub_skip (k := 2) (m := 3) h0).trans ?_
  refine (sub_skip (k := 1) (m := 3) h1).trans ?_
  refine (sub_skip (k := 0) (m := 3) h2).trans ?_
  exact sub_head h3
theorem sub_Message_4 {c0 c1 c2 c3 c4 c5 : List Value} (h0 : c0.length = 1) (h1 : c1.length = 1) (h2 : c2.length = 1) (h3 : c3.length = 3) (h4 : c4.length = 3) : sub (c0 ++ (c1 ++ (c2 ++ (c3 ++ (c4 ++ (c5)))))) 6 3 = c4 := by
  refine (sub_skip (k := 5) (m := 3) h0).trans ?_
  refine (sub_skip (k := 4) (m := 3) h1).trans ?_
  refine (sub_skip (k := 3) (m := 3) h2).trans ?_
  refine (sub_skip (k := 0) (m := 3) h3).trans ?_
  exact sub_head h4
theorem sub_Message_5 {c0 c1 c2 c3 c4 c5 : List Value} (h0 : c0.length = 1) (h1 : c1.length = 1) (h2 : c2.length = 1) (h3 : c3.length = 3) (h4 : c4.length = 3) (h5 : c5.length = 32) : sub (c0 ++ (c1 ++ (c2 ++ (c3 ++ (c4 ++ (c5)))))) 9 32 = c5 := by
  refine (sub_skip (k := 8) (m := 32) h0).trans ?_
  refine (sub_skip (k := 7) (m := 32) h1).trans ?_
  refine (sub_skip (k := 6) (m := 32) h2).trans ?_
  refine (sub_skip (k := 3) (m := 32) h3).trans ?_
  refine (sub_skip (k := 0) (m := 32) h4).trans ?_
  exact sub_all h5
end Go.Proofs.YtejaohlijaodjaaDoor
