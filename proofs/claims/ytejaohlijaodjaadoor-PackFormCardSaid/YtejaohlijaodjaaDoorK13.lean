/- PackReads. -/
import Derived.Test.YtejaohlijaodjaaDoorK12
namespace Go.Proofs.YtejaohlijaodjaaDoor
open Go Go.RowKit
attribute [local irreducible] wpList

theorem bothE {A0 AR : Option Addr} {n0 c0 r rr cR : Nat} {cur : List UInt8} {s : RS} {S : Nat → Prop} {kd mo : Int} {a : List Value} (ha : a = [.int .i64 kd, .int .i64 mo]) (w : World) (hR : (RdP 5 96 r A0 n0 c0 s).p w) (hQ : (RefR 101 rr AR cR cur s).p w) (hrr : ¬ RdT r A0 n0 c0 rr) (hok : Pk.Ok s) (hG : Gat w 0 formsC) (h0 : ¬ (fun g => g = rr ∨ RdT r A0 n0 c0 g) 0) (hB : Bs w S (.slice AR cur.length cR) cur) (hS : ∀ g, S g → ¬ (fun g => g = rr ∨ RdT r A0 n0 c0 g) g) (hl : cur.length ≤ 1000000000000) (hn0 : n0 ≤ 1000000000000) : Calls Tryd.prog 38 [.pointer (some ⟨r, 0, none⟩), .pointer (some ⟨rr, 0, none⟩), .agg a.toArray].toArray w (Ret (fun v' w' => v' = .bool true ∧ ∃ s', Pk.Ok s' ∧ (RdP 5 96 r A0 n0 c0 s').p w' ∧ (RefR 101 rr AR cR cur s').p w' ∧ Fr (fun g => g = rr ∨ RdT r A0 n0 c0 g) w w')) := by
  subst ha
  exact both w hR hQ hrr hok hG h0 hB hS hl hn0

theorem packReadsA {S SL : Nat → Prop} {v : Value} {b : List UInt8} {AL : Option Addr} {m cL : Nat} {l : List (Int × Int)} (w : World) (hG : Gat w 0 formsC) (hb : Bs w S v b) (hl2 : Rd w SL 2 AL m (askC l)) (hm : 4096 < b.length) : Calls Tryd.prog 5 [v, .slice AL m cL].toArray w (Ret (Is w (.bool true))) := by
  have hb0 := hb
  obtain ⟨A, c, rfl, _, _, _⟩ := hb.op
  obtain rfl : m = l.length := by have := hl2.1; rw [len_ask] at this; omega
  refine k_enter (l := [_, _]) Tryd.func5 rfl rfl ?_
  have H := St.start nT w
  refine k_seq ?_
  refine k_region ?_
  refine s_run (w_none rfl) rfl (as_b rfl rfl) ?_
  refine l_nil ?_
  refine k_seq ?_
  refine k_seq ?_
  refine k_region ?_
  refine s_run (w_none rfl) rfl (mv_s rfl rfl) ?_
  refine s_run (w_none rfl) rfl (d_len rfl rfl tu23) ?_
  refine s_run (w_none rfl) rfl (d_gt rfl rfl rfl) ?_
  refine l_nil ?_
  refine k_condT rfl (by simp; omega) ?_
  refine k_seq ?_
  refine k_region ?_
  refine s_eff (e_call (w_none rfl) rfl rfl Tryd.func23 rfl rfl rfl (works03 _ (H.gat hG)) ?_)
  rintro _ W ⟨rfl, hb⟩
  replace H := H.below hb
  clear hb
  refine s_run (w_none rfl) rfl (as_b rfl rfl) ?_
  refine l_nil ?_
  refine k_ret ?_
  repeat (first | refine r_then ?_ | refine r_blk ?_)
  exact q_ret (v := .bool _) rfl rfl ⟨_, rfl, rfl, H.under⟩

set_option maxHeartbeats 4000000 in
theorem packReadsB {S SL : Nat → Prop} {v : Value} {b : List UInt8} {AL : Option Addr} {m cL : Nat} {l : List (Int × Int)} (w : World) (hG : Gat w 0 formsC) (hb : Bs w S v b) (hl2 : Rd w SL 2 AL m (askC l)) (hm : b.length ≤ 4096) : Calls Tryd.prog 5 [v, .slice AL m cL].toArray w (Ret (Is w (.bool true))) := by
  have hb0 := hb
  obtain ⟨A, c, rfl, _, _, _⟩ := hb.op
  obtain rfl : m = l.length := by have := hl2.1; rw [len_ask] at this; omega
  have hl : b.length ≤ 1000000000000 := by omega
  refine k_enter (l := [_, _]) Tryd.func5 rfl rfl ?_
  have H := St.start nT w
  refine k_seq ?_
  refine k_region ?_
  refine s_run (w_none rfl) rfl (as_b rfl rfl) ?_
  refine l_nil ?_
  refine k_seq ?_
  refine k_seq ?_
  refine k_region ?_
  refine s_run (w_none rfl) rfl (mv_s rfl rfl) ?_
  refine s_run (w_none rfl) rfl (d_len rfl rfl tu23) ?_
  refine s_run (w_none rfl) rfl (d_gt rfl rfl rfl) ?_
  refine l_nil ?_
  refine k_condF rfl (by simp; omega) ?_
  refine k_skip ?_
  refine k_seq ?_
  refine k_region ?_
  refine s_run (w_none rfl) rfl (mv_s rfl rfl) ?_
  refine s_eff (e_call (w_none rfl) rfl rfl Tryd.func24 rfl rfl rfl (lentBytes _ _ _ (H.bs hb0) (by omega)) ?_)
  rintro _ W ⟨A1, c1, rfl, hc1, hd1, hn⟩
  replace H := H.new hn
  clear hn
  refine s_run (w_none rfl) rfl (as_s rfl rfl) ?_
  refine l_nil ?_
  refine k_seq ?_
  refine k_region ?_
  refine s_run (w_none rfl) rfl (mv_s rfl rfl) ?_
  refine s_run (w_none rfl) rfl (mv_s rfl rfl) ?_
  refine s_run (w_none rfl) rfl (d_len rfl rfl tu23) ?_
  refine s_run (w_none rfl) rfl (d_cutP rfl rfl (h := b.length) rfl (by have := hc1; rw [List.length_append] at this; omega) rfl tu23 ts5) ?_
  refine s_eff (e_call (w_none rfl) rfl rfl Tryd.func19 rfl rfl rfl (prgRead (l := b) _ (lent_pre (H.rowbs (A := A1) (l := b ++ marks 5) rfl) rfl) hl) ?_)
  rintro _ W ⟨r, A0, c0, rfl, hS⟩
  replace H := H.add hS
  clear hS
  simp only [List.cons_append, List.nil_append] at H
  refine s_run (w_none rfl) rfl (as_p rfl rfl) ?_
  refine l_nil ?_
  refine k_seq ?_
  refine k_region ?_
  refine s_run (w_none rfl) rfl (mv_s rfl rfl) ?_
  refine s_eff (e_call (w_none rfl) rfl rfl Tryd.func34 rfl rfl rfl (refRead (l := b) _ (H.bs hb0) hl) ?_)
  rintro _ W ⟨rr, AR, cR, rfl, hcR1, hcR2, hS⟩
  replace H := H.add hS
  clear hS
  simp only [List.cons_append, List.nil_append] at H
  refine s_run (w_none rfl) rfl (as_p rfl rfl) ?_
  refine l_nil ?_
  refine k_seq ?_
  refine k_seq ?_
  refine k_region ?_
  refine s_run (w_none rfl) rfl (mv_p rfl rfl) ?_
  refine s_run (w_none rfl) rfl (d_eqpn rfl rfl rfl (by kernel_rfl)) ?_
  refine s_run (w_none rfl) rfl (mv_bx (c := false) rfl rfl (rfl)) ?_
  refine s_run (w_g rfl rfl rfl rfl) rfl (mv_s rfl rfl) ?_
  refine s_run (w_g rfl rfl rfl rfl) rfl (mv_s rfl rfl) ?_
  refine s_eff (e_call (w_g rfl rfl rfl rfl) rfl rfl Tryd.func33 rfl rfl rfl (kept _ (H.rowbs (A := A1) (l := b ++ marks 5) rfl) (H.bs hb0) rfl (by omega)) ?_)
  rintro _ W ⟨rfl, hb⟩
  replace H := H.below hb
  clear hb
  refine s_run (w_g rfl rfl rfl rfl) rfl (d_not rfl rfl) ?_
  refine s_run (w_none rfl) rfl (d_pickF rfl rfl rfl) ?_
  refine l_nil ?_
  refine k_condF rfl (by first | (simp; done) | (simp; omega)) ?_
  refine k_skip ?_
  refine k_seq ?_
  refine k_region ?_
  refine s_run (w_none rfl) rfl (mv_s rfl rfl) ?_
  refine s_eff (e_call (w_none rfl) rfl rfl Tryd.func32 rfl rfl rfl (spoilAll _ (H.get (f := Fact.row 5 1 (.slice A1 (b ++ marks 5).length c1) (b ++ marks 5).length ((b ++ marks 5).map u8v))) (by rw [List.length_append, marks_len]; omega)) ?_)
  rintro _ W ⟨rfl, ⟨ys, hys⟩, hf⟩
  replace H := H.mut (f := Fact.row 5 1 (.slice A1 (b ++ marks 5).length c1) (b ++ marks 5).length ((b ++ marks 5).map u8v)) (f' := Fact.row 5 1 (.slice A1 (b ++ marks 5).length c1) (b ++ marks 5).length (ys.map u8v)) hf hys (fun _ h => h)
  clear hys hf
  refine l_nil ?_
  replace H := H.perm (.cons _ (.swap _ _ _))
  have hrr : ¬ RdT r A0 b.length c0 rr := (List.pairwise_cons.1 H.apart).1 _ (.head _) rr rfl
  replace H := H.two
  have hSS : ∀ g, (Value.slice AR b.length cR).ownBlock = some g → ¬ (fun g => g = rr ∨ RdT r A0 b.length c0 g) g := fun g hg ht => (List.pairwise_cons.1 H.apart).1 _ (.head _) g ht hg
  have h00 : ¬ (fun g => g = rr ∨ RdT r A0 b.length c0 g) 0 := fun ht => absurd ((H.own _ (.head _) 0 ht).1.resolve_left (fun h => h)) (by have := hG.1; omega)
  have hok0 : Pk.Ok (b, (0 : Int)) := ⟨fun h => absurd rfl h, by simp, by simp⟩
  refine k_seq ?_
  refine k_seq ?_
  refine k_region ?_
  refine s_run (w_none rfl) rfl (as_i rfl rfl) ?_
  refine l_nil ?_
  refine k_block ?_
  refine k_loop 32 [4, 8] (fun mm sl W => ∃ i : Nat, ∃ s : RS, l.length - i = mm ∧ sl = [(8, .int .i64 (i : Int))] ∧ (i ≤ l.length) ∧ (Pk.Ok s) ∧ St nT w W [Fact.two (RefR 101 rr AR cR b s) (RdP 5 96 r A0 b.length c0 s), Fact.row 5 1 (.slice AR b.length cR) b.length (b.map u8v), Fact.row 5 1 (.slice A1 (b ++ marks 5).length c1) (b ++ marks 5).length (ys.map u8v)]) _ _ ⟨0, (b, 0), rfl, rfl, Nat.zero_le _, hok0, H⟩ ⟨rfl, trivial⟩ (fun mm sl ρv W hJ => ?_)
  clear H; obtain ⟨i, s, rfl, rfl, hi, hok, H⟩ := hJ
  refine k_one ?_
  refine k_seq ?_
  refine k_seq ?_
  rcases Nat.lt_or_ge i l.length with hlt | hge
  · skip
    refine k_region ?_
    refine s_run (w_none rfl) rfl (mv_i rfl rfl) ?_
    refine s_run (w_none rfl) rfl (mv_s rfl rfl) ?_
    refine s_run (w_none rfl) rfl (d_len rfl rfl tu48) ?_
    refine s_run (w_none rfl) rfl (d_lt rfl rfl rfl) ?_
    refine s_run (w_none rfl) rfl (mv_bx (c := true) rfl rfl (by simp; omega)) ?_
    refine s_run (w_g rfl rfl rfl rfl) rfl (mv_i rfl rfl) ?_
    refine s_run (w_g rfl rfl rfl rfl) rfl (d_lt rfl rfl rfl) ?_
    refine s_run (w_none rfl) rfl (d_pickT rfl rfl rfl) ?_
    refine l_nil ?_
    refine k_cond rfl (fun hc39 => ?_) (fun hc39 => ?_)
    · first | (replace hc39 := of_decide_eq_true hc39) | simp at hc39
      refine k_skip ?_
      refine k_seq ?_
      refine k_block ?_
      refine k_seq ?_
      refine k_region ?_
      refine s_run (w_none rfl) rfl (mv_p rfl rfl) ?_
      refine s_eff (e_call (w_none rfl) rfl rfl Tryd.func35 rfl rfl rfl (prgLeft _ (H.get (f := Fact.two (RefR 101 rr AR cR b s) (RdP 5 96 r A0 b.length c0 s))).2) ?_)
      rintro _ W ⟨rfl, hb⟩
      replace H := H.below hb
      clear hb
      refine s_run (w_none rfl) rfl (mv_p rfl rfl) ?_
      refine s_eff (e_call (w_none rfl) rfl rfl Tryd.func36 rfl rfl rfl (refLeft _ (H.get (f := Fact.two (RefR 101 rr AR cR b s) (RdP 5 96 r A0 b.length c0 s))).1 hok hl) ?_)
      rintro _ W ⟨rfl, hb⟩
      replace H := H.below hb
      clear hb
      refine s_run (w_none rfl) rfl (d_ne rfl rfl rfl) ?_
      refine s_run (w_none rfl) rfl (mv_bx (c := false) rfl rfl (by simp)) ?_
      refine s_run (w_g rfl rfl rfl rfl) rfl (mv_p rfl rfl) ?_
      refine s_eff (e_call (w_g rfl rfl rfl rfl) rfl rfl Tryd.func21 rfl rfl rfl (prgEnd _ (H.get (f := Fact.two (RefR 101 rr AR cR b s) (RdP 5 96 r A0 b.length c0 s))).2) ?_)
      rintro _ W ⟨rfl, hb⟩
      replace H := H.below hb
      clear hb
      refine s_run (w_g rfl rfl rfl rfl) rfl (mv_p rfl rfl) ?_
      refine s_eff (e_call (w_g rfl rfl rfl rfl) rfl rfl Tryd.func37 rfl rfl rfl (refEnd _ (H.get (f := Fact.two (RefR 101 rr AR cR b s) (RdP 5 96 r A0 b.length c0 s))).1 hok hl) ?_)
      rintro _ W ⟨rfl, hb⟩
      replace H := H.below hb
      clear hb
      refine s_run (w_g rfl rfl rfl rfl) rfl (d_ne rfl rfl rfl) ?_
      refine s_run (w_none rfl) rfl (d_pickF rfl rfl rfl) ?_
      refine s_run (w_none rfl) rfl (mv_bx (c := false) rfl rfl (by simp)) ?_
      refine s_run (w_g rfl rfl rfl rfl) rfl (mv_p rfl rfl) ?_
      refine s_run (w_g rfl rfl rfl rfl) rfl (mv_p rfl rfl) ?_
      refine s_run (w_g rfl rfl rfl rfl) rfl (mv_s rfl rfl) ?_
      refine s_run (w_g rfl rfl rfl rfl) rfl (mv_i rfl rfl) ?_
      refine s_run (w_g rfl rfl rfl rfl) rfl (d_iaS rfl (H.rd hl2) rfl rfl (q := i) rfl hlt tu48 ts53) ?_
      refine s_run (w_g rfl rfl rfl rfl) rfl (d_ldmR rfl (H.rd hl2) rfl ta53 ts53 (by omega) (by rw [len_ask]; omega)) ?_
      refine s_eff (e_call (w_g rfl rfl rfl rfl) rfl rfl Tryd.func38 rfl rfl rfl (bothE (sub_ask l i hlt) _ (H.get (f := Fact.two (RefR 101 rr AR cR b s) (RdP 5 96 r A0 b.length c0 s))).2 (H.get (f := Fact.two (RefR 101 rr AR cR b s) (RdP 5 96 r A0 b.length c0 s))).1 hrr hok (H.gat hG) h00 (bs_own (H.get (f := Fact.row 5 1 (.slice AR b.length cR) b.length (b.map u8v))) rfl) hSS hl (by omega)) ?_)
      rintro _ W ⟨rfl, s', hok', hp, hq, hf⟩
      replace H := H.mut (f := Fact.two (RefR 101 rr AR cR b s) (RdP 5 96 r A0 b.length c0 s)) (f' := Fact.two (RefR 101 rr AR cR b s') (RdP 5 96 r A0 b.length c0 s')) hf ⟨hq, hp⟩ (fun _ h => h)
      clear hp hq hf
      refine s_run (w_g rfl rfl rfl rfl) rfl (d_not rfl rfl) ?_
      refine s_run (w_none rfl) rfl (d_pickF rfl rfl rfl) ?_
      refine s_run (w_none rfl) rfl (mv_bx (c := false) rfl rfl (by simp)) ?_
      refine s_run (w_g rfl rfl rfl rfl) rfl (mv_p rfl rfl) ?_
      refine s_eff (e_call (w_g rfl rfl rfl rfl) rfl rfl Tryd.func39 rfl rfl rfl (prgBad _ (H.get (f := Fact.two (RefR 101 rr AR cR b s') (RdP 5 96 r A0 b.length c0 s'))).2) ?_)
      rintro _ W ⟨rfl, hb⟩
      replace H := H.below hb
      clear hb
      refine s_run (w_g rfl rfl rfl rfl) rfl (mv_p rfl rfl) ?_
      refine s_eff (e_call (w_g rfl rfl rfl rfl) rfl rfl Tryd.func40 rfl rfl rfl (refBad _ (H.get (f := Fact.two (RefR 101 rr AR cR b s') (RdP 5 96 r A0 b.length c0 s'))).1) ?_)
      rintro _ W ⟨rfl, hb⟩
      replace H := H.below hb
      clear hb
      refine s_run (w_g rfl rfl rfl rfl) rfl (d_diff rfl rfl rfl tu4) ?_
      refine s_run (w_none rfl) rfl (d_pickF rfl rfl rfl) ?_
      refine l_nil ?_
      refine k_condF rfl (by simp) ?_
      refine k_skip ?_
      refine k_nil ?_
      refine b_end ?_
      refine k_region ?_
      refine s_run (w_none rfl) rfl (mv_i rfl rfl) ?_
      refine s_run (w_none rfl) rfl (d_add rfl rfl rfl (by omega)) ?_
      refine s_run (w_none rfl) rfl (as_i rfl rfl) ?_
      refine l_nil ?_
      refine k_nil ?_
      refine k_next ?_
      refine ⟨_, _, _, ?_, rfl, ?_, ?_, ⟨i + 1, s', rfl, rfl, by omega, hok', H⟩⟩
      · omega
      · repeat (first | ((with_reducible refine Eqo.updl _ Eqo.ovr ?_); exact rfl) | ((with_reducible refine Eqo.updl _ (Eqo.ovr2 ?_ ?_) ?_); rotate_left; exact rfl; exact rfl) | ((with_reducible refine Eqo.upd ?_ ?_); rotate_left; exact rfl))
      · refine ⟨?_, trivial⟩
        · exact vi (by omega)
    · first | (replace hc39 := of_decide_eq_false hc39) | simp at hc39
      refine k_exit ?_
      refine x_then (x_then ?_)
      refine x_hit ?_
      refine k_seq ?_
      refine k_region ?_
      refine s_run (w_none rfl) rfl (mv_p rfl rfl) ?_
      refine s_eff (e_call (w_none rfl) rfl rfl Tryd.func35 rfl rfl rfl (prgLeft _ (H.get (f := Fact.two (RefR 101 rr AR cR b s) (RdP 5 96 r A0 b.length c0 s))).2) ?_)
      rintro _ W ⟨rfl, hb⟩
      replace H := H.below hb
      clear hb
      refine s_run (w_none rfl) rfl (mv_p rfl rfl) ?_
      refine s_eff (e_call (w_none rfl) rfl rfl Tryd.func36 rfl rfl rfl (refLeft _ (H.get (f := Fact.two (RefR 101 rr AR cR b s) (RdP 5 96 r A0 b.length c0 s))).1 hok hl) ?_)
      rintro _ W ⟨rfl, hb⟩
      replace H := H.below hb
      clear hb
      refine s_run (w_none rfl) rfl (d_eq rfl rfl rfl) ?_
      refine s_run (w_none rfl) rfl (mv_bx (c := true) rfl rfl (by simp)) ?_
      refine s_run (w_g rfl rfl rfl rfl) rfl (mv_p rfl rfl) ?_
      refine s_eff (e_call (w_g rfl rfl rfl rfl) rfl rfl Tryd.func21 rfl rfl rfl (prgEnd _ (H.get (f := Fact.two (RefR 101 rr AR cR b s) (RdP 5 96 r A0 b.length c0 s))).2) ?_)
      rintro _ W ⟨rfl, hb⟩
      replace H := H.below hb
      clear hb
      refine s_run (w_g rfl rfl rfl rfl) rfl (mv_p rfl rfl) ?_
      refine s_eff (e_call (w_g rfl rfl rfl rfl) rfl rfl Tryd.func37 rfl rfl rfl (refEnd _ (H.get (f := Fact.two (RefR 101 rr AR cR b s) (RdP 5 96 r A0 b.length c0 s))).1 hok hl) ?_)
      rintro _ W ⟨rfl, hb⟩
      replace H := H.below hb
      clear hb
      refine s_run (w_g rfl rfl rfl rfl) rfl (d_eq rfl rfl rfl) ?_
      refine s_run (w_none rfl) rfl (d_pickT rfl rfl rfl) ?_
      refine s_run (w_none rfl) rfl (mv_bx (c := true) rfl rfl (by simp)) ?_
      refine s_eff (e_call (w_g rfl rfl rfl rfl) rfl rfl Tryd.func23 rfl rfl rfl (works03 _ (H.gat hG)) ?_)
      rintro _ W ⟨rfl, hb⟩
      replace H := H.below hb
      clear hb
      refine s_run (w_none rfl) rfl (d_pickT rfl rfl rfl) ?_
      refine s_run (w_none rfl) rfl (as_b rfl rfl) ?_
      refine l_nil ?_
      refine k_ret ?_
      repeat (first | refine r_then ?_ | refine r_blk ?_)
      exact q_ret (v := .bool _) rfl rfl ⟨_, rfl, rfl, H.under⟩
  · skip
    refine k_region ?_
    refine s_run (w_none rfl) rfl (mv_i rfl rfl) ?_
    refine s_run (w_none rfl) rfl (mv_s rfl rfl) ?_
    refine s_run (w_none rfl) rfl (d_len rfl rfl tu48) ?_
    refine s_run (w_none rfl) rfl (d_lt rfl rfl rfl) ?_
    refine s_run (w_none rfl) rfl (mv_bx (c := false) rfl rfl (by simp; omega)) ?_
    refine s_skip (w_gno rfl rfl rfl rfl rfl) rfl ?_
    refine s_skip (w_gno rfl rfl rfl rfl rfl) rfl ?_
    refine s_run (w_none rfl) rfl (d_pickF rfl rfl rfl) ?_
    refine l_nil ?_
    refine k_condF rfl (by first | (simp; done) | (simp; omega)) ?_
    refine k_exit ?_
    refine x_then (x_then ?_)
    refine x_hit ?_
    refine k_seq ?_
    refine k_region ?_
    refine s_run (w_none rfl) rfl (mv_p rfl rfl) ?_
    refine s_eff (e_call (w_none rfl) rfl rfl Tryd.func35 rfl rfl rfl (prgLeft _ (H.get (f := Fact.two (RefR 101 rr AR cR b s) (RdP 5 96 r A0 b.length c0 s))).2) ?_)
    rintro _ W ⟨rfl, hb⟩
    replace H := H.below hb
    clear hb
    refine s_run (w_none rfl) rfl (mv_p rfl rfl) ?_
    refine s_eff (e_call (w_none rfl) rfl rfl Tryd.func36 rfl rfl rfl (refLeft _ (H.get (f := Fact.two (RefR 101 rr AR cR b s) (RdP 5 96 r A0 b.length c0 s))).1 hok hl) ?_)
    rintro _ W ⟨rfl, hb⟩
    replace H := H.below hb
    clear hb
    refine s_run (w_none rfl) rfl (d_eq rfl rfl rfl) ?_
    refine s_run (w_none rfl) rfl (mv_bx (c := true) rfl rfl (by simp)) ?_
    refine s_run (w_g rfl rfl rfl rfl) rfl (mv_p rfl rfl) ?_
    refine s_eff (e_call (w_g rfl rfl rfl rfl) rfl rfl Tryd.func21 rfl rfl rfl (prgEnd _ (H.get (f := Fact.two (RefR 101 rr AR cR b s) (RdP 5 96 r A0 b.length c0 s))).2) ?_)
    rintro _ W ⟨rfl, hb⟩
    replace H := H.below hb
    clear hb
    refine s_run (w_g rfl rfl rfl rfl) rfl (mv_p rfl rfl) ?_
    refine s_eff (e_call (w_g rfl rfl rfl rfl) rfl rfl Tryd.func37 rfl rfl rfl (refEnd _ (H.get (f := Fact.two (RefR 101 rr AR cR b s) (RdP 5 96 r A0 b.length c0 s))).1 hok hl) ?_)
    rintro _ W ⟨rfl, hb⟩
    replace H := H.below hb
    clear hb
    refine s_run (w_g rfl rfl rfl rfl) rfl (d_eq rfl rfl rfl) ?_
    refine s_run (w_none rfl) rfl (d_pickT rfl rfl rfl) ?_
    refine s_run (w_none rfl) rfl (mv_bx (c := true) rfl rfl (by simp)) ?_
    refine s_eff (e_call (w_g rfl rfl rfl rfl) rfl rfl Tryd.func23 rfl rfl rfl (works03 _ (H.gat hG)) ?_)
    rintro _ W ⟨rfl, hb⟩
    replace H := H.below hb
    clear hb
    refine s_run (w_none rfl) rfl (d_pickT rfl rfl rfl) ?_
    refine s_run (w_none rfl) rfl (as_b rfl rfl) ?_
    refine l_nil ?_
    refine k_ret ?_
    repeat (first | refine r_then ?_ | refine r_blk ?_)
    exact q_ret (v := .bool _) rfl rfl ⟨_, rfl, rfl, H.under⟩
end Go.Proofs.YtejaohlijaodjaaDoor
