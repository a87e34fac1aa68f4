/- Both readers are asked. -/
import Derived.Test.YtejaohlijaodjaaDoorK11
import Derived.Test.YtejaohlijaodjaaDoorVQ
namespace Go.Proofs.YtejaohlijaodjaaDoor
open Go Go.RowKit
attribute [local irreducible] wpList

theorem spoilHeld {A0 : Option Addr} {n0 c0 r : Nat} {v : Value} {b : List UInt8} {s : RS} (w : World) (hR : (RdB 5 96 r A0 n0 c0 v b s).p w) (hn0 : n0 ≤ 1000000000000) : Calls Tryd.prog 32 [v].toArray w (Ret (fun v' w' => v' = .tuple #[] ∧ (RdP 5 96 r A0 n0 c0 s).p w' ∧ Fr (RdT r A0 n0 c0) w w')) := by
  obtain ⟨A, c, o, ys, h1, h2, h3, hL, ⟨B, cb, q, rfl, h6, h7, h8, h9, h10⟩, _⟩ := hR
  have ho := hL.2.1
  refine Calls.mono (spoil (q := q) w h2 h8 (by omega) (by omega)) (fun e w' h => ?_)
  obtain ⟨v', e1, e2, ⟨ys', hR', hl, _, hd⟩, hf⟩ := h
  exact ⟨v', e1, e2, RdB.spoilt A c ys ((hf.block r (blk_lt h1) h3).trans h1) h3 hL h9 hR' hl hd, hf.mono' (fun g hg => .inr hg)⟩

set_option maxHeartbeats 4000000 in
theorem both {A0 AR : Option Addr} {n0 c0 r rr cR : Nat} {cur : List UInt8} {s : RS} {S : Nat → Prop} {kd mo : Int} (w : World) (hR : (RdP 5 96 r A0 n0 c0 s).p w) (hQ : (RefR 101 rr AR cR cur s).p w) (hrr : ¬ RdT r A0 n0 c0 rr) (hok : Pk.Ok s) (hG : Gat w 0 formsC) (h0 : ¬ (fun g => g = rr ∨ RdT r A0 n0 c0 g) 0) (hB : Bs w S (.slice AR cur.length cR) cur) (hS : ∀ g, S g → ¬ (fun g => g = rr ∨ RdT r A0 n0 c0 g) g) (hl : cur.length ≤ 1000000000000) (hn0 : n0 ≤ 1000000000000) : Calls Tryd.prog 38 [.pointer (some ⟨r, 0, none⟩), .pointer (some ⟨rr, 0, none⟩), .agg [.int .i64 kd, .int .i64 mo].toArray].toArray w (Ret (fun v' w' => v' = .bool true ∧ ∃ s', Pk.Ok s' ∧ (RdP 5 96 r A0 n0 c0 s').p w' ∧ (RefR 101 rr AR cR cur s').p w' ∧ Fr (fun g => g = rr ∨ RdT r A0 n0 c0 g) w w')) := by
  have H0 := (St.begin (f := RdP 5 96 r A0 n0 c0 s) hR (RdB.lt hR)).old (f := RefR 101 rr AR cR cur s) hQ (fun g hg => by cases hg; exact refR_lt hQ) (fun x hx g hg hxg => by
    cases hg
    obtain rfl : x = RdP 5 96 r A0 n0 c0 s := by simpa using hx
    exact hrr hxg)
  refine k_enter (l := [_, _, _]) Tryd.func38 rfl rfl ?_
  have H := H0
  refine k_seq ?_
  refine k_region ?_
  refine s_eff (e_box (vs := [.int .i64 kd, .int .i64 mo]) (w_none rfl) rfl rfl rfl rfl H ?_)
  clear H; intro gt W H
  refine s_run (w_none rfl) rfl (as_b rfl rfl) ?_
  refine l_nil ?_
  refine k_seq ?_
  refine k_seq ?_
  refine k_region ?_
  refine s_run (w_none rfl) rfl (d_fa rfl rfl tf53_0) ?_
  refine s_run (w_none rfl) rfl (d_ld rfl H rfl ta3 rfl) ?_
  refine s_eff (e_call (w_none rfl) rfl rfl Tryd.func42 rfl rfl rfl (pick_any kd 5 _ (by omega)) ?_)
  rintro _ W ⟨rfl, hb⟩
  replace H := H.below hb
  clear hb
  refine l_nil ?_
  refine k_block ?_
  refine k_seq ?_
  refine k_region ?_
  refine s_run (w_none rfl) rfl (d_eq rfl rfl rfl) ?_
  refine s_run (w_none rfl) rfl (as_b rfl rfl) ?_
  refine l_nil ?_
  refine k_cond rfl (fun hc12 => ?_) (fun hc12 => ?_)
  · skip
    refine k_seq ?_
    refine k_region ?_
    refine s_run (w_none rfl) rfl (mv_p rfl rfl) ?_
    refine s_eff (e_call (w_none rfl) rfl rfl Tryd.func20 rfl rfl rfl (prgInt _ (H.get (f := RdP 5 96 r A0 n0 c0 s)) hok (H.gatT hG h0) (fun h => h0 (.inr h))) ?_)
    rintro _ W ⟨rfl, hp, hf⟩
    replace H := H.mut (f := RdP 5 96 r A0 n0 c0 s) (f' := RdP 5 96 r A0 n0 c0 (Pk.rInt s).2) hf hp (fun _ h => h)
    clear hp hf
    refine s_run (w_none rfl) rfl (mv_p rfl rfl) ?_
    refine s_eff (e_call (w_none rfl) rfl rfl Tryd.func75 rfl rfl rfl (refRdInt _ (H.get (f := RefR 101 rr AR cR cur s)) hok (H.bsT hB hS) (fun g h e => hS g h (.inl e)) hl) ?_)
    rintro _ W ⟨rfl, hp, hf⟩
    replace H := H.mut (f := RefR 101 rr AR cR cur s) (f' := RefR 101 rr AR cR cur (Pk.rInt s).2) hf hp (fun _ h => h)
    clear hp hf
    refine s_run (w_none rfl) rfl (d_eq rfl rfl rfl) ?_
    refine s_run (w_none rfl) rfl (as_b rfl rfl) ?_
    refine l_nil ?_
    refine k_ret ?_
    repeat (first | refine r_then ?_ | refine r_blk ?_)
    exact q_ret (v := .bool _) rfl rfl ⟨_, rfl, vb (by simp), (Pk.rInt s).2, Pk.ok_rInt hok, H.get (f := RdP 5 96 r A0 n0 c0 (Pk.rInt s).2), H.get (f := RefR 101 rr AR cR cur (Pk.rInt s).2), H.fr⟩
  · skip
    refine k_seq ?_
    refine k_region ?_
    refine s_run (w_none rfl) rfl (d_eq rfl rfl rfl) ?_
    refine s_run (w_none rfl) rfl (as_b rfl rfl) ?_
    refine l_nil ?_
    refine k_cond rfl (fun hc19 => ?_) (fun hc19 => ?_)
    · skip
      refine k_seq ?_
      refine k_draw [(0, true), (1, true), (2, true), (4, true), (5, true), (6, true), (3, false), (7, false), (8, true), (9, true)] [Fact.blk gt [.int .i64 kd, .int .i64 mo] 53] (by kernel_rfl) (by kernel_rfl) H (by repeat (first | exact List.Sublist.refl _ | exact List.nil_sublist _ | refine List.Sublist.cons_cons _ ?_ | refine List.Sublist.cons _ ?_)) ?_
      clear H; intro W H
      refine c_run rfl (w_none rfl) rfl (fun W H => mv_p rfl rfl) ?_
      refine c_run rfl (w_none rfl) rfl (fun W H => d_fa rfl rfl tf53_1) ?_
      refine c_run rfl (w_none rfl) rfl (fun W H => d_ld rfl H rfl ta3 rfl) ?_
      refine c_run rfl (w_none rfl) rfl (fun W H => mv_p rfl rfl) ?_
      refine c_run rfl (w_none rfl) rfl (fun W H => d_fa rfl rfl tf53_1) ?_
      refine c_run rfl (w_none rfl) rfl (fun W H => d_ld rfl H rfl ta3 rfl) ?_
      refine c_eff rfl (e_call (w_none rfl) rfl rfl Tryd.func47 rfl rfl rfl (prgCount _ (H.get (f := RdP 5 96 r A0 n0 c0 s)) hok (H.gatT hG h0) (fun h => h0 (.inr h))) ?_)
      rintro _ W ⟨rfl, hp, hf⟩
      replace H := H.mut (f := RdP 5 96 r A0 n0 c0 s) (f' := RdP 5 96 r A0 n0 c0 (Pk.rCount mo s).2) hf hp (fun _ h => h)
      clear hp hf
      refine ⟨H.sub (by repeat (first | exact List.Sublist.refl _ | refine List.Sublist.cons_cons _ ?_ | refine List.Sublist.cons _ ?_)), ?_⟩
      refine c_eff rfl (e_call (w_none rfl) rfl rfl Tryd.func76 rfl rfl rfl (refRdCount _ (H.get (f := RefR 101 rr AR cR cur s)) hok (H.bsT hB hS) (fun g h e => hS g h (.inl e)) hl) ?_)
      rintro _ W ⟨rfl, hp, hf⟩
      replace H := H.mut (f := RefR 101 rr AR cR cur s) (f' := RefR 101 rr AR cR cur (Pk.rCount mo s).2) hf hp (fun _ h => h)
      clear hp hf
      refine ⟨H.sub (by repeat (first | exact List.Sublist.refl _ | refine List.Sublist.cons_cons _ ?_ | refine List.Sublist.cons _ ?_)), ?_⟩
      refine c_run rfl (w_none rfl) rfl (fun W H => d_eq rfl rfl rfl) ?_
      refine c_run rfl (w_none rfl) rfl (fun W H => as_b rfl rfl) ?_
      refine c_nil ?_
      refine k_ret ?_
      repeat (first | refine r_then ?_ | refine r_blk ?_)
      exact q_ret (v := .bool _) rfl rfl ⟨_, rfl, vb (by simp), (Pk.rCount mo s).2, Pk.ok_rCount hok, H.get (f := RdP 5 96 r A0 n0 c0 (Pk.rCount mo s).2), H.get (f := RefR 101 rr AR cR cur (Pk.rCount mo s).2), H.fr⟩
    · skip
      refine k_seq ?_
      refine k_region ?_
      refine s_run (w_none rfl) rfl (d_eq rfl rfl rfl) ?_
      refine s_run (w_none rfl) rfl (as_b rfl rfl) ?_
      refine l_nil ?_
      refine k_cond rfl (fun hc30 => ?_) (fun hc30 => ?_)
      · skip
        refine k_seq ?_
        refine k_region ?_
        refine s_run (w_none rfl) rfl (mv_p rfl rfl) ?_
        refine s_run (w_none rfl) rfl (d_fa rfl rfl tf53_1) ?_
        refine s_run (w_none rfl) rfl (d_ld rfl H rfl ta3 rfl) ?_
        refine s_eff (e_call (w_none rfl) rfl rfl Tryd.func48 rfl rfl rfl (prgBlob _ (H.get (f := RdP 5 96 r A0 n0 c0 s)) hok (H.gatT hG h0) (fun h => h0 (.inr h))) ?_)
        rintro _ W ⟨hp1, hf1⟩
        obtain ⟨B1, d1, rfl⟩ := RdB.form hp1
        replace H := H.mut (f := RdP 5 96 r A0 n0 c0 s) (f' := RdB 5 96 r A0 n0 c0 (.slice B1 (List.length (Pk.rBlob mo s).1) d1) (Pk.rBlob mo s).1 (Pk.rBlob mo s).2) hf1 hp1 (fun _ h => h)
        clear hp1 hf1
        refine s_run (w_none rfl) rfl (as_s rfl rfl) ?_
        refine l_nil ?_
        refine k_seq ?_
        refine k_region ?_
        refine s_run (w_none rfl) rfl (mv_s rfl rfl) ?_
        refine s_run (w_none rfl) rfl (mv_p rfl rfl) ?_
        refine s_run (w_none rfl) rfl (d_fa rfl rfl tf53_1) ?_
        refine s_run (w_none rfl) rfl (d_ld rfl H rfl ta3 rfl) ?_
        refine s_eff (e_call (w_none rfl) rfl rfl Tryd.func77 rfl rfl rfl (refRdBlob _ (H.get (f := RefR 101 rr AR cR cur s)) hok (H.bsT hB hS) (fun g h e => hS g h (.inl e)) hl) ?_)
        rintro _ W ⟨⟨A2, c2, rfl, hc2, hd2, ho2, hf2, hfr2⟩, hr2⟩
        replace H := H.mutnew (f := RefR 101 rr AR cR cur s) (f' := RefR 101 rr AR cR cur (Pk.rBlob mo s).2) (fn := Fact.row 5 1 (.slice A2 (Pk.rBlob mo s).1.length c2) (Pk.rBlob mo s).1.length _) hfr2 hr2 (fun _ h => h) ho2 hf2
        clear hfr2 hr2 ho2 hf2
        refine s_eff (e_call (w_none rfl) rfl rfl Tryd.func22 rfl rfl rfl (sameBytes _ _ (Pk.rBlob mo s).1 (Pk.rBlob mo s).1 _ (RdB.bs (H.get (f := RdB 5 96 r A0 n0 c0 (.slice B1 (List.length (Pk.rBlob mo s).1) d1) (Pk.rBlob mo s).1 (Pk.rBlob mo s).2))) (H.rowbs (A := A2) rfl)) ?_)
        rintro _ W ⟨rfl, hb⟩
        replace H := H.below hb
        clear hb
        refine s_run (w_none rfl) rfl (as_b rfl rfl) ?_
        refine l_nil ?_
        refine k_seq ?_
        refine k_region ?_
        refine s_run (w_none rfl) rfl (mv_s rfl rfl) ?_
        refine s_eff (e_call (w_none rfl) rfl rfl Tryd.func32 rfl rfl rfl (spoilHeld _ (H.get (f := RdB 5 96 r A0 n0 c0 (.slice B1 (List.length (Pk.rBlob mo s).1) d1) (Pk.rBlob mo s).1 (Pk.rBlob mo s).2)) hn0) ?_)
        rintro _ W ⟨rfl, hp, hf⟩
        replace H := H.mut (f := RdB 5 96 r A0 n0 c0 (.slice B1 (List.length (Pk.rBlob mo s).1) d1) (Pk.rBlob mo s).1 (Pk.rBlob mo s).2) (f' := RdP 5 96 r A0 n0 c0 (Pk.rBlob mo s).2) hf hp (fun _ h => h)
        clear hp hf
        refine l_nil ?_
        refine k_seq ?_
        refine k_region ?_
        refine s_run (w_none rfl) rfl (mv_b rfl rfl) ?_
        refine s_run (w_none rfl) rfl (as_b rfl rfl) ?_
        refine l_nil ?_
        refine k_ret ?_
        repeat (first | refine r_then ?_ | refine r_blk ?_)
        exact q_ret (v := .bool _) rfl rfl ⟨_, rfl, vb (decide_eq_true rfl), (Pk.rBlob mo s).2, Pk.ok_next (Pk.ok_rCount hok), H.get (f := RdP 5 96 r A0 n0 c0 (Pk.rBlob mo s).2), H.get (f := RefR 101 rr AR cR cur (Pk.rBlob mo s).2), H.fr⟩
      · skip
        refine k_seq ?_
        refine k_region ?_
        refine s_run (w_none rfl) rfl (d_eq rfl rfl rfl) ?_
        refine s_run (w_none rfl) rfl (as_b rfl rfl) ?_
        refine l_nil ?_
        refine k_cond rfl (fun hc45 => ?_) (fun hc45 => ?_)
        · skip
          refine k_seq ?_
          refine k_region ?_
          refine s_run (w_none rfl) rfl (mv_p rfl rfl) ?_
          refine s_eff (e_call (w_none rfl) rfl rfl Tryd.func45 rfl rfl rfl (prgHash _ (H.get (f := RdP 5 96 r A0 n0 c0 s)) hok) ?_)
          rintro _ W ⟨rfl, hp, hf⟩
          replace H := H.mut (f := RdP 5 96 r A0 n0 c0 s) (f' := RdP 5 96 r A0 n0 c0 (Pk.rBytes 32 s).2) hf hp (fun _ h => h)
          clear hp hf
          refine s_run (w_none rfl) rfl (mv_p rfl rfl) ?_
          refine s_eff (e_call (w_none rfl) rfl rfl Tryd.func78 rfl rfl rfl (refRdHash _ (H.get (f := RefR 101 rr AR cR cur s)) hok (H.bsT hB hS) (fun g h e => hS g h (.inl e)) hl) ?_)
          rintro _ W ⟨rfl, hp, hf⟩
          replace H := H.mut (f := RefR 101 rr AR cR cur s) (f' := RefR 101 rr AR cR cur (Pk.rBytes 32 s).2) hf hp (fun _ h => h)
          clear hp hf
          refine s_run (w_none rfl) rfl (d_eqarr rfl rfl rfl tu36 tu5 ts5 (Pk.len_full Pk.next_len) (Pk.len_full Pk.next_len) (by kernel_rfl)) ?_
          refine s_run (w_none rfl) rfl (as_b rfl rfl) ?_
          refine l_nil ?_
          refine k_ret ?_
          repeat (first | refine r_then ?_ | refine r_blk ?_)
          exact q_ret (v := .bool _) rfl rfl ⟨_, rfl, vb (by simp), (Pk.rBytes 32 s).2, Pk.ok_next hok, H.get (f := RdP 5 96 r A0 n0 c0 (Pk.rBytes 32 s).2), H.get (f := RefR 101 rr AR cR cur (Pk.rBytes 32 s).2), H.fr⟩
        · skip
          refine k_skip ?_
          refine k_nil ?_
          refine b_end ?_
          refine k_seq ?_
          refine k_region ?_
          refine s_run (w_none rfl) rfl (mv_p rfl rfl) ?_
          refine s_eff (e_call (w_none rfl) rfl rfl Tryd.func46 rfl rfl rfl (prgTag _ (H.get (f := RdP 5 96 r A0 n0 c0 s)) hok) ?_)
          rintro _ W ⟨rfl, hp, hf⟩
          replace H := H.mut (f := RdP 5 96 r A0 n0 c0 s) (f' := RdP 5 96 r A0 n0 c0 (Pk.rBytes 16 s).2) hf hp (fun _ h => h)
          clear hp hf
          refine s_run (w_none rfl) rfl (mv_p rfl rfl) ?_
          refine s_eff (e_call (w_none rfl) rfl rfl Tryd.func79 rfl rfl rfl (refRdTag _ (H.get (f := RefR 101 rr AR cR cur s)) hok (H.bsT hB hS) (fun g h e => hS g h (.inl e)) hl) ?_)
          rintro _ W ⟨rfl, hp, hf⟩
          replace H := H.mut (f := RefR 101 rr AR cR cur s) (f' := RefR 101 rr AR cR cur (Pk.rBytes 16 s).2) hf hp (fun _ h => h)
          clear hp hf
          refine s_run (w_none rfl) rfl (d_eqarr rfl rfl rfl tu38 tu5 ts5 (Pk.len_full Pk.next_len) (Pk.len_full Pk.next_len) (by kernel_rfl)) ?_
          refine s_run (w_none rfl) rfl (as_b rfl rfl) ?_
          refine l_nil ?_
          refine k_ret ?_
          repeat (first | refine r_then ?_ | refine r_blk ?_)
          exact q_ret (v := .bool _) rfl rfl ⟨_, rfl, vb (by simp), (Pk.rBytes 16 s).2, Pk.ok_next hok, H.get (f := RdP 5 96 r A0 n0 c0 (Pk.rBytes 16 s).2), H.get (f := RefR 101 rr AR cR cur (Pk.rBytes 16 s).2), H.fr⟩
end Go.Proofs.YtejaohlijaodjaaDoor
