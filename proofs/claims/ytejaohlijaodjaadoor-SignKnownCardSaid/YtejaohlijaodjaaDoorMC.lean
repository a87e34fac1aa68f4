/- Texts of this claim, laid together: K12, K13, K14, K15, K16, K17, K18, OpA, OpB, F3, F4. -/
import Derived.Test.YtejaohlijaodjaaDoorMB
import Derived.Test.YtejaohlijaodjaaDoorMV
import Derived.Test.YtejaohlijaodjaaDoorProg
import Derived.Deep.SlicePairs
import Derived.KernelRfl
import Derived.Test.YtejaohlijaodjaaDoorMF
import Derived.ChangeSlices
set_option linter.unusedVariables false
set_option linter.unusedSimpArgs false

namespace Go.Proofs.YtejaohlijaodjaaDoor
open Go Go.RowKit
attribute [local irreducible] wpList

theorem spoilHeld {A0 : Option Addr} {n0 c0 r : Nat} {v : Value} {b : List UInt8} {s : RS} (w : World) (hR : (RdB 5 96 r A0 n0 c0 v b s).p w) (hn0 : n0 ≤ 1000000000000) : Calls Tryd.prog 32 [v].toArray w (Ret (fun v' w' => v' = .tuple #[] ∧ (RdP 5 96 r A0 n0 c0 s).p w' ∧ Fr (RdT r A0 n0 c0) w w')) := by
  obtain ⟨A, c, o, ys, h1, h2, h3, hL, ⟨B, cb, q, rfl, h6, h7, h8, h9, h10⟩, _⟩ := hR
  have ho := hL.2.1
  refine Calls.mono (spoil (q := q) w h2 h8 (by omega) (by omega)) (fun e w' h => ?_)
  obtain ⟨v', e1, e2, ⟨ys', hR', hl, _, hd⟩, hf⟩ := h
  exact ⟨v', e1, e2, RdB.spoilt A c ys ((hf.block r (blk_lt h1) h3).trans h1) h3 hL h9 hR' hl hd, hf.mono' (fun g hg => .inr hg)⟩

set_option maxHeartbeats 4000000 in
theorem both {A0 AR : Option Addr} {n0 c0 r rr cR : Nat} {cur : List UInt8} {s : RS} {S : Nat → Prop} {kd mo : Int} (w : World) (hR : (RdP 5 96 r A0 n0 c0 s).p w) (hQ : (RefR 101 rr AR cR cur s).p w) (hrr : ¬ RdT r A0 n0 c0 rr) (hok : Pk.Ok s) (hG : Gat w 0 formsC) (h0 : ¬ (fun g => g = rr ∨ RdT r A0 n0 c0 g) 0) (hB : Bs w S (.slice AR cur.length cR) cur) (hS : ∀ g, S g → ¬ (fun g => g = rr ∨ RdT r A0 n0 c0 g) g) (hl : cur.length ≤ 1000000000000) (hn0 : n0 ≤ 1000000000000) : Calls Tryd.prog 38 [.pointer (some ⟨r, 0, none⟩), .pointer (some ⟨rr, 0, none⟩), .agg [.int .i64 kd, .int .i64 mo].toArray].toArray w (Ret (fun v' w' => v' = .bool true ∧ ∃ s', Pk.Ok s' ∧ (RdP 5 96 r A0 n0 c0 s').p w' ∧ (RefR 101 rr AR cR cur s').p w' ∧ Fr (fun g => g = rr ∨ RdT r A0 n0 c0 g) w w')) := by
  have H0 := (St.begin (f := RdP 5 96 r A0 n0 c0 s) hR (RdB.lt hR)).old (f := RefR 101 rr AR cR cur s) hQ (fun g hg => by cases hg; exact refR_lt hQ) (fun x hx g hg hxg => by
    cases hg
    obtain rfl : x = RdP 5 96 r A0 n0 c0 s := by simpa using hx
    exact hrr hxg)
  refine k_enter (l := [_, _, _]) Tryd.func38 rfl rfl ?_
  have H := H0
  refine k_seq ?_
  refine k_region ?_
  refine s_eff (e_box (vs := [.int .i64 kd, .int .i64 mo]) (w_none rfl) rfl rfl rfl rfl H ?_)
  clear H; intro gt W H
  refine s_run (w_none rfl) rfl (as_b rfl rfl) ?_
  refine l_nil ?_
  refine k_seq ?_
  refine k_seq ?_
  refine k_region ?_
  refine s_run (w_none rfl) rfl (d_fa rfl rfl tf53_0) ?_
  refine s_run (w_none rfl) rfl (d_ld rfl H rfl ta3 rfl) ?_
  refine s_eff (e_call (w_none rfl) rfl rfl Tryd.func42 rfl rfl rfl (pick_any kd 5 _ (by omega)) ?_)
  rintro _ W ⟨rfl, hb⟩
  replace H := H.below hb
  clear hb
  refine l_nil ?_
  refine k_block ?_
  refine k_seq ?_
  refine k_region ?_
  refine s_run (w_none rfl) rfl (d_eq rfl rfl rfl) ?_
  refine s_run (w_none rfl) rfl (as_b rfl rfl) ?_
  refine l_nil ?_
  refine k_cond rfl (fun hc12 => ?_) (fun hc12 => ?_)
  · skip
    refine k_seq ?_
    refine k_region ?_
    refine s_run (w_none rfl) rfl (mv_p rfl rfl) ?_
    refine s_eff (e_call (w_none rfl) rfl rfl Tryd.func20 rfl rfl rfl (prgInt _ (H.get (f := RdP 5 96 r A0 n0 c0 s)) hok (H.gatT hG h0) (fun h => h0 (.inr h))) ?_)
    rintro _ W ⟨rfl, hp, hf⟩
    replace H := H.mut (f := RdP 5 96 r A0 n0 c0 s) (f' := RdP 5 96 r A0 n0 c0 (Pk.rInt s).2) hf hp (fun _ h => h)
    clear hp hf
    refine s_run (w_none rfl) rfl (mv_p rfl rfl) ?_
    refine s_eff (e_call (w_none rfl) rfl rfl Tryd.func75 rfl rfl rfl (refRdInt _ (H.get (f := RefR 101 rr AR cR cur s)) hok (H.bsT hB hS) (fun g h e => hS g h (.inl e)) hl) ?_)
    rintro _ W ⟨rfl, hp, hf⟩
    replace H := H.mut (f := RefR 101 rr AR cR cur s) (f' := RefR 101 rr AR cR cur (Pk.rInt s).2) hf hp (fun _ h => h)
    clear hp hf
    refine s_run (w_none rfl) rfl (d_eq rfl rfl rfl) ?_
    refine s_run (w_none rfl) rfl (as_b rfl rfl) ?_
    refine l_nil ?_
    refine k_ret ?_
    repeat (first | refine r_then ?_ | refine r_blk ?_)
    exact q_ret (v := .bool _) rfl rfl ⟨_, rfl, vb (by simp), (Pk.rInt s).2, Pk.ok_rInt hok, H.get (f := RdP 5 96 r A0 n0 c0 (Pk.rInt s).2), H.get (f := RefR 101 rr AR cR cur (Pk.rInt s).2), H.fr⟩
  · skip
    refine k_seq ?_
    refine k_region ?_
    refine s_run (w_none rfl) rfl (d_eq rfl rfl rfl) ?_
    refine s_run (w_none rfl) rfl (as_b rfl rfl) ?_
    refine l_nil ?_
    refine k_cond rfl (fun hc19 => ?_) (fun hc19 => ?_)
    · skip
      refine k_seq ?_
      refine k_draw [(0, true), (1, true), (2, true), (4, true), (5, true), (6, true), (3, false), (7, false), (8, true), (9, true)] [Fact.blk gt [.int .i64 kd, .int .i64 mo] 53] (by kernel_rfl) (by kernel_rfl) H (by repeat (first | exact List.Sublist.refl _ | exact List.nil_sublist _ | refine List.Sublist.cons_cons _ ?_ | refine List.Sublist.cons _ ?_)) ?_
      clear H; intro W H
      refine c_run rfl (w_none rfl) rfl (fun W H => mv_p rfl rfl) ?_
      refine c_run rfl (w_none rfl) rfl (fun W H => d_fa rfl rfl tf53_1) ?_
      refine c_run rfl (w_none rfl) rfl (fun W H => d_ld rfl H rfl ta3 rfl) ?_
      refine c_run rfl (w_none rfl) rfl (fun W H => mv_p rfl rfl) ?_
      refine c_run rfl (w_none rfl) rfl (fun W H => d_fa rfl rfl tf53_1) ?_
      refine c_run rfl (w_none rfl) rfl (fun W H => d_ld rfl H rfl ta3 rfl) ?_
      refine c_eff rfl (e_call (w_none rfl) rfl rfl Tryd.func47 rfl rfl rfl (prgCount _ (H.get (f := RdP 5 96 r A0 n0 c0 s)) hok (H.gatT hG h0) (fun h => h0 (.inr h))) ?_)
      rintro _ W ⟨rfl, hp, hf⟩
      replace H := H.mut (f := RdP 5 96 r A0 n0 c0 s) (f' := RdP 5 96 r A0 n0 c0 (Pk.rCount mo s).2) hf hp (fun _ h => h)
      clear hp hf
      refine ⟨H.sub (by repeat (first | exact List.Sublist.refl _ | refine List.Sublist.cons_cons _ ?_ | refine List.Sublist.cons _ ?_)), ?_⟩
      refine c_eff rfl (e_call (w_none rfl) rfl rfl Tryd.func76 rfl rfl rfl (refRdCount _ (H.get (f := RefR 101 rr AR cR cur s)) hok (H.bsT hB hS) (fun g h e => hS g h (.inl e)) hl) ?_)
      rintro _ W ⟨rfl, hp, hf⟩
      replace H := H.mut (f := RefR 101 rr AR cR cur s) (f' := RefR 101 rr AR cR cur (Pk.rCount mo s).2) hf hp (fun _ h => h)
      clear hp hf
      refine ⟨H.sub (by repeat (first | exact List.Sublist.refl _ | refine List.Sublist.cons_cons _ ?_ | refine List.Sublist.cons _ ?_)), ?_⟩
      refine c_run rfl (w_none rfl) rfl (fun W H => d_eq rfl rfl rfl) ?_
      refine c_run rfl (w_none rfl) rfl (fun W H => as_b rfl rfl) ?_
      refine c_nil ?_
      refine k_ret ?_
      repeat (first | refine r_then ?_ | refine r_blk ?_)
      exact q_ret (v := .bool _) rfl rfl ⟨_, rfl, vb (by simp), (Pk.rCount mo s).2, Pk.ok_rCount hok, H.get (f := RdP 5 96 r A0 n0 c0 (Pk.rCount mo s).2), H.get (f := RefR 101 rr AR cR cur (Pk.rCount mo s).2), H.fr⟩
    · skip
      refine k_seq ?_
      refine k_region ?_
      refine s_run (w_none rfl) rfl (d_eq rfl rfl rfl) ?_
      refine s_run (w_none rfl) rfl (as_b rfl rfl) ?_
      refine l_nil ?_
      refine k_cond rfl (fun hc30 => ?_) (fun hc30 => ?_)
      · skip
        refine k_seq ?_
        refine k_region ?_
        refine s_run (w_none rfl) rfl (mv_p rfl rfl) ?_
        refine s_run (w_none rfl) rfl (d_fa rfl rfl tf53_1) ?_
        refine s_run (w_none rfl) rfl (d_ld rfl H rfl ta3 rfl) ?_
        refine s_eff (e_call (w_none rfl) rfl rfl Tryd.func48 rfl rfl rfl (prgBlob _ (H.get (f := RdP 5 96 r A0 n0 c0 s)) hok (H.gatT hG h0) (fun h => h0 (.inr h))) ?_)
        rintro _ W ⟨hp1, hf1⟩
        obtain ⟨B1, d1, rfl⟩ := RdB.form hp1
        replace H := H.mut (f := RdP 5 96 r A0 n0 c0 s) (f' := RdB 5 96 r A0 n0 c0 (.slice B1 (List.length (Pk.rBlob mo s).1) d1) (Pk.rBlob mo s).1 (Pk.rBlob mo s).2) hf1 hp1 (fun _ h => h)
        clear hp1 hf1
        refine s_run (w_none rfl) rfl (as_s rfl rfl) ?_
        refine l_nil ?_
        refine k_seq ?_
        refine k_region ?_
        refine s_run (w_none rfl) rfl (mv_s rfl rfl) ?_
        refine s_run (w_none rfl) rfl (mv_p rfl rfl) ?_
        refine s_run (w_none rfl) rfl (d_fa rfl rfl tf53_1) ?_
        refine s_run (w_none rfl) rfl (d_ld rfl H rfl ta3 rfl) ?_
        refine s_eff (e_call (w_none rfl) rfl rfl Tryd.func77 rfl rfl rfl (refRdBlob _ (H.get (f := RefR 101 rr AR cR cur s)) hok (H.bsT hB hS) (fun g h e => hS g h (.inl e)) hl) ?_)
        rintro _ W ⟨⟨A2, c2, rfl, hc2, hd2, ho2, hf2, hfr2⟩, hr2⟩
        replace H := H.mutnew (f := RefR 101 rr AR cR cur s) (f' := RefR 101 rr AR cR cur (Pk.rBlob mo s).2) (fn := Fact.row 5 1 (.slice A2 (Pk.rBlob mo s).1.length c2) (Pk.rBlob mo s).1.length _) hfr2 hr2 (fun _ h => h) ho2 hf2
        clear hfr2 hr2 ho2 hf2
        refine s_eff (e_call (w_none rfl) rfl rfl Tryd.func22 rfl rfl rfl (sameBytes _ _ (Pk.rBlob mo s).1 (Pk.rBlob mo s).1 _ (RdB.bs (H.get (f := RdB 5 96 r A0 n0 c0 (.slice B1 (List.length (Pk.rBlob mo s).1) d1) (Pk.rBlob mo s).1 (Pk.rBlob mo s).2))) (H.rowbs (A := A2) rfl)) ?_)
        rintro _ W ⟨rfl, hb⟩
        replace H := H.below hb
        clear hb
        refine s_run (w_none rfl) rfl (as_b rfl rfl) ?_
        refine l_nil ?_
        refine k_seq ?_
        refine k_region ?_
        refine s_run (w_none rfl) rfl (mv_s rfl rfl) ?_
        refine s_eff (e_call (w_none rfl) rfl rfl Tryd.func32 rfl rfl rfl (spoilHeld _ (H.get (f := RdB 5 96 r A0 n0 c0 (.slice B1 (List.length (Pk.rBlob mo s).1) d1) (Pk.rBlob mo s).1 (Pk.rBlob mo s).2)) hn0) ?_)
        rintro _ W ⟨rfl, hp, hf⟩
        replace H := H.mut (f := RdB 5 96 r A0 n0 c0 (.slice B1 (List.length (Pk.rBlob mo s).1) d1) (Pk.rBlob mo s).1 (Pk.rBlob mo s).2) (f' := RdP 5 96 r A0 n0 c0 (Pk.rBlob mo s).2) hf hp (fun _ h => h)
        clear hp hf
        refine l_nil ?_
        refine k_seq ?_
        refine k_region ?_
        refine s_run (w_none rfl) rfl (mv_b rfl rfl) ?_
        refine s_run (w_none rfl) rfl (as_b rfl rfl) ?_
        refine l_nil ?_
        refine k_ret ?_
        repeat (first | refine r_then ?_ | refine r_blk ?_)
        exact q_ret (v := .bool _) rfl rfl ⟨_, rfl, vb (decide_eq_true rfl), (Pk.rBlob mo s).2, Pk.ok_next (Pk.ok_rCount hok), H.get (f := RdP 5 96 r A0 n0 c0 (Pk.rBlob mo s).2), H.get (f := RefR 101 rr AR cR cur (Pk.rBlob mo s).2), H.fr⟩
      · skip
        refine k_seq ?_
        refine k_region ?_
        refine s_run (w_none rfl) rfl (d_eq rfl rfl rfl) ?_
        refine s_run (w_none rfl) rfl (as_b rfl rfl) ?_
        refine l_nil ?_
        refine k_cond rfl (fun hc45 => ?_) (fun hc45 => ?_)
        · skip
          refine k_seq ?_
          refine k_region ?_
          refine s_run (w_none rfl) rfl (mv_p rfl rfl) ?_
          refine s_eff (e_call (w_none rfl) rfl rfl Tryd.func45 rfl rfl rfl (prgHash _ (H.get (f := RdP 5 96 r A0 n0 c0 s)) hok) ?_)
          rintro _ W ⟨rfl, hp, hf⟩
          replace H := H.mut (f := RdP 5 96 r A0 n0 c0 s) (f' := RdP 5 96 r A0 n0 c0 (Pk.rBytes 32 s).2) hf hp (fun _ h => h)
          clear hp hf
          refine s_run (w_none rfl) rfl (mv_p rfl rfl) ?_
          refine s_eff (e_call (w_none rfl) rfl rfl Tryd.func78 rfl rfl rfl (refRdHash _ (H.get (f := RefR 101 rr AR cR cur s)) hok (H.bsT hB hS) (fun g h e => hS g h (.inl e)) hl) ?_)
          rintro _ W ⟨rfl, hp, hf⟩
          replace H := H.mut (f := RefR 101 rr AR cR cur s) (f' := RefR 101 rr AR cR cur (Pk.rBytes 32 s).2) hf hp (fun _ h => h)
          clear hp hf
          refine s_run (w_none rfl) rfl (d_eqarr rfl rfl rfl tu36 tu5 ts5 (Pk.len_full Pk.next_len) (Pk.len_full Pk.next_len) (by kernel_rfl)) ?_
          refine s_run (w_none rfl) rfl (as_b rfl rfl) ?_
          refine l_nil ?_
          refine k_ret ?_
          repeat (first | refine r_then ?_ | refine r_blk ?_)
          exact q_ret (v := .bool _) rfl rfl ⟨_, rfl, vb (by simp), (Pk.rBytes 32 s).2, Pk.ok_next hok, H.get (f := RdP 5 96 r A0 n0 c0 (Pk.rBytes 32 s).2), H.get (f := RefR 101 rr AR cR cur (Pk.rBytes 32 s).2), H.fr⟩
        · skip
          refine k_skip ?_
          refine k_nil ?_
          refine b_end ?_
          refine k_seq ?_
          refine k_region ?_
          refine s_run (w_none rfl) rfl (mv_p rfl rfl) ?_
          refine s_eff (e_call (w_none rfl) rfl rfl Tryd.func46 rfl rfl rfl (prgTag _ (H.get (f := RdP 5 96 r A0 n0 c0 s)) hok) ?_)
          rintro _ W ⟨rfl, hp, hf⟩
          replace H := H.mut (f := RdP 5 96 r A0 n0 c0 s) (f' := RdP 5 96 r A0 n0 c0 (Pk.rBytes 16 s).2) hf hp (fun _ h => h)
          clear hp hf
          refine s_run (w_none rfl) rfl (mv_p rfl rfl) ?_
          refine s_eff (e_call (w_none rfl) rfl rfl Tryd.func79 rfl rfl rfl (refRdTag _ (H.get (f := RefR 101 rr AR cR cur s)) hok (H.bsT hB hS) (fun g h e => hS g h (.inl e)) hl) ?_)
          rintro _ W ⟨rfl, hp, hf⟩
          replace H := H.mut (f := RefR 101 rr AR cR cur s) (f' := RefR 101 rr AR cR cur (Pk.rBytes 16 s).2) hf hp (fun _ h => h)
          clear hp hf
          refine s_run (w_none rfl) rfl (d_eqarr rfl rfl rfl tu38 tu5 ts5 (Pk.len_full Pk.next_len) (Pk.len_full Pk.next_len) (by kernel_rfl)) ?_
          refine s_run (w_none rfl) rfl (as_b rfl rfl) ?_
          refine l_nil ?_
          refine k_ret ?_
          repeat (first | refine r_then ?_ | refine r_blk ?_)
          exact q_ret (v := .bool _) rfl rfl ⟨_, rfl, vb (by simp), (Pk.rBytes 16 s).2, Pk.ok_next hok, H.get (f := RdP 5 96 r A0 n0 c0 (Pk.rBytes 16 s).2), H.get (f := RefR 101 rr AR cR cur (Pk.rBytes 16 s).2), H.fr⟩
end Go.Proofs.YtejaohlijaodjaaDoor

namespace Go.Proofs.YtejaohlijaodjaaDoor
open Go Go.RowKit
attribute [local irreducible] wpList

theorem bothE {A0 AR : Option Addr} {n0 c0 r rr cR : Nat} {cur : List UInt8} {s : RS} {S : Nat → Prop} {kd mo : Int} {a : List Value} (ha : a = [.int .i64 kd, .int .i64 mo]) (w : World) (hR : (RdP 5 96 r A0 n0 c0 s).p w) (hQ : (RefR 101 rr AR cR cur s).p w) (hrr : ¬ RdT r A0 n0 c0 rr) (hok : Pk.Ok s) (hG : Gat w 0 formsC) (h0 : ¬ (fun g => g = rr ∨ RdT r A0 n0 c0 g) 0) (hB : Bs w S (.slice AR cur.length cR) cur) (hS : ∀ g, S g → ¬ (fun g => g = rr ∨ RdT r A0 n0 c0 g) g) (hl : cur.length ≤ 1000000000000) (hn0 : n0 ≤ 1000000000000) : Calls Tryd.prog 38 [.pointer (some ⟨r, 0, none⟩), .pointer (some ⟨rr, 0, none⟩), .agg a.toArray].toArray w (Ret (fun v' w' => v' = .bool true ∧ ∃ s', Pk.Ok s' ∧ (RdP 5 96 r A0 n0 c0 s').p w' ∧ (RefR 101 rr AR cR cur s').p w' ∧ Fr (fun g => g = rr ∨ RdT r A0 n0 c0 g) w w')) := by
  subst ha
  exact both w hR hQ hrr hok hG h0 hB hS hl hn0

theorem packReadsA {S SL : Nat → Prop} {v : Value} {b : List UInt8} {AL : Option Addr} {m cL : Nat} {l : List (Int × Int)} (w : World) (hG : Gat w 0 formsC) (hb : Bs w S v b) (hl2 : Rd w SL 2 AL m (askC l)) (hm : 4096 < b.length) : Calls Tryd.prog 5 [v, .slice AL m cL].toArray w (Ret (Is w (.bool true))) := by
  have hb0 := hb
  obtain ⟨A, c, rfl, _, _, _⟩ := hb.op
  obtain rfl : m = l.length := by have := hl2.1; rw [len_ask] at this; omega
  refine k_enter (l := [_, _]) Tryd.func5 rfl rfl ?_
  have H := St.start nT w
  refine k_seq ?_
  refine k_region ?_
  refine s_run (w_none rfl) rfl (as_b rfl rfl) ?_
  refine l_nil ?_
  refine k_seq ?_
  refine k_seq ?_
  refine k_region ?_
  refine s_run (w_none rfl) rfl (mv_s rfl rfl) ?_
  refine s_run (w_none rfl) rfl (d_len rfl rfl tu23) ?_
  refine s_run (w_none rfl) rfl (d_gt rfl rfl rfl) ?_
  refine l_nil ?_
  refine k_condT rfl (by simp; omega) ?_
  refine k_seq ?_
  refine k_region ?_
  refine s_eff (e_call (w_none rfl) rfl rfl Tryd.func23 rfl rfl rfl (works03 _ (H.gat hG)) ?_)
  rintro _ W ⟨rfl, hb⟩
  replace H := H.below hb
  clear hb
  refine s_run (w_none rfl) rfl (as_b rfl rfl) ?_
  refine l_nil ?_
  refine k_ret ?_
  repeat (first | refine r_then ?_ | refine r_blk ?_)
  exact q_ret (v := .bool _) rfl rfl ⟨_, rfl, rfl, H.under⟩

set_option maxHeartbeats 4000000 in
theorem packReadsB {S SL : Nat → Prop} {v : Value} {b : List UInt8} {AL : Option Addr} {m cL : Nat} {l : List (Int × Int)} (w : World) (hG : Gat w 0 formsC) (hb : Bs w S v b) (hl2 : Rd w SL 2 AL m (askC l)) (hm : b.length ≤ 4096) : Calls Tryd.prog 5 [v, .slice AL m cL].toArray w (Ret (Is w (.bool true))) := by
  have hb0 := hb
  obtain ⟨A, c, rfl, _, _, _⟩ := hb.op
  obtain rfl : m = l.length := by have := hl2.1; rw [len_ask] at this; omega
  have hl : b.length ≤ 1000000000000 := by omega
  refine k_enter (l := [_, _]) Tryd.func5 rfl rfl ?_
  have H := St.start nT w
  refine k_seq ?_
  refine k_region ?_
  refine s_run (w_none rfl) rfl (as_b rfl rfl) ?_
  refine l_nil ?_
  refine k_seq ?_
  refine k_seq ?_
  refine k_region ?_
  refine s_run (w_none rfl) rfl (mv_s rfl rfl) ?_
  refine s_run (w_none rfl) rfl (d_len rfl rfl tu23) ?_
  refine s_run (w_none rfl) rfl (d_gt rfl rfl rfl) ?_
  refine l_nil ?_
  refine k_condF rfl (by simp; omega) ?_
  refine k_skip ?_
  refine k_seq ?_
  refine k_region ?_
  refine s_run (w_none rfl) rfl (mv_s rfl rfl) ?_
  refine s_eff (e_call (w_none rfl) rfl rfl Tryd.func24 rfl rfl rfl (lentBytes _ _ _ (H.bs hb0) (by omega)) ?_)
  rintro _ W ⟨A1, c1, rfl, hc1, hd1, hn⟩
  replace H := H.new hn
  clear hn
  refine s_run (w_none rfl) rfl (as_s rfl rfl) ?_
  refine l_nil ?_
  refine k_seq ?_
  refine k_region ?_
  refine s_run (w_none rfl) rfl (mv_s rfl rfl) ?_
  refine s_run (w_none rfl) rfl (mv_s rfl rfl) ?_
  refine s_run (w_none rfl) rfl (d_len rfl rfl tu23) ?_
  refine s_run (w_none rfl) rfl (d_cutP rfl rfl (h := b.length) rfl (by have := hc1; rw [List.length_append] at this; omega) rfl tu23 ts5) ?_
  refine s_eff (e_call (w_none rfl) rfl rfl Tryd.func19 rfl rfl rfl (prgRead (l := b) _ (lent_pre (H.rowbs (A := A1) (l := b ++ marks 5) rfl) rfl) hl) ?_)
  rintro _ W ⟨r, A0, c0, rfl, hS⟩
  replace H := H.add hS
  clear hS
  simp only [List.cons_append, List.nil_append] at H
  refine s_run (w_none rfl) rfl (as_p rfl rfl) ?_
  refine l_nil ?_
  refine k_seq ?_
  refine k_region ?_
  refine s_run (w_none rfl) rfl (mv_s rfl rfl) ?_
  refine s_eff (e_call (w_none rfl) rfl rfl Tryd.func34 rfl rfl rfl (refRead (l := b) _ (H.bs hb0) hl) ?_)
  rintro _ W ⟨rr, AR, cR, rfl, hcR1, hcR2, hS⟩
  replace H := H.add hS
  clear hS
  simp only [List.cons_append, List.nil_append] at H
  refine s_run (w_none rfl) rfl (as_p rfl rfl) ?_
  refine l_nil ?_
  refine k_seq ?_
  refine k_seq ?_
  refine k_region ?_
  refine s_run (w_none rfl) rfl (mv_p rfl rfl) ?_
  refine s_run (w_none rfl) rfl (d_eqpn rfl rfl rfl (by kernel_rfl)) ?_
  refine s_run (w_none rfl) rfl (mv_bx (c := false) rfl rfl (rfl)) ?_
  refine s_run (w_g rfl rfl rfl rfl) rfl (mv_s rfl rfl) ?_
  refine s_run (w_g rfl rfl rfl rfl) rfl (mv_s rfl rfl) ?_
  refine s_eff (e_call (w_g rfl rfl rfl rfl) rfl rfl Tryd.func33 rfl rfl rfl (kept _ (H.rowbs (A := A1) (l := b ++ marks 5) rfl) (H.bs hb0) rfl (by omega)) ?_)
  rintro _ W ⟨rfl, hb⟩
  replace H := H.below hb
  clear hb
  refine s_run (w_g rfl rfl rfl rfl) rfl (d_not rfl rfl) ?_
  refine s_run (w_none rfl) rfl (d_pickF rfl rfl rfl) ?_
  refine l_nil ?_
  refine k_condF rfl (by first | (simp; done) | (simp; omega)) ?_
  refine k_skip ?_
  refine k_seq ?_
  refine k_region ?_
  refine s_run (w_none rfl) rfl (mv_s rfl rfl) ?_
  refine s_eff (e_call (w_none rfl) rfl rfl Tryd.func32 rfl rfl rfl (spoilAll _ (H.get (f := Fact.row 5 1 (.slice A1 (b ++ marks 5).length c1) (b ++ marks 5).length ((b ++ marks 5).map u8v))) (by rw [List.length_append, marks_len]; omega)) ?_)
  rintro _ W ⟨rfl, ⟨ys, hys⟩, hf⟩
  replace H := H.mut (f := Fact.row 5 1 (.slice A1 (b ++ marks 5).length c1) (b ++ marks 5).length ((b ++ marks 5).map u8v)) (f' := Fact.row 5 1 (.slice A1 (b ++ marks 5).length c1) (b ++ marks 5).length (ys.map u8v)) hf hys (fun _ h => h)
  clear hys hf
  refine l_nil ?_
  replace H := H.perm (.cons _ (.swap _ _ _))
  have hrr : ¬ RdT r A0 b.length c0 rr := (List.pairwise_cons.1 H.apart).1 _ (.head _) rr rfl
  replace H := H.two
  have hSS : ∀ g, (Value.slice AR b.length cR).ownBlock = some g → ¬ (fun g => g = rr ∨ RdT r A0 b.length c0 g) g := fun g hg ht => (List.pairwise_cons.1 H.apart).1 _ (.head _) g ht hg
  have h00 : ¬ (fun g => g = rr ∨ RdT r A0 b.length c0 g) 0 := fun ht => absurd ((H.own _ (.head _) 0 ht).1.resolve_left (fun h => h)) (by have := hG.1; omega)
  have hok0 : Pk.Ok (b, (0 : Int)) := ⟨fun h => absurd rfl h, by simp, by simp⟩
  refine k_seq ?_
  refine k_seq ?_
  refine k_region ?_
  refine s_run (w_none rfl) rfl (as_i rfl rfl) ?_
  refine l_nil ?_
  refine k_block ?_
  refine k_loop 32 [4, 8] (fun mm sl W => ∃ i : Nat, ∃ s : RS, l.length - i = mm ∧ sl = [(8, .int .i64 (i : Int))] ∧ (i ≤ l.length) ∧ (Pk.Ok s) ∧ St nT w W [Fact.two (RefR 101 rr AR cR b s) (RdP 5 96 r A0 b.length c0 s), Fact.row 5 1 (.slice AR b.length cR) b.length (b.map u8v), Fact.row 5 1 (.slice A1 (b ++ marks 5).length c1) (b ++ marks 5).length (ys.map u8v)]) _ _ ⟨0, (b, 0), rfl, rfl, Nat.zero_le _, hok0, H⟩ ⟨rfl, trivial⟩ (fun mm sl ρv W hJ => ?_)
  clear H; obtain ⟨i, s, rfl, rfl, hi, hok, H⟩ := hJ
  refine k_one ?_
  refine k_seq ?_
  refine k_seq ?_
  rcases Nat.lt_or_ge i l.length with hlt | hge
  · skip
    refine k_region ?_
    refine s_run (w_none rfl) rfl (mv_i rfl rfl) ?_
    refine s_run (w_none rfl) rfl (mv_s rfl rfl) ?_
    refine s_run (w_none rfl) rfl (d_len rfl rfl tu48) ?_
    refine s_run (w_none rfl) rfl (d_lt rfl rfl rfl) ?_
    refine s_run (w_none rfl) rfl (mv_bx (c := true) rfl rfl (by simp; omega)) ?_
    refine s_run (w_g rfl rfl rfl rfl) rfl (mv_i rfl rfl) ?_
    refine s_run (w_g rfl rfl rfl rfl) rfl (d_lt rfl rfl rfl) ?_
    refine s_run (w_none rfl) rfl (d_pickT rfl rfl rfl) ?_
    refine l_nil ?_
    refine k_cond rfl (fun hc39 => ?_) (fun hc39 => ?_)
    · first | (replace hc39 := of_decide_eq_true hc39) | simp at hc39
      refine k_skip ?_
      refine k_seq ?_
      refine k_block ?_
      refine k_seq ?_
      refine k_region ?_
      refine s_run (w_none rfl) rfl (mv_p rfl rfl) ?_
      refine s_eff (e_call (w_none rfl) rfl rfl Tryd.func35 rfl rfl rfl (prgLeft _ (H.get (f := Fact.two (RefR 101 rr AR cR b s) (RdP 5 96 r A0 b.length c0 s))).2) ?_)
      rintro _ W ⟨rfl, hb⟩
      replace H := H.below hb
      clear hb
      refine s_run (w_none rfl) rfl (mv_p rfl rfl) ?_
      refine s_eff (e_call (w_none rfl) rfl rfl Tryd.func36 rfl rfl rfl (refLeft _ (H.get (f := Fact.two (RefR 101 rr AR cR b s) (RdP 5 96 r A0 b.length c0 s))).1 hok hl) ?_)
      rintro _ W ⟨rfl, hb⟩
      replace H := H.below hb
      clear hb
      refine s_run (w_none rfl) rfl (d_ne rfl rfl rfl) ?_
      refine s_run (w_none rfl) rfl (mv_bx (c := false) rfl rfl (by simp)) ?_
      refine s_run (w_g rfl rfl rfl rfl) rfl (mv_p rfl rfl) ?_
      refine s_eff (e_call (w_g rfl rfl rfl rfl) rfl rfl Tryd.func21 rfl rfl rfl (prgEnd _ (H.get (f := Fact.two (RefR 101 rr AR cR b s) (RdP 5 96 r A0 b.length c0 s))).2) ?_)
      rintro _ W ⟨rfl, hb⟩
      replace H := H.below hb
      clear hb
      refine s_run (w_g rfl rfl rfl rfl) rfl (mv_p rfl rfl) ?_
      refine s_eff (e_call (w_g rfl rfl rfl rfl) rfl rfl Tryd.func37 rfl rfl rfl (refEnd _ (H.get (f := Fact.two (RefR 101 rr AR cR b s) (RdP 5 96 r A0 b.length c0 s))).1 hok hl) ?_)
      rintro _ W ⟨rfl, hb⟩
      replace H := H.below hb
      clear hb
      refine s_run (w_g rfl rfl rfl rfl) rfl (d_ne rfl rfl rfl) ?_
      refine s_run (w_none rfl) rfl (d_pickF rfl rfl rfl) ?_
      refine s_run (w_none rfl) rfl (mv_bx (c := false) rfl rfl (by simp)) ?_
      refine s_run (w_g rfl rfl rfl rfl) rfl (mv_p rfl rfl) ?_
      refine s_run (w_g rfl rfl rfl rfl) rfl (mv_p rfl rfl) ?_
      refine s_run (w_g rfl rfl rfl rfl) rfl (mv_s rfl rfl) ?_
      refine s_run (w_g rfl rfl rfl rfl) rfl (mv_i rfl rfl) ?_
      refine s_run (w_g rfl rfl rfl rfl) rfl (d_iaS rfl (H.rd hl2) rfl rfl (q := i) rfl hlt tu48 ts53) ?_
      refine s_run (w_g rfl rfl rfl rfl) rfl (d_ldmR rfl (H.rd hl2) rfl ta53 ts53 (by omega) (by rw [len_ask]; omega)) ?_
      refine s_eff (e_call (w_g rfl rfl rfl rfl) rfl rfl Tryd.func38 rfl rfl rfl (bothE (sub_ask l i hlt) _ (H.get (f := Fact.two (RefR 101 rr AR cR b s) (RdP 5 96 r A0 b.length c0 s))).2 (H.get (f := Fact.two (RefR 101 rr AR cR b s) (RdP 5 96 r A0 b.length c0 s))).1 hrr hok (H.gat hG) h00 (bs_own (H.get (f := Fact.row 5 1 (.slice AR b.length cR) b.length (b.map u8v))) rfl) hSS hl (by omega)) ?_)
      rintro _ W ⟨rfl, s', hok', hp, hq, hf⟩
      replace H := H.mut (f := Fact.two (RefR 101 rr AR cR b s) (RdP 5 96 r A0 b.length c0 s)) (f' := Fact.two (RefR 101 rr AR cR b s') (RdP 5 96 r A0 b.length c0 s')) hf ⟨hq, hp⟩ (fun _ h => h)
      clear hp hq hf
      refine s_run (w_g rfl rfl rfl rfl) rfl (d_not rfl rfl) ?_
      refine s_run (w_none rfl) rfl (d_pickF rfl rfl rfl) ?_
      refine s_run (w_none rfl) rfl (mv_bx (c := false) rfl rfl (by simp)) ?_
      refine s_run (w_g rfl rfl rfl rfl) rfl (mv_p rfl rfl) ?_
      refine s_eff (e_call (w_g rfl rfl rfl rfl) rfl rfl Tryd.func39 rfl rfl rfl (prgBad _ (H.get (f := Fact.two (RefR 101 rr AR cR b s') (RdP 5 96 r A0 b.length c0 s'))).2) ?_)
      rintro _ W ⟨rfl, hb⟩
      replace H := H.below hb
      clear hb
      refine s_run (w_g rfl rfl rfl rfl) rfl (mv_p rfl rfl) ?_
      refine s_eff (e_call (w_g rfl rfl rfl rfl) rfl rfl Tryd.func40 rfl rfl rfl (refBad _ (H.get (f := Fact.two (RefR 101 rr AR cR b s') (RdP 5 96 r A0 b.length c0 s'))).1) ?_)
      rintro _ W ⟨rfl, hb⟩
      replace H := H.below hb
      clear hb
      refine s_run (w_g rfl rfl rfl rfl) rfl (d_diff rfl rfl rfl tu4) ?_
      refine s_run (w_none rfl) rfl (d_pickF rfl rfl rfl) ?_
      refine l_nil ?_
      refine k_condF rfl (by simp) ?_
      refine k_skip ?_
      refine k_nil ?_
      refine b_end ?_
      refine k_region ?_
      refine s_run (w_none rfl) rfl (mv_i rfl rfl) ?_
      refine s_run (w_none rfl) rfl (d_add rfl rfl rfl (by omega)) ?_
      refine s_run (w_none rfl) rfl (as_i rfl rfl) ?_
      refine l_nil ?_
      refine k_nil ?_
      refine k_next ?_
      refine ⟨_, _, _, ?_, rfl, ?_, ?_, ⟨i + 1, s', rfl, rfl, by omega, hok', H⟩⟩
      · omega
      · repeat (first | ((with_reducible refine Eqo.updl _ Eqo.ovr ?_); exact rfl) | ((with_reducible refine Eqo.updl _ (Eqo.ovr2 ?_ ?_) ?_); rotate_left; exact rfl; exact rfl) | ((with_reducible refine Eqo.upd ?_ ?_); rotate_left; exact rfl))
      · refine ⟨?_, trivial⟩
        · exact vi (by omega)
    · first | (replace hc39 := of_decide_eq_false hc39) | simp at hc39
      refine k_exit ?_
      refine x_then (x_then ?_)
      refine x_hit ?_
      refine k_seq ?_
      refine k_region ?_
      refine s_run (w_none rfl) rfl (mv_p rfl rfl) ?_
      refine s_eff (e_call (w_none rfl) rfl rfl Tryd.func35 rfl rfl rfl (prgLeft _ (H.get (f := Fact.two (RefR 101 rr AR cR b s) (RdP 5 96 r A0 b.length c0 s))).2) ?_)
      rintro _ W ⟨rfl, hb⟩
      replace H := H.below hb
      clear hb
      refine s_run (w_none rfl) rfl (mv_p rfl rfl) ?_
      refine s_eff (e_call (w_none rfl) rfl rfl Tryd.func36 rfl rfl rfl (refLeft _ (H.get (f := Fact.two (RefR 101 rr AR cR b s) (RdP 5 96 r A0 b.length c0 s))).1 hok hl) ?_)
      rintro _ W ⟨rfl, hb⟩
      replace H := H.below hb
      clear hb
      refine s_run (w_none rfl) rfl (d_eq rfl rfl rfl) ?_
      refine s_run (w_none rfl) rfl (mv_bx (c := true) rfl rfl (by simp)) ?_
      refine s_run (w_g rfl rfl rfl rfl) rfl (mv_p rfl rfl) ?_
      refine s_eff (e_call (w_g rfl rfl rfl rfl) rfl rfl Tryd.func21 rfl rfl rfl (prgEnd _ (H.get (f := Fact.two (RefR 101 rr AR cR b s) (RdP 5 96 r A0 b.length c0 s))).2) ?_)
      rintro _ W ⟨rfl, hb⟩
      replace H := H.below hb
      clear hb
      refine s_run (w_g rfl rfl rfl rfl) rfl (mv_p rfl rfl) ?_
      refine s_eff (e_call (w_g rfl rfl rfl rfl) rfl rfl Tryd.func37 rfl rfl rfl (refEnd _ (H.get (f := Fact.two (RefR 101 rr AR cR b s) (RdP 5 96 r A0 b.length c0 s))).1 hok hl) ?_)
      rintro _ W ⟨rfl, hb⟩
      replace H := H.below hb
      clear hb
      refine s_run (w_g rfl rfl rfl rfl) rfl (d_eq rfl rfl rfl) ?_
      refine s_run (w_none rfl) rfl (d_pickT rfl rfl rfl) ?_
      refine s_run (w_none rfl) rfl (mv_bx (c := true) rfl rfl (by simp)) ?_
      refine s_eff (e_call (w_g rfl rfl rfl rfl) rfl rfl Tryd.func23 rfl rfl rfl (works03 _ (H.gat hG)) ?_)
      rintro _ W ⟨rfl, hb⟩
      replace H := H.below hb
      clear hb
      refine s_run (w_none rfl) rfl (d_pickT rfl rfl rfl) ?_
      refine s_run (w_none rfl) rfl (as_b rfl rfl) ?_
      refine l_nil ?_
      refine k_ret ?_
      repeat (first | refine r_then ?_ | refine r_blk ?_)
      exact q_ret (v := .bool _) rfl rfl ⟨_, rfl, rfl, H.under⟩
  · skip
    refine k_region ?_
    refine s_run (w_none rfl) rfl (mv_i rfl rfl) ?_
    refine s_run (w_none rfl) rfl (mv_s rfl rfl) ?_
    refine s_run (w_none rfl) rfl (d_len rfl rfl tu48) ?_
    refine s_run (w_none rfl) rfl (d_lt rfl rfl rfl) ?_
    refine s_run (w_none rfl) rfl (mv_bx (c := false) rfl rfl (by simp; omega)) ?_
    refine s_skip (w_gno rfl rfl rfl rfl rfl) rfl ?_
    refine s_skip (w_gno rfl rfl rfl rfl rfl) rfl ?_
    refine s_run (w_none rfl) rfl (d_pickF rfl rfl rfl) ?_
    refine l_nil ?_
    refine k_condF rfl (by first | (simp; done) | (simp; omega)) ?_
    refine k_exit ?_
    refine x_then (x_then ?_)
    refine x_hit ?_
    refine k_seq ?_
    refine k_region ?_
    refine s_run (w_none rfl) rfl (mv_p rfl rfl) ?_
    refine s_eff (e_call (w_none rfl) rfl rfl Tryd.func35 rfl rfl rfl (prgLeft _ (H.get (f := Fact.two (RefR 101 rr AR cR b s) (RdP 5 96 r A0 b.length c0 s))).2) ?_)
    rintro _ W ⟨rfl, hb⟩
    replace H := H.below hb
    clear hb
    refine s_run (w_none rfl) rfl (mv_p rfl rfl) ?_
    refine s_eff (e_call (w_none rfl) rfl rfl Tryd.func36 rfl rfl rfl (refLeft _ (H.get (f := Fact.two (RefR 101 rr AR cR b s) (RdP 5 96 r A0 b.length c0 s))).1 hok hl) ?_)
    rintro _ W ⟨rfl, hb⟩
    replace H := H.below hb
    clear hb
    refine s_run (w_none rfl) rfl (d_eq rfl rfl rfl) ?_
    refine s_run (w_none rfl) rfl (mv_bx (c := true) rfl rfl (by simp)) ?_
    refine s_run (w_g rfl rfl rfl rfl) rfl (mv_p rfl rfl) ?_
    refine s_eff (e_call (w_g rfl rfl rfl rfl) rfl rfl Tryd.func21 rfl rfl rfl (prgEnd _ (H.get (f := Fact.two (RefR 101 rr AR cR b s) (RdP 5 96 r A0 b.length c0 s))).2) ?_)
    rintro _ W ⟨rfl, hb⟩
    replace H := H.below hb
    clear hb
    refine s_run (w_g rfl rfl rfl rfl) rfl (mv_p rfl rfl) ?_
    refine s_eff (e_call (w_g rfl rfl rfl rfl) rfl rfl Tryd.func37 rfl rfl rfl (refEnd _ (H.get (f := Fact.two (RefR 101 rr AR cR b s) (RdP 5 96 r A0 b.length c0 s))).1 hok hl) ?_)
    rintro _ W ⟨rfl, hb⟩
    replace H := H.below hb
    clear hb
    refine s_run (w_g rfl rfl rfl rfl) rfl (d_eq rfl rfl rfl) ?_
    refine s_run (w_none rfl) rfl (d_pickT rfl rfl rfl) ?_
    refine s_run (w_none rfl) rfl (mv_bx (c := true) rfl rfl (by simp)) ?_
    refine s_eff (e_call (w_g rfl rfl rfl rfl) rfl rfl Tryd.func23 rfl rfl rfl (works03 _ (H.gat hG)) ?_)
    rintro _ W ⟨rfl, hb⟩
    replace H := H.below hb
    clear hb
    refine s_run (w_none rfl) rfl (d_pickT rfl rfl rfl) ?_
    refine s_run (w_none rfl) rfl (as_b rfl rfl) ?_
    refine l_nil ?_
    refine k_ret ?_
    repeat (first | refine r_then ?_ | refine r_blk ?_)
    exact q_ret (v := .bool _) rfl rfl ⟨_, rfl, rfl, H.under⟩
end Go.Proofs.YtejaohlijaodjaaDoor

namespace Go.Proofs.YtejaohlijaodjaaDoor
open Go Go.RowKit

theorem of_is {P : Program} {f : FuncId} {args : Array Value} {w : World} {v : Value} (h : Calls P f args w (Ret (Is w v))) : Calls P f args w (fun e w' => e = .returned v ∧ Below w.heap.size w w') :=
  Calls.mono h (fun e w' h => by obtain ⟨x, h1, h2, h3⟩ := h; subst h2; exact ⟨h1, h3⟩)
theorem packReads_any {S SL : Nat → Prop} {v : Value} {b : List UInt8} {AL : Option Addr} {m cL : Nat} {l : List (Int × Int)} (w : World) (hG : Gat w 0 formsC) (hb : Bs w S v b) (hl2 : Rd w SL 2 AL m (askC l)) :
    Calls Tryd.prog 5 #[v, .slice AL m cL] w (fun e w' => e = .returned (.bool true) ∧ Below w.heap.size w w') := by
  rcases Nat.lt_or_ge 4096 b.length with h | h
  · exact of_is (packReadsA w hG hb hl2 h)
  · exact of_is (packReadsB w hG hb hl2 h)
end Go.Proofs.YtejaohlijaodjaaDoor

namespace Go.Proofs.YtejaohlijaodjaaDoor
open Go Go.RowKit
attribute [local irreducible] wpList

def wd (i : Nat) : Nat := [2, 4, 8].getD i 0
def ah (i : Nat) : UInt8 := [253, 254, 255].getD i 0
theorem wd_at {i : Nat} (hi : i < 3) : Pk.wide (ah i) = wd i ∧ (wd i = 2 ∨ wd i = 4 ∨ wd i = 8) ∧ ([.int .i64 2, .int .i64 4, .int .i64 8] : List Value)[i * 1]? = some (.int .i64 ((wd i : Nat) : Int)) ∧ ([.int .u8 253, .int .u8 254, .int .u8 255] : List Value)[i * 1]? = some (u8v (ah i)) := by
  match i, hi with
  | 0, _ => exact ⟨rfl, by decide, rfl, rfl⟩
  | 1, _ => exact ⟨rfl, by decide, rfl, rfl⟩
  | 2, _ => exact ⟨rfl, by decide, rfl, rfl⟩
theorem small_of {u q : Nat} (h : (((u : Int) / 2 ^ (8 * q)) != 0) = false) : u < 256 ^ q := by
  rw [shr_le] at h
  have h2 : u / 256 ^ q = 0 := by
    generalize u / 256 ^ q = z at h
    have h3 : (z : Int) = 0 := by simpa only [bne_eq_false_iff_eq] using h
    omega
  exact Nat.lt_of_div_eq_zero (Nat.pow_pos (by decide)) h2
/-- What a form tells. -/
theorem form_read {i u : Nat} (hi : i < 3) (hu : u < 256 ^ wd i) : Pk.rInt (ah i :: Pk.le u (wd i), 0) = if 9223372036854775808 ≤ u then (0, ([], 15)) else if u < Pk.least (ah i) then (0, ([], 10)) else (u, ([], 0)) := by
  obtain ⟨h1, h2, _⟩ := wd_at hi
  have h3 := Pk.rInt_wide (c := ah i) (b := Pk.le u (wd i)) [] (by omega) (by rw [Pk.len_le, h1])
  rw [List.append_nil] at h3
  rw [h3, Pk.num, Pk.ofLe_le, Nat.mod_eq_of_lt hu]
theorem form_own {i u : Nat} (hi : i < 3) (hu : u < 256 ^ wd i) (h63 : u < 9223372036854775808) (hl : ¬ u < Pk.least (ah i)) : Pk.int u = ah i :: Pk.le u (wd i) := by
  have h1 := form_read hi hu
  rw [if_neg (by omega), if_neg hl] at h1
  have h2 := Pk.rInt_back (s := (ah i :: Pk.le u (wd i), 0)) rfl (by rw [h1])
  rw [h1] at h2
  simpa using h2.symm
theorem form_len {i u : Nat} (hi : i < 3) (hu : u < 256 ^ wd i) (h63 : u < 9223372036854775808) : (Pk.int u).length < 1 + wd i ↔ u < Pk.least (ah i) := by
  obtain ⟨h1, h2, _⟩ := wd_at hi
  have h3 := Pk.int_len (c := ah i) (u := u) (by omega) (by rw [h1]; exact hu)
  rw [h1] at h3
  constructor
  · intro h; exact h3.1 (by omega)
  · intro h
    have h4 := h3.2 h
    rcases Nat.lt_or_ge (Pk.int u).length (1 + wd i) with h5 | h5
    · exact h5
    · exfalso
      have h6 : ∀ k, u < 256 ^ k → k = 2 ∨ k = 4 ∨ k = 8 → (Pk.int u).length ≤ 1 + k := fun k hk hq => by
        unfold Pk.int
        rcases hq with rfl | rfl | rfl
        · have : u < 65536 := hk
          (repeat' split) <;> simp [Pk.len_le] <;> omega
        · have : u < 4294967296 := hk
          (repeat' split) <;> simp [Pk.len_le] <;> omega
        · (repeat' split) <;> simp [Pk.len_le]
      have := h6 _ hu h2
      omega
theorem int_more {u : Nat} (h : 253 ≤ u) : 1 < (Pk.int u).length := by
  unfold Pk.int
  rw [if_neg (by omega)]
  split
  · simp [Pk.len_le]
  · split <;> simp [Pk.len_le]

set_option maxHeartbeats 4000000 in
theorem packForms (n : Int) (w : World) (hG : Gat w 0 formsC) (hn : -9223372036854775808 ≤ n ∧ n ≤ 9223372036854775807) : Calls Tryd.prog 3 [.int .i64 n].toArray w (Ret (Is w (.bool true))) := by
  have hc := u64_wrap n
  have hlt := Pk.toU_lt n
  have hnu : 0 ≤ n → n = ((Pk.toU n : Nat) : Int) := fun h => by rw [Pk.toU_cast]; omega
  have hneg : n < 0 → 9223372036854775808 ≤ Pk.toU n := fun h => by unfold Pk.toU; omega
  have hint := fun W => packInt (S := (0 ≤ ·)) (v := .slice none 0 0) (b := []) n W
  generalize Pk.toU n = u at *
  refine k_enter (l := [_]) Tryd.func3 rfl rfl ?_
  have H := St.start nT w
  refine k_seq ?_
  refine k_region ?_
  refine s_run (w_none rfl) rfl (as_b rfl rfl) ?_
  refine l_nil ?_
  refine k_seq ?_
  refine k_region ?_
  refine s_run (w_none rfl) rfl (mv_i rfl rfl) ?_
  refine s_run (w_none rfl) rfl (d_conv rfl rfl (by rw [tu3]; rfl) tu22 hc) ?_
  refine s_run (w_none rfl) rfl (as_i rfl rfl) ?_
  refine l_nil ?_
  refine k_seq ?_
  refine k_region ?_
  refine s_eff (e_bsl (xs := [.const (.int .u8 253), .const (.int .u8 254), .const (.int .u8 255)]) (vals := [.int .u8 _, .int .u8 _, .int .u8 _]) (vs := [.int .u8 _, .int .u8 _, .int .u8 _]) (w_none rfl) rfl rfl rfl rfl rfl rfl tu23 ts5 ty5 rfl rfl rfl H ?_)
  clear H; intro ga W H
  refine s_run (w_none rfl) rfl (as_s rfl rfl) ?_
  refine l_nil ?_
  refine k_seq ?_
  refine k_region ?_
  refine s_eff (e_bsl (xs := [.const (.int .i64 2), .const (.int .i64 4), .const (.int .i64 8)]) (vals := [.int .i64 _, .int .i64 _, .int .i64 _]) (vs := [.int .i64 _, .int .i64 _, .int .i64 _]) (w_none rfl) rfl rfl rfl rfl rfl rfl tu24 ts3 ty3 rfl rfl rfl H ?_)
  clear H; intro gw W H
  refine s_run (w_none rfl) rfl (as_s rfl rfl) ?_
  refine l_nil ?_
  refine k_seq ?_
  refine k_region ?_
  refine s_run (w_none rfl) rfl (mv_i rfl rfl) ?_
  refine s_eff (e_call (w_none rfl) rfl rfl Tryd.func18 rfl rfl rfl (hint _ (H.gat hG) Bs.nil hn (by simp)) ?_)
  rintro _ W ⟨A1, c1, rfl, hc1, hd1, hn⟩
  replace H := H.new hn
  clear hn
  rw [List.nil_append] at hc1 H ⊢
  refine s_run (w_none rfl) rfl (as_s rfl rfl) ?_
  refine l_nil ?_
  refine k_seq ?_
  refine k_seq ?_
  refine k_region ?_
  refine s_run (w_none rfl) rfl (as_i rfl rfl) ?_
  refine l_nil ?_
  refine k_block ?_
  refine k_loop 19 [2, 7, 8, 9, 10, 11, 12] (fun mm sl W => ∃ i : Nat, 3 - i = mm ∧ sl = [(7, .int .i64 (i : Int))] ∧ (i ≤ 3) ∧ St nT w W [Fact.row 5 1 (.slice A1 (Pk.int u).length c1) (Pk.int u).length ((Pk.int u).map u8v), Fact.blk gw [.int .i64 2, .int .i64 4, .int .i64 8] 3, Fact.blk ga [.int .u8 253, .int .u8 254, .int .u8 255] 5]) _ _ ⟨0, rfl, rfl, Nat.zero_le _, H⟩ ⟨rfl, trivial⟩ (fun mm sl ρv W hJ => ?_)
  clear H; obtain ⟨i, rfl, rfl, hi, H⟩ := hJ
  refine k_one ?_
  refine k_seq ?_
  refine k_seq ?_
  refine k_region ?_
  refine s_run (w_none rfl) rfl (mv_i rfl rfl) ?_
  refine s_run (w_none rfl) rfl (d_lt rfl rfl rfl) ?_
  refine l_nil ?_
  refine k_cond rfl (fun hc20 => ?_) (fun hc20 => ?_)
  · replace hc20 := of_decide_eq_true hc20
    have hi3 : i < 3 := by omega
    have hwd := wd_at hi3
    refine k_skip ?_
    refine k_seq ?_
    refine k_block ?_
    refine k_seq ?_
    refine k_seq ?_
    rcases Nat.lt_or_ge (wd i) 8 with h8 | h8
    · skip
      refine k_region ?_
      refine s_run (w_none rfl) rfl (mv_s rfl rfl) ?_
      refine s_run (w_none rfl) rfl (mv_i rfl rfl) ?_
      refine s_run (w_none rfl) rfl (d_iaS rfl (rd_blk (H.blk (g := gw)) rfl) rfl rfl (q := i) rfl (by omega) tu24 ts3) ?_
      refine s_run (w_none rfl) rfl (d_ldR0 rfl (rd_blk (m := 3) (H.blk (g := gw)) rfl) rfl ta3 hwd.2.2.1) ?_
      refine s_run (w_none rfl) rfl (d_lt rfl rfl rfl) ?_
      refine s_run (w_none rfl) rfl (mv_bx (c := true) rfl rfl (by simp; omega)) ?_
      refine s_run (w_g rfl rfl rfl rfl) rfl (mv_i rfl rfl) ?_
      refine s_run (w_g rfl rfl rfl rfl) rfl (mv_s rfl rfl) ?_
      refine s_run (w_g rfl rfl rfl rfl) rfl (mv_i rfl rfl) ?_
      refine s_run (w_g rfl rfl rfl rfl) rfl (d_iaS rfl (rd_blk (H.blk (g := gw)) rfl) rfl rfl (q := i) rfl (by omega) tu24 ts3) ?_
      refine s_run (w_g rfl rfl rfl rfl) rfl (d_ldR0 rfl (rd_blk (m := 3) (H.blk (g := gw)) rfl) rfl ta3 hwd.2.2.1) ?_
      refine s_run (w_g rfl rfl rfl rfl) rfl (d_mul rfl rfl rfl (by omega)) ?_
      refine s_run (w_g rfl rfl rfl rfl) rfl (d_conv rfl rfl (by rw [tu3]; rfl) tu26 (IntWalk.u64_in _ (by omega))) ?_
      refine s_run (w_g rfl rfl rfl rfl) rfl (d_shr rfl rfl rfl (m := 8 * wd i) rfl (by show 8 * wd i ≤ 64; omega)) ?_
      refine s_run (w_g rfl rfl rfl rfl) rfl (d_ne rfl rfl rfl) ?_
      refine s_run (w_none rfl) rfl (d_pickT rfl rfl rfl) ?_
      refine l_nil ?_
      refine k_cond rfl (fun hc38 => ?_) (fun hc38 => ?_)
      · skip
        refine k_exit ?_
        refine x_hit ?_
        refine k_region ?_
        refine s_run (w_none rfl) rfl (mv_i rfl rfl) ?_
        refine s_run (w_none rfl) rfl (d_add rfl rfl rfl (by omega)) ?_
        refine s_run (w_none rfl) rfl (as_i rfl rfl) ?_
        refine l_nil ?_
        refine k_nil ?_
        refine k_next ?_
        refine ⟨_, _, _, ?_, rfl, ?_, ?_, ⟨i + 1, rfl, rfl, by omega, H.sub (by repeat (first | exact List.Sublist.refl _ | refine List.Sublist.cons_cons _ ?_ | refine List.Sublist.cons _ ?_))⟩⟩
        · omega
        · repeat (first | ((with_reducible refine Eqo.updl _ Eqo.ovr ?_); exact rfl) | ((with_reducible refine Eqo.updl _ (Eqo.ovr2 ?_ ?_) ?_); rotate_left; exact rfl; exact rfl) | ((with_reducible refine Eqo.upd ?_ ?_); rotate_left; exact rfl))
        · refine ⟨?_, trivial⟩
          · exact vi (by omega)
      · have huq : u < 256 ^ wd i := small_of hc38
        refine k_skip ?_
        refine k_seq ?_
        refine k_region ?_
        refine s_run (w_none rfl) rfl (mv_s rfl rfl) ?_
        refine s_run (w_none rfl) rfl (mv_i rfl rfl) ?_
        refine s_run (w_none rfl) rfl (d_iaS rfl (rd_blk (H.blk (g := ga)) rfl) rfl rfl (q := i) rfl (by omega) tu23 ts5) ?_
        refine s_run (w_none rfl) rfl (d_ldR0 rfl (rd_blk (m := 3) (H.blk (g := ga)) rfl) rfl ta5 hwd.2.2.2) ?_
        refine s_eff (e_bsl (xs := [.tmp 42]) (vals := [.int .u8 _]) (vs := [.int .u8 _]) (w_none rfl) rfl rfl rfl rfl rfl rfl tu23 ts5 ty5 rfl rfl rfl H ?_)
        clear H; intro gb W H
        refine s_run (w_none rfl) rfl (as_s rfl rfl) ?_
        refine l_nil ?_
        refine k_seq ?_
        refine k_seq ?_
        refine k_region ?_
        refine s_run (w_none rfl) rfl (as_i rfl rfl) ?_
        refine l_nil ?_
        refine k_block ?_
        refine k_loop 44 [8, 9] (fun mm sl W => ∃ k : Nat, ∃ B2 : Option Addr, ∃ d2 : Nat, wd i - k = mm ∧ sl = [(9, .int .i64 (k : Int)), (8, .slice B2 (k + 1) d2)] ∧ (k ≤ wd i) ∧ (k + 1 ≤ d2 ∧ d2 ≤ 9223372036854775807) ∧ St nT w W [Fact.row 5 1 (.slice B2 (k + 1) d2) (k + 1) ((ah i :: Pk.le u k).map u8v), Fact.row 5 1 (.slice A1 (Pk.int u).length c1) (Pk.int u).length ((Pk.int u).map u8v), Fact.blk gw [.int .i64 2, .int .i64 4, .int .i64 8] 3, Fact.blk ga [.int .u8 253, .int .u8 254, .int .u8 255] 5]) _ _ ⟨0, some ⟨gb, 0, none⟩, 1, rfl, rfl, Nat.zero_le _, ⟨by omega, by omega⟩, H.torow 1 rfl (by decide)⟩ ⟨rfl, rfl, trivial⟩ (fun mm sl ρv W hJ => ?_)
        clear H; obtain ⟨k, B2, d2, rfl, rfl, hk, hd, H⟩ := hJ
        refine k_one ?_
        refine k_seq ?_
        refine k_seq ?_
        refine k_region ?_
        refine s_run (w_none rfl) rfl (mv_i rfl rfl) ?_
        refine s_run (w_none rfl) rfl (mv_s rfl rfl) ?_
        refine s_run (w_none rfl) rfl (mv_i rfl rfl) ?_
        refine s_run (w_none rfl) rfl (d_iaS rfl (rd_blk (H.blk (g := gw)) rfl) rfl rfl (q := i) rfl (by omega) tu24 ts3) ?_
        refine s_run (w_none rfl) rfl (d_ldR0 rfl (rd_blk (m := 3) (H.blk (g := gw)) rfl) rfl ta3 hwd.2.2.1) ?_
        refine s_run (w_none rfl) rfl (d_lt rfl rfl rfl) ?_
        refine l_nil ?_
        refine k_cond rfl (fun hc49 => ?_) (fun hc49 => ?_)
        · first | (replace hc49 := of_decide_eq_true hc49) | simp at hc49
          refine k_skip ?_
          refine k_seq ?_
          refine k_block ?_
          refine k_region ?_
          refine s_run (w_none rfl) rfl (mv_s rfl rfl) ?_
          refine s_run (w_none rfl) rfl (mv_i rfl rfl) ?_
          refine s_run (w_none rfl) rfl (mv_i rfl rfl) ?_
          refine s_run (w_none rfl) rfl (d_mul rfl rfl rfl (by omega)) ?_
          refine s_run (w_none rfl) rfl (d_conv rfl rfl (by rw [tu3]; rfl) tu26 (IntWalk.u64_in _ (by omega))) ?_
          refine s_run (w_none rfl) rfl (d_shr rfl rfl rfl (m := 8 * k) rfl (by show 8 * k ≤ 64; omega)) ?_
          refine s_run (w_none rfl) rfl (d_conv rfl rfl (by rw [tu22]; rfl) tu5 (u8_eq (shr_le u k))) ?_
          refine s_eff (e_bsl (xs := [.tmp 58]) (vals := [.int .u8 _]) (vs := [.int .u8 _]) (w_none rfl) rfl rfl rfl rfl rfl rfl tu23 ts5 ty5 rfl rfl rfl H ?_)
          clear H; intro g13_7 W H
          refine s_eff (e_app (w_none rfl) rfl rfl tu23 tx5 rfl rfl rfl H (rd_blk H.blk rfl) (rfl) (by omega) rfl ?_)
          clear H; intro A2 c2 W hc2 hd2 H
          replace H := H.drop
          refine s_run (w_none rfl) rfl (as_s rfl rfl) ?_
          refine l_nil ?_
          refine k_nil ?_
          refine b_end ?_
          refine k_region ?_
          refine s_run (w_none rfl) rfl (mv_i rfl rfl) ?_
          refine s_run (w_none rfl) rfl (d_add rfl rfl rfl (by omega)) ?_
          refine s_run (w_none rfl) rfl (as_i rfl rfl) ?_
          refine l_nil ?_
          refine k_nil ?_
          refine k_next ?_
          refine ⟨_, _, _, ?_, rfl, ?_, ?_, ⟨k + 1, A2, c2, rfl, rfl, by omega, ⟨by omega, hd2⟩, by rw [Pk.le_succ, ← List.cons_append, List.map_append]; exact H⟩⟩
          · omega
          · repeat (first | ((with_reducible refine Eqo.updl _ Eqo.ovr ?_); exact rfl) | ((with_reducible refine Eqo.updl _ (Eqo.ovr2 ?_ ?_) ?_); rotate_left; exact rfl; exact rfl) | ((with_reducible refine Eqo.upd ?_ ?_); rotate_left; exact rfl))
          · refine ⟨?_, ?_, trivial⟩
            · exact vi (by omega)
            · exact rfl
        · first | (replace hc49 := of_decide_eq_false hc49) | simp at hc49
          refine k_exit ?_
          refine x_then (x_then ?_)
          refine x_hit ?_
          refine k_seq ?_
          obtain rfl : k = wd i := by omega
          refine k_region ?_
          refine s_run (w_none rfl) rfl (mv_s rfl rfl) ?_
          refine s_eff (e_call (w_none rfl) rfl rfl Tryd.func19 rfl rfl rfl (prgRead (l := (ah i :: Pk.le u (wd i))) _ (H.rowbs (A := B2) (by simp [Pk.len_le])) (by simp [Pk.len_le]; omega)) ?_)
          rintro _ W ⟨r3, A3, c3, rfl, hS⟩
          replace H := H.add hS
          clear hS
          simp only [List.cons_append, List.nil_append] at H
          refine s_run (w_none rfl) rfl (as_p rfl rfl) ?_
          refine l_nil ?_
          refine k_seq ?_
          refine k_region ?_
          refine s_run (w_none rfl) rfl (mv_p rfl rfl) ?_
          refine s_eff (e_call (w_none rfl) rfl rfl Tryd.func20 rfl rfl rfl (prgInt _ (H.get (f := RdP 5 96 r3 A3 (ah i :: Pk.le u (wd i)).length c3 ((ah i :: Pk.le u (wd i)), 0))) ⟨fun h => absurd rfl h, by simp, by simp⟩ (H.gat hG) (H.away (f := RdP 5 96 r3 A3 (ah i :: Pk.le u (wd i)).length c3 ((ah i :: Pk.le u (wd i)), 0)) hG.1)) ?_)
          rintro _ W ⟨rfl, hp, hf⟩
          replace H := H.mut (f := RdP 5 96 r3 A3 (ah i :: Pk.le u (wd i)).length c3 ((ah i :: Pk.le u (wd i)), 0)) (f' := RdP 5 96 r3 A3 (ah i :: Pk.le u (wd i)).length c3 (Pk.rInt ((ah i :: Pk.le u (wd i)), 0)).2) hf hp (fun _ h => h)
          clear hp hf
          refine s_run (w_none rfl) rfl (as_i rfl rfl) ?_
          refine l_nil ?_
          refine k_seq ?_
          refine k_region ?_
          refine s_run (w_none rfl) rfl (as_i rfl rfl) ?_
          refine l_nil ?_
          refine k_seq ?_
          refine k_seq ?_
          refine k_region ?_
          refine s_run (w_none rfl) rfl (mv_i rfl rfl) ?_
          refine s_run (w_none rfl) rfl (d_lt rfl rfl rfl) ?_
          refine l_nil ?_
          refine k_cond rfl (fun hc66 => ?_) (fun hc66 => ?_)
          · first | (replace hc66 := of_decide_eq_true hc66) | simp at hc66
            refine k_region ?_
            refine s_run (w_none rfl) rfl (as_i rfl rfl) ?_
            refine l_nil ?_
            have hr := form_read hi3 huq
            rw [if_pos (hneg (by omega))] at hr
            rw [hr] at H ⊢
            refine k_seq ?_
            refine k_region ?_
            refine s_run (w_none rfl) rfl (mv_p rfl rfl) ?_
            refine s_eff (e_call (w_none rfl) rfl rfl Tryd.func21 rfl rfl rfl (prgEnd _ (H.get (f := RdP 5 96 r3 A3 (ah i :: Pk.le u (wd i)).length c3 ([], 15)))) ?_)
            rintro _ W ⟨rfl, hb⟩
            replace H := H.below hb
            clear hb
            refine s_run (w_none rfl) rfl (mv_i rfl rfl) ?_
            refine s_run (w_none rfl) rfl (d_ne rfl rfl rfl) ?_
            refine s_run (w_none rfl) rfl (mv_bx (c := false) rfl rfl (by decide)) ?_
            refine s_run (w_g rfl rfl rfl rfl) rfl (mv_i rfl rfl) ?_
            refine s_run (w_g rfl rfl rfl rfl) rfl (d_eq rfl rfl rfl) ?_
            refine s_run (w_g rfl rfl rfl rfl) rfl (mv_bx (c := false) rfl rfl (by decide)) ?_
            refine s_skip (w_gno rfl rfl rfl rfl rfl) rfl ?_
            refine s_skip (w_gno rfl rfl rfl rfl rfl) rfl ?_
            refine s_skip (w_gno rfl rfl rfl rfl rfl) rfl ?_
            refine s_skip (w_gno rfl rfl rfl rfl rfl) rfl ?_
            refine s_skip (w_gu rfl rfl rfl rfl rfl) rfl ?_
            refine s_skip (w_gu rfl rfl rfl rfl rfl) rfl ?_
            refine s_skip (w_gu rfl rfl rfl rfl rfl) rfl ?_
            refine s_skip (w_gu rfl rfl rfl rfl rfl) rfl ?_
            refine s_skip (w_gno rfl rfl rfl rfl rfl) rfl ?_
            refine s_run (w_g rfl rfl rfl rfl) rfl (d_pickF rfl rfl rfl) ?_
            refine s_run (w_none rfl) rfl (d_pickF rfl rfl rfl) ?_
            refine s_run (w_none rfl) rfl (mv_bx (c := false) rfl rfl (rfl)) ?_
            refine s_run (w_g rfl rfl rfl rfl) rfl (mv_i rfl rfl) ?_
            refine s_run (w_g rfl rfl rfl rfl) rfl (d_ne rfl rfl rfl) ?_
            refine s_run (w_g rfl rfl rfl rfl) rfl (mv_bx (c := true) rfl rfl (by decide)) ?_
            refine s_run (w_g rfl rfl rfl rfl) rfl (mv_i rfl rfl) ?_
            refine s_run (w_g rfl rfl rfl rfl) rfl (d_ne rfl rfl rfl) ?_
            refine s_run (w_g rfl rfl rfl rfl) rfl (d_pickT rfl rfl rfl) ?_
            refine s_run (w_none rfl) rfl (d_pickF rfl rfl rfl) ?_
            refine l_nil ?_
            refine k_condF rfl (by first | (simp; done) | (simp; omega)) ?_
            refine k_skip ?_
            refine k_nil ?_
            refine b_end ?_
            refine k_region ?_
            refine s_run (w_none rfl) rfl (mv_i rfl rfl) ?_
            refine s_run (w_none rfl) rfl (d_add rfl rfl rfl (by omega)) ?_
            refine s_run (w_none rfl) rfl (as_i rfl rfl) ?_
            refine l_nil ?_
            refine k_nil ?_
            refine k_next ?_
            refine ⟨_, _, _, ?_, rfl, ?_, ?_, ⟨i + 1, rfl, rfl, by omega, H.sub (by repeat (first | exact List.Sublist.refl _ | refine List.Sublist.cons_cons _ ?_ | refine List.Sublist.cons _ ?_))⟩⟩
            · omega
            · repeat (first | ((with_reducible refine Eqo.updl _ Eqo.ovr ?_); exact rfl) | ((with_reducible refine Eqo.updl _ (Eqo.ovr2 ?_ ?_) ?_); rotate_left; exact rfl; exact rfl) | ((with_reducible refine Eqo.upd ?_ ?_); rotate_left; exact rfl))
            · refine ⟨?_, trivial⟩
              · exact vi (by omega)
          · first | (replace hc66 := of_decide_eq_false hc66) | simp at hc66
            refine k_seq ?_
            have h63 : u < 9223372036854775808 := by have := hnu (by omega); omega
            have hfl := form_len hi3 huq h63
            refine k_region ?_
            refine s_run (w_none rfl) rfl (mv_s rfl rfl) ?_
            refine s_run (w_none rfl) rfl (d_len rfl rfl tu23) ?_
            refine s_run (w_none rfl) rfl (mv_s rfl rfl) ?_
            refine s_run (w_none rfl) rfl (d_len rfl rfl tu23) ?_
            refine s_run (w_none rfl) rfl (d_lt rfl rfl rfl) ?_
            refine l_nil ?_
            refine k_cond rfl (fun hc71 => ?_) (fun hc71 => ?_)
            · replace hc71 := of_decide_eq_true hc71
              refine k_region ?_
              refine s_run (w_none rfl) rfl (as_i rfl rfl) ?_
              refine l_nil ?_
              have hr := form_read hi3 huq
              rw [if_neg (by omega), if_pos (hfl.1 (by omega))] at hr
              rw [hr] at H ⊢
              refine k_seq ?_
              refine k_region ?_
              refine s_run (w_none rfl) rfl (mv_p rfl rfl) ?_
              refine s_eff (e_call (w_none rfl) rfl rfl Tryd.func21 rfl rfl rfl (prgEnd _ (H.get (f := RdP 5 96 r3 A3 (ah i :: Pk.le u (wd i)).length c3 ([], 10)))) ?_)
              rintro _ W ⟨rfl, hb⟩
              replace H := H.below hb
              clear hb
              refine s_run (w_none rfl) rfl (mv_i rfl rfl) ?_
              refine s_run (w_none rfl) rfl (d_ne rfl rfl rfl) ?_
              refine s_run (w_none rfl) rfl (mv_bx (c := false) rfl rfl (by decide)) ?_
              refine s_run (w_g rfl rfl rfl rfl) rfl (mv_i rfl rfl) ?_
              refine s_run (w_g rfl rfl rfl rfl) rfl (d_eq rfl rfl rfl) ?_
              refine s_run (w_g rfl rfl rfl rfl) rfl (mv_bx (c := false) rfl rfl (by decide)) ?_
              refine s_skip (w_gno rfl rfl rfl rfl rfl) rfl ?_
              refine s_skip (w_gno rfl rfl rfl rfl rfl) rfl ?_
              refine s_skip (w_gno rfl rfl rfl rfl rfl) rfl ?_
              refine s_skip (w_gno rfl rfl rfl rfl rfl) rfl ?_
              refine s_skip (w_gu rfl rfl rfl rfl rfl) rfl ?_
              refine s_skip (w_gu rfl rfl rfl rfl rfl) rfl ?_
              refine s_skip (w_gu rfl rfl rfl rfl rfl) rfl ?_
              refine s_skip (w_gu rfl rfl rfl rfl rfl) rfl ?_
              refine s_skip (w_gno rfl rfl rfl rfl rfl) rfl ?_
              refine s_run (w_g rfl rfl rfl rfl) rfl (d_pickF rfl rfl rfl) ?_
              refine s_run (w_none rfl) rfl (d_pickF rfl rfl rfl) ?_
              refine s_run (w_none rfl) rfl (mv_bx (c := false) rfl rfl (rfl)) ?_
              refine s_run (w_g rfl rfl rfl rfl) rfl (mv_i rfl rfl) ?_
              refine s_run (w_g rfl rfl rfl rfl) rfl (d_ne rfl rfl rfl) ?_
              refine s_run (w_g rfl rfl rfl rfl) rfl (mv_bx (c := true) rfl rfl (by decide)) ?_
              refine s_run (w_g rfl rfl rfl rfl) rfl (mv_i rfl rfl) ?_
              refine s_run (w_g rfl rfl rfl rfl) rfl (d_ne rfl rfl rfl) ?_
              refine s_run (w_g rfl rfl rfl rfl) rfl (d_pickT rfl rfl rfl) ?_
              refine s_run (w_none rfl) rfl (d_pickF rfl rfl rfl) ?_
              refine l_nil ?_
              refine k_condF rfl (by first | (simp; done) | (simp; omega)) ?_
              refine k_skip ?_
              refine k_nil ?_
              refine b_end ?_
              refine k_region ?_
              refine s_run (w_none rfl) rfl (mv_i rfl rfl) ?_
              refine s_run (w_none rfl) rfl (d_add rfl rfl rfl (by omega)) ?_
              refine s_run (w_none rfl) rfl (as_i rfl rfl) ?_
              refine l_nil ?_
              refine k_nil ?_
              refine k_next ?_
              refine ⟨_, _, _, ?_, rfl, ?_, ?_, ⟨i + 1, rfl, rfl, by omega, H.sub (by repeat (first | exact List.Sublist.refl _ | refine List.Sublist.cons_cons _ ?_ | refine List.Sublist.cons _ ?_))⟩⟩
              · omega
              · repeat (first | ((with_reducible refine Eqo.updl _ Eqo.ovr ?_); exact rfl) | ((with_reducible refine Eqo.updl _ (Eqo.ovr2 ?_ ?_) ?_); rotate_left; exact rfl; exact rfl) | ((with_reducible refine Eqo.upd ?_ ?_); rotate_left; exact rfl))
              · refine ⟨?_, trivial⟩
                · exact vi (by omega)
            · replace hc71 := of_decide_eq_false hc71
              have hnl : ¬ u < Pk.least (ah i) := fun h => by have := hfl.2 h; omega
              have hown := form_own hi3 huq h63 hnl
              have hr := form_read hi3 huq
              rw [if_neg (by omega), if_neg hnl] at hr
              rw [hr] at H ⊢
              refine k_skip ?_
              refine k_seq ?_
              refine k_region ?_
              refine s_run (w_none rfl) rfl (mv_p rfl rfl) ?_
              refine s_eff (e_call (w_none rfl) rfl rfl Tryd.func21 rfl rfl rfl (prgEnd _ (H.get (f := RdP 5 96 r3 A3 (ah i :: Pk.le u (wd i)).length c3 ([], 0)))) ?_)
              rintro _ W ⟨rfl, hb⟩
              replace H := H.below hb
              clear hb
              refine s_run (w_none rfl) rfl (mv_i rfl rfl) ?_
              refine s_run (w_none rfl) rfl (d_ne rfl rfl rfl) ?_
              refine s_run (w_none rfl) rfl (mv_bx (c := false) rfl rfl (by decide)) ?_
              refine s_run (w_g rfl rfl rfl rfl) rfl (mv_i rfl rfl) ?_
              refine s_run (w_g rfl rfl rfl rfl) rfl (d_eq rfl rfl rfl) ?_
              refine s_run (w_g rfl rfl rfl rfl) rfl (mv_bx (c := true) rfl rfl (by decide)) ?_
              refine s_run (w_g rfl rfl rfl rfl) rfl (mv_i rfl rfl) ?_
              refine s_run (w_g rfl rfl rfl rfl) rfl (mv_i rfl rfl) ?_
              refine s_run (w_g rfl rfl rfl rfl) rfl (d_ne rfl rfl rfl) ?_
              refine s_run (w_g rfl rfl rfl rfl) rfl (mv_bx (c := false) rfl rfl (by rw [hnu (by omega)]; simp)) ?_
              refine s_run (w_g rfl rfl rfl rfl) rfl (mv_s rfl rfl) ?_
              refine s_run (w_g rfl rfl rfl rfl) rfl (mv_s rfl rfl) ?_
              refine s_eff (e_call (w_g rfl rfl rfl rfl) rfl rfl Tryd.func22 rfl rfl rfl (sameBytes _ _ (Pk.int u) (ah i :: Pk.le u (wd i)) _ (H.rowbs (A := A1) rfl) (H.rowbs (A := B2) (by simp [Pk.len_le]))) ?_)
              rw [decide_eq_true hown]
              rintro _ W ⟨rfl, hb⟩
              replace H := H.below hb
              clear hb
              refine s_run (w_g rfl rfl rfl rfl) rfl (d_not rfl rfl) ?_
              refine s_run (w_g rfl rfl rfl rfl) rfl (d_pickF rfl rfl rfl) ?_
              refine s_run (w_g rfl rfl rfl rfl) rfl (d_pickT rfl rfl rfl) ?_
              refine s_run (w_none rfl) rfl (d_pickF rfl rfl rfl) ?_
              refine s_run (w_none rfl) rfl (mv_bx (c := false) rfl rfl (rfl)) ?_
              refine s_run (w_g rfl rfl rfl rfl) rfl (mv_i rfl rfl) ?_
              refine s_run (w_g rfl rfl rfl rfl) rfl (d_ne rfl rfl rfl) ?_
              refine s_run (w_g rfl rfl rfl rfl) rfl (mv_bx (c := false) rfl rfl (by decide)) ?_
              refine s_skip (w_gno rfl rfl rfl rfl rfl) rfl ?_
              refine s_skip (w_gno rfl rfl rfl rfl rfl) rfl ?_
              refine s_run (w_g rfl rfl rfl rfl) rfl (d_pickF rfl rfl rfl) ?_
              refine s_run (w_none rfl) rfl (d_pickF rfl rfl rfl) ?_
              refine l_nil ?_
              refine k_condF rfl (by first | (simp; done) | (simp; omega)) ?_
              refine k_skip ?_
              refine k_nil ?_
              refine b_end ?_
              refine k_region ?_
              refine s_run (w_none rfl) rfl (mv_i rfl rfl) ?_
              refine s_run (w_none rfl) rfl (d_add rfl rfl rfl (by omega)) ?_
              refine s_run (w_none rfl) rfl (as_i rfl rfl) ?_
              refine l_nil ?_
              refine k_nil ?_
              refine k_next ?_
              refine ⟨_, _, _, ?_, rfl, ?_, ?_, ⟨i + 1, rfl, rfl, by omega, H.sub (by repeat (first | exact List.Sublist.refl _ | refine List.Sublist.cons_cons _ ?_ | refine List.Sublist.cons _ ?_))⟩⟩
              · omega
              · repeat (first | ((with_reducible refine Eqo.updl _ Eqo.ovr ?_); exact rfl) | ((with_reducible refine Eqo.updl _ (Eqo.ovr2 ?_ ?_) ?_); rotate_left; exact rfl; exact rfl) | ((with_reducible refine Eqo.upd ?_ ?_); rotate_left; exact rfl))
              · refine ⟨?_, trivial⟩
                · exact vi (by omega)
    · have huq : u < 256 ^ wd i := by rw [show wd i = 8 by omega]; exact hlt
      refine k_region ?_
      refine s_run (w_none rfl) rfl (mv_s rfl rfl) ?_
      refine s_run (w_none rfl) rfl (mv_i rfl rfl) ?_
      refine s_run (w_none rfl) rfl (d_iaS rfl (rd_blk (H.blk (g := gw)) rfl) rfl rfl (q := i) rfl (by omega) tu24 ts3) ?_
      refine s_run (w_none rfl) rfl (d_ldR0 rfl (rd_blk (m := 3) (H.blk (g := gw)) rfl) rfl ta3 hwd.2.2.1) ?_
      refine s_run (w_none rfl) rfl (d_lt rfl rfl rfl) ?_
      refine s_run (w_none rfl) rfl (mv_bx (c := false) rfl rfl (by simp; omega)) ?_
      refine s_skip (w_gno rfl rfl rfl rfl rfl) rfl ?_
      refine s_skip (w_gno rfl rfl rfl rfl rfl) rfl ?_
      refine s_skip (w_gno rfl rfl rfl rfl rfl) rfl ?_
      refine s_skip (w_gno rfl rfl rfl rfl rfl) rfl ?_
      refine s_skip (w_gno rfl rfl rfl rfl rfl) rfl ?_
      refine s_skip (w_gno rfl rfl rfl rfl rfl) rfl ?_
      refine s_skip (w_gno rfl rfl rfl rfl rfl) rfl ?_
      refine s_skip (w_gno rfl rfl rfl rfl rfl) rfl ?_
      refine s_skip (w_gno rfl rfl rfl rfl rfl) rfl ?_
      refine s_run (w_none rfl) rfl (d_pickF rfl rfl rfl) ?_
      refine l_nil ?_
      refine k_condF rfl (by first | (simp; done) | (simp; omega)) ?_
      refine k_skip ?_
      refine k_seq ?_
      refine k_region ?_
      refine s_run (w_none rfl) rfl (mv_s rfl rfl) ?_
      refine s_run (w_none rfl) rfl (mv_i rfl rfl) ?_
      refine s_run (w_none rfl) rfl (d_iaS rfl (rd_blk (H.blk (g := ga)) rfl) rfl rfl (q := i) rfl (by omega) tu23 ts5) ?_
      refine s_run (w_none rfl) rfl (d_ldR0 rfl (rd_blk (m := 3) (H.blk (g := ga)) rfl) rfl ta5 hwd.2.2.2) ?_
      refine s_eff (e_bsl (xs := [.tmp 42]) (vals := [.int .u8 _]) (vs := [.int .u8 _]) (w_none rfl) rfl rfl rfl rfl rfl rfl tu23 ts5 ty5 rfl rfl rfl H ?_)
      clear H; intro gb W H
      refine s_run (w_none rfl) rfl (as_s rfl rfl) ?_
      refine l_nil ?_
      refine k_seq ?_
      refine k_seq ?_
      refine k_region ?_
      refine s_run (w_none rfl) rfl (as_i rfl rfl) ?_
      refine l_nil ?_
      refine k_block ?_
      refine k_loop 44 [8, 9] (fun mm sl W => ∃ k : Nat, ∃ B2 : Option Addr, ∃ d2 : Nat, wd i - k = mm ∧ sl = [(9, .int .i64 (k : Int)), (8, .slice B2 (k + 1) d2)] ∧ (k ≤ wd i) ∧ (k + 1 ≤ d2 ∧ d2 ≤ 9223372036854775807) ∧ St nT w W [Fact.row 5 1 (.slice B2 (k + 1) d2) (k + 1) ((ah i :: Pk.le u k).map u8v), Fact.row 5 1 (.slice A1 (Pk.int u).length c1) (Pk.int u).length ((Pk.int u).map u8v), Fact.blk gw [.int .i64 2, .int .i64 4, .int .i64 8] 3, Fact.blk ga [.int .u8 253, .int .u8 254, .int .u8 255] 5]) _ _ ⟨0, some ⟨gb, 0, none⟩, 1, rfl, rfl, Nat.zero_le _, ⟨by omega, by omega⟩, H.torow 1 rfl (by decide)⟩ ⟨rfl, rfl, trivial⟩ (fun mm sl ρv W hJ => ?_)
      clear H; obtain ⟨k, B2, d2, rfl, rfl, hk, hd, H⟩ := hJ
      refine k_one ?_
      refine k_seq ?_
      refine k_seq ?_
      refine k_region ?_
      refine s_run (w_none rfl) rfl (mv_i rfl rfl) ?_
      refine s_run (w_none rfl) rfl (mv_s rfl rfl) ?_
      refine s_run (w_none rfl) rfl (mv_i rfl rfl) ?_
      refine s_run (w_none rfl) rfl (d_iaS rfl (rd_blk (H.blk (g := gw)) rfl) rfl rfl (q := i) rfl (by omega) tu24 ts3) ?_
      refine s_run (w_none rfl) rfl (d_ldR0 rfl (rd_blk (m := 3) (H.blk (g := gw)) rfl) rfl ta3 hwd.2.2.1) ?_
      refine s_run (w_none rfl) rfl (d_lt rfl rfl rfl) ?_
      refine l_nil ?_
      refine k_cond rfl (fun hc49 => ?_) (fun hc49 => ?_)
      · first | (replace hc49 := of_decide_eq_true hc49) | simp at hc49
        refine k_skip ?_
        refine k_seq ?_
        refine k_block ?_
        refine k_region ?_
        refine s_run (w_none rfl) rfl (mv_s rfl rfl) ?_
        refine s_run (w_none rfl) rfl (mv_i rfl rfl) ?_
        refine s_run (w_none rfl) rfl (mv_i rfl rfl) ?_
        refine s_run (w_none rfl) rfl (d_mul rfl rfl rfl (by omega)) ?_
        refine s_run (w_none rfl) rfl (d_conv rfl rfl (by rw [tu3]; rfl) tu26 (IntWalk.u64_in _ (by omega))) ?_
        refine s_run (w_none rfl) rfl (d_shr rfl rfl rfl (m := 8 * k) rfl (by show 8 * k ≤ 64; omega)) ?_
        refine s_run (w_none rfl) rfl (d_conv rfl rfl (by rw [tu22]; rfl) tu5 (u8_eq (shr_le u k))) ?_
        refine s_eff (e_bsl (xs := [.tmp 58]) (vals := [.int .u8 _]) (vs := [.int .u8 _]) (w_none rfl) rfl rfl rfl rfl rfl rfl tu23 ts5 ty5 rfl rfl rfl H ?_)
        clear H; intro g13_7 W H
        refine s_eff (e_app (w_none rfl) rfl rfl tu23 tx5 rfl rfl rfl H (rd_blk H.blk rfl) (rfl) (by omega) rfl ?_)
        clear H; intro A2 c2 W hc2 hd2 H
        replace H := H.drop
        refine s_run (w_none rfl) rfl (as_s rfl rfl) ?_
        refine l_nil ?_
        refine k_nil ?_
        refine b_end ?_
        refine k_region ?_
        refine s_run (w_none rfl) rfl (mv_i rfl rfl) ?_
        refine s_run (w_none rfl) rfl (d_add rfl rfl rfl (by omega)) ?_
        refine s_run (w_none rfl) rfl (as_i rfl rfl) ?_
        refine l_nil ?_
        refine k_nil ?_
        refine k_next ?_
        refine ⟨_, _, _, ?_, rfl, ?_, ?_, ⟨k + 1, A2, c2, rfl, rfl, by omega, ⟨by omega, hd2⟩, by rw [Pk.le_succ, ← List.cons_append, List.map_append]; exact H⟩⟩
        · omega
        · repeat (first | ((with_reducible refine Eqo.updl _ Eqo.ovr ?_); exact rfl) | ((with_reducible refine Eqo.updl _ (Eqo.ovr2 ?_ ?_) ?_); rotate_left; exact rfl; exact rfl) | ((with_reducible refine Eqo.upd ?_ ?_); rotate_left; exact rfl))
        · refine ⟨?_, ?_, trivial⟩
          · exact vi (by omega)
          · exact rfl
      · first | (replace hc49 := of_decide_eq_false hc49) | simp at hc49
        refine k_exit ?_
        refine x_then (x_then ?_)
        refine x_hit ?_
        refine k_seq ?_
        obtain rfl : k = wd i := by omega
        refine k_region ?_
        refine s_run (w_none rfl) rfl (mv_s rfl rfl) ?_
        refine s_eff (e_call (w_none rfl) rfl rfl Tryd.func19 rfl rfl rfl (prgRead (l := (ah i :: Pk.le u (wd i))) _ (H.rowbs (A := B2) (by simp [Pk.len_le])) (by simp [Pk.len_le]; omega)) ?_)
        rintro _ W ⟨r3, A3, c3, rfl, hS⟩
        replace H := H.add hS
        clear hS
        simp only [List.cons_append, List.nil_append] at H
        refine s_run (w_none rfl) rfl (as_p rfl rfl) ?_
        refine l_nil ?_
        refine k_seq ?_
        refine k_region ?_
        refine s_run (w_none rfl) rfl (mv_p rfl rfl) ?_
        refine s_eff (e_call (w_none rfl) rfl rfl Tryd.func20 rfl rfl rfl (prgInt _ (H.get (f := RdP 5 96 r3 A3 (ah i :: Pk.le u (wd i)).length c3 ((ah i :: Pk.le u (wd i)), 0))) ⟨fun h => absurd rfl h, by simp, by simp⟩ (H.gat hG) (H.away (f := RdP 5 96 r3 A3 (ah i :: Pk.le u (wd i)).length c3 ((ah i :: Pk.le u (wd i)), 0)) hG.1)) ?_)
        rintro _ W ⟨rfl, hp, hf⟩
        replace H := H.mut (f := RdP 5 96 r3 A3 (ah i :: Pk.le u (wd i)).length c3 ((ah i :: Pk.le u (wd i)), 0)) (f' := RdP 5 96 r3 A3 (ah i :: Pk.le u (wd i)).length c3 (Pk.rInt ((ah i :: Pk.le u (wd i)), 0)).2) hf hp (fun _ h => h)
        clear hp hf
        refine s_run (w_none rfl) rfl (as_i rfl rfl) ?_
        refine l_nil ?_
        refine k_seq ?_
        refine k_region ?_
        refine s_run (w_none rfl) rfl (as_i rfl rfl) ?_
        refine l_nil ?_
        refine k_seq ?_
        refine k_seq ?_
        refine k_region ?_
        refine s_run (w_none rfl) rfl (mv_i rfl rfl) ?_
        refine s_run (w_none rfl) rfl (d_lt rfl rfl rfl) ?_
        refine l_nil ?_
        refine k_cond rfl (fun hc66 => ?_) (fun hc66 => ?_)
        · first | (replace hc66 := of_decide_eq_true hc66) | simp at hc66
          refine k_region ?_
          refine s_run (w_none rfl) rfl (as_i rfl rfl) ?_
          refine l_nil ?_
          have hr := form_read hi3 huq
          rw [if_pos (hneg (by omega))] at hr
          rw [hr] at H ⊢
          refine k_seq ?_
          refine k_region ?_
          refine s_run (w_none rfl) rfl (mv_p rfl rfl) ?_
          refine s_eff (e_call (w_none rfl) rfl rfl Tryd.func21 rfl rfl rfl (prgEnd _ (H.get (f := RdP 5 96 r3 A3 (ah i :: Pk.le u (wd i)).length c3 ([], 15)))) ?_)
          rintro _ W ⟨rfl, hb⟩
          replace H := H.below hb
          clear hb
          refine s_run (w_none rfl) rfl (mv_i rfl rfl) ?_
          refine s_run (w_none rfl) rfl (d_ne rfl rfl rfl) ?_
          refine s_run (w_none rfl) rfl (mv_bx (c := false) rfl rfl (by decide)) ?_
          refine s_run (w_g rfl rfl rfl rfl) rfl (mv_i rfl rfl) ?_
          refine s_run (w_g rfl rfl rfl rfl) rfl (d_eq rfl rfl rfl) ?_
          refine s_run (w_g rfl rfl rfl rfl) rfl (mv_bx (c := false) rfl rfl (by decide)) ?_
          refine s_skip (w_gno rfl rfl rfl rfl rfl) rfl ?_
          refine s_skip (w_gno rfl rfl rfl rfl rfl) rfl ?_
          refine s_skip (w_gno rfl rfl rfl rfl rfl) rfl ?_
          refine s_skip (w_gno rfl rfl rfl rfl rfl) rfl ?_
          refine s_skip (w_gu rfl rfl rfl rfl rfl) rfl ?_
          refine s_skip (w_gu rfl rfl rfl rfl rfl) rfl ?_
          refine s_skip (w_gu rfl rfl rfl rfl rfl) rfl ?_
          refine s_skip (w_gu rfl rfl rfl rfl rfl) rfl ?_
          refine s_skip (w_gno rfl rfl rfl rfl rfl) rfl ?_
          refine s_run (w_g rfl rfl rfl rfl) rfl (d_pickF rfl rfl rfl) ?_
          refine s_run (w_none rfl) rfl (d_pickF rfl rfl rfl) ?_
          refine s_run (w_none rfl) rfl (mv_bx (c := false) rfl rfl (rfl)) ?_
          refine s_run (w_g rfl rfl rfl rfl) rfl (mv_i rfl rfl) ?_
          refine s_run (w_g rfl rfl rfl rfl) rfl (d_ne rfl rfl rfl) ?_
          refine s_run (w_g rfl rfl rfl rfl) rfl (mv_bx (c := true) rfl rfl (by decide)) ?_
          refine s_run (w_g rfl rfl rfl rfl) rfl (mv_i rfl rfl) ?_
          refine s_run (w_g rfl rfl rfl rfl) rfl (d_ne rfl rfl rfl) ?_
          refine s_run (w_g rfl rfl rfl rfl) rfl (d_pickT rfl rfl rfl) ?_
          refine s_run (w_none rfl) rfl (d_pickF rfl rfl rfl) ?_
          refine l_nil ?_
          refine k_condF rfl (by first | (simp; done) | (simp; omega)) ?_
          refine k_skip ?_
          refine k_nil ?_
          refine b_end ?_
          refine k_region ?_
          refine s_run (w_none rfl) rfl (mv_i rfl rfl) ?_
          refine s_run (w_none rfl) rfl (d_add rfl rfl rfl (by omega)) ?_
          refine s_run (w_none rfl) rfl (as_i rfl rfl) ?_
          refine l_nil ?_
          refine k_nil ?_
          refine k_next ?_
          refine ⟨_, _, _, ?_, rfl, ?_, ?_, ⟨i + 1, rfl, rfl, by omega, H.sub (by repeat (first | exact List.Sublist.refl _ | refine List.Sublist.cons_cons _ ?_ | refine List.Sublist.cons _ ?_))⟩⟩
          · omega
          · repeat (first | ((with_reducible refine Eqo.updl _ Eqo.ovr ?_); exact rfl) | ((with_reducible refine Eqo.updl _ (Eqo.ovr2 ?_ ?_) ?_); rotate_left; exact rfl; exact rfl) | ((with_reducible refine Eqo.upd ?_ ?_); rotate_left; exact rfl))
          · refine ⟨?_, trivial⟩
            · exact vi (by omega)
        · first | (replace hc66 := of_decide_eq_false hc66) | simp at hc66
          refine k_seq ?_
          have h63 : u < 9223372036854775808 := by have := hnu (by omega); omega
          have hfl := form_len hi3 huq h63
          refine k_region ?_
          refine s_run (w_none rfl) rfl (mv_s rfl rfl) ?_
          refine s_run (w_none rfl) rfl (d_len rfl rfl tu23) ?_
          refine s_run (w_none rfl) rfl (mv_s rfl rfl) ?_
          refine s_run (w_none rfl) rfl (d_len rfl rfl tu23) ?_
          refine s_run (w_none rfl) rfl (d_lt rfl rfl rfl) ?_
          refine l_nil ?_
          refine k_cond rfl (fun hc71 => ?_) (fun hc71 => ?_)
          · replace hc71 := of_decide_eq_true hc71
            refine k_region ?_
            refine s_run (w_none rfl) rfl (as_i rfl rfl) ?_
            refine l_nil ?_
            have hr := form_read hi3 huq
            rw [if_neg (by omega), if_pos (hfl.1 (by omega))] at hr
            rw [hr] at H ⊢
            refine k_seq ?_
            refine k_region ?_
            refine s_run (w_none rfl) rfl (mv_p rfl rfl) ?_
            refine s_eff (e_call (w_none rfl) rfl rfl Tryd.func21 rfl rfl rfl (prgEnd _ (H.get (f := RdP 5 96 r3 A3 (ah i :: Pk.le u (wd i)).length c3 ([], 10)))) ?_)
            rintro _ W ⟨rfl, hb⟩
            replace H := H.below hb
            clear hb
            refine s_run (w_none rfl) rfl (mv_i rfl rfl) ?_
            refine s_run (w_none rfl) rfl (d_ne rfl rfl rfl) ?_
            refine s_run (w_none rfl) rfl (mv_bx (c := false) rfl rfl (by decide)) ?_
            refine s_run (w_g rfl rfl rfl rfl) rfl (mv_i rfl rfl) ?_
            refine s_run (w_g rfl rfl rfl rfl) rfl (d_eq rfl rfl rfl) ?_
            refine s_run (w_g rfl rfl rfl rfl) rfl (mv_bx (c := false) rfl rfl (by decide)) ?_
            refine s_skip (w_gno rfl rfl rfl rfl rfl) rfl ?_
            refine s_skip (w_gno rfl rfl rfl rfl rfl) rfl ?_
            refine s_skip (w_gno rfl rfl rfl rfl rfl) rfl ?_
            refine s_skip (w_gno rfl rfl rfl rfl rfl) rfl ?_
            refine s_skip (w_gu rfl rfl rfl rfl rfl) rfl ?_
            refine s_skip (w_gu rfl rfl rfl rfl rfl) rfl ?_
            refine s_skip (w_gu rfl rfl rfl rfl rfl) rfl ?_
            refine s_skip (w_gu rfl rfl rfl rfl rfl) rfl ?_
            refine s_skip (w_gno rfl rfl rfl rfl rfl) rfl ?_
            refine s_run (w_g rfl rfl rfl rfl) rfl (d_pickF rfl rfl rfl) ?_
            refine s_run (w_none rfl) rfl (d_pickF rfl rfl rfl) ?_
            refine s_run (w_none rfl) rfl (mv_bx (c := false) rfl rfl (rfl)) ?_
            refine s_run (w_g rfl rfl rfl rfl) rfl (mv_i rfl rfl) ?_
            refine s_run (w_g rfl rfl rfl rfl) rfl (d_ne rfl rfl rfl) ?_
            refine s_run (w_g rfl rfl rfl rfl) rfl (mv_bx (c := true) rfl rfl (by decide)) ?_
            refine s_run (w_g rfl rfl rfl rfl) rfl (mv_i rfl rfl) ?_
            refine s_run (w_g rfl rfl rfl rfl) rfl (d_ne rfl rfl rfl) ?_
            refine s_run (w_g rfl rfl rfl rfl) rfl (d_pickT rfl rfl rfl) ?_
            refine s_run (w_none rfl) rfl (d_pickF rfl rfl rfl) ?_
            refine l_nil ?_
            refine k_condF rfl (by first | (simp; done) | (simp; omega)) ?_
            refine k_skip ?_
            refine k_nil ?_
            refine b_end ?_
            refine k_region ?_
            refine s_run (w_none rfl) rfl (mv_i rfl rfl) ?_
            refine s_run (w_none rfl) rfl (d_add rfl rfl rfl (by omega)) ?_
            refine s_run (w_none rfl) rfl (as_i rfl rfl) ?_
            refine l_nil ?_
            refine k_nil ?_
            refine k_next ?_
            refine ⟨_, _, _, ?_, rfl, ?_, ?_, ⟨i + 1, rfl, rfl, by omega, H.sub (by repeat (first | exact List.Sublist.refl _ | refine List.Sublist.cons_cons _ ?_ | refine List.Sublist.cons _ ?_))⟩⟩
            · omega
            · repeat (first | ((with_reducible refine Eqo.updl _ Eqo.ovr ?_); exact rfl) | ((with_reducible refine Eqo.updl _ (Eqo.ovr2 ?_ ?_) ?_); rotate_left; exact rfl; exact rfl) | ((with_reducible refine Eqo.upd ?_ ?_); rotate_left; exact rfl))
            · refine ⟨?_, trivial⟩
              · exact vi (by omega)
          · replace hc71 := of_decide_eq_false hc71
            have hnl : ¬ u < Pk.least (ah i) := fun h => by have := hfl.2 h; omega
            have hown := form_own hi3 huq h63 hnl
            have hr := form_read hi3 huq
            rw [if_neg (by omega), if_neg hnl] at hr
            rw [hr] at H ⊢
            refine k_skip ?_
            refine k_seq ?_
            refine k_region ?_
            refine s_run (w_none rfl) rfl (mv_p rfl rfl) ?_
            refine s_eff (e_call (w_none rfl) rfl rfl Tryd.func21 rfl rfl rfl (prgEnd _ (H.get (f := RdP 5 96 r3 A3 (ah i :: Pk.le u (wd i)).length c3 ([], 0)))) ?_)
            rintro _ W ⟨rfl, hb⟩
            replace H := H.below hb
            clear hb
            refine s_run (w_none rfl) rfl (mv_i rfl rfl) ?_
            refine s_run (w_none rfl) rfl (d_ne rfl rfl rfl) ?_
            refine s_run (w_none rfl) rfl (mv_bx (c := false) rfl rfl (by decide)) ?_
            refine s_run (w_g rfl rfl rfl rfl) rfl (mv_i rfl rfl) ?_
            refine s_run (w_g rfl rfl rfl rfl) rfl (d_eq rfl rfl rfl) ?_
            refine s_run (w_g rfl rfl rfl rfl) rfl (mv_bx (c := true) rfl rfl (by decide)) ?_
            refine s_run (w_g rfl rfl rfl rfl) rfl (mv_i rfl rfl) ?_
            refine s_run (w_g rfl rfl rfl rfl) rfl (mv_i rfl rfl) ?_
            refine s_run (w_g rfl rfl rfl rfl) rfl (d_ne rfl rfl rfl) ?_
            refine s_run (w_g rfl rfl rfl rfl) rfl (mv_bx (c := false) rfl rfl (by rw [hnu (by omega)]; simp)) ?_
            refine s_run (w_g rfl rfl rfl rfl) rfl (mv_s rfl rfl) ?_
            refine s_run (w_g rfl rfl rfl rfl) rfl (mv_s rfl rfl) ?_
            refine s_eff (e_call (w_g rfl rfl rfl rfl) rfl rfl Tryd.func22 rfl rfl rfl (sameBytes _ _ (Pk.int u) (ah i :: Pk.le u (wd i)) _ (H.rowbs (A := A1) rfl) (H.rowbs (A := B2) (by simp [Pk.len_le]))) ?_)
            rw [decide_eq_true hown]
            rintro _ W ⟨rfl, hb⟩
            replace H := H.below hb
            clear hb
            refine s_run (w_g rfl rfl rfl rfl) rfl (d_not rfl rfl) ?_
            refine s_run (w_g rfl rfl rfl rfl) rfl (d_pickF rfl rfl rfl) ?_
            refine s_run (w_g rfl rfl rfl rfl) rfl (d_pickT rfl rfl rfl) ?_
            refine s_run (w_none rfl) rfl (d_pickF rfl rfl rfl) ?_
            refine s_run (w_none rfl) rfl (mv_bx (c := false) rfl rfl (rfl)) ?_
            refine s_run (w_g rfl rfl rfl rfl) rfl (mv_i rfl rfl) ?_
            refine s_run (w_g rfl rfl rfl rfl) rfl (d_ne rfl rfl rfl) ?_
            refine s_run (w_g rfl rfl rfl rfl) rfl (mv_bx (c := false) rfl rfl (by decide)) ?_
            refine s_skip (w_gno rfl rfl rfl rfl rfl) rfl ?_
            refine s_skip (w_gno rfl rfl rfl rfl rfl) rfl ?_
            refine s_run (w_g rfl rfl rfl rfl) rfl (d_pickF rfl rfl rfl) ?_
            refine s_run (w_none rfl) rfl (d_pickF rfl rfl rfl) ?_
            refine l_nil ?_
            refine k_condF rfl (by first | (simp; done) | (simp; omega)) ?_
            refine k_skip ?_
            refine k_nil ?_
            refine b_end ?_
            refine k_region ?_
            refine s_run (w_none rfl) rfl (mv_i rfl rfl) ?_
            refine s_run (w_none rfl) rfl (d_add rfl rfl rfl (by omega)) ?_
            refine s_run (w_none rfl) rfl (as_i rfl rfl) ?_
            refine l_nil ?_
            refine k_nil ?_
            refine k_next ?_
            refine ⟨_, _, _, ?_, rfl, ?_, ?_, ⟨i + 1, rfl, rfl, by omega, H.sub (by repeat (first | exact List.Sublist.refl _ | refine List.Sublist.cons_cons _ ?_ | refine List.Sublist.cons _ ?_))⟩⟩
            · omega
            · repeat (first | ((with_reducible refine Eqo.updl _ Eqo.ovr ?_); exact rfl) | ((with_reducible refine Eqo.updl _ (Eqo.ovr2 ?_ ?_) ?_); rotate_left; exact rfl; exact rfl) | ((with_reducible refine Eqo.upd ?_ ?_); rotate_left; exact rfl))
            · refine ⟨?_, trivial⟩
              · exact vi (by omega)
  · replace hc20 := of_decide_eq_false hc20
    refine k_exit ?_
    refine x_then (x_then ?_)
    refine x_hit ?_
    refine k_seq ?_
    refine k_seq ?_
    rcases Int.lt_or_le n 0 with h0 | h0
    · have := hneg h0
      refine k_region ?_
      refine s_run (w_none rfl) rfl (mv_i rfl rfl) ?_
      refine s_run (w_none rfl) rfl (d_ge rfl rfl rfl) ?_
      refine s_run (w_none rfl) rfl (mv_bx (c := false) rfl rfl (by simp; omega)) ?_
      refine s_skip (w_gno rfl rfl rfl rfl rfl) rfl ?_
      refine s_skip (w_gno rfl rfl rfl rfl rfl) rfl ?_
      refine s_run (w_none rfl) rfl (d_pickF rfl rfl rfl) ?_
      refine l_nil ?_
      refine k_condF rfl (by first | (simp; done) | (simp; omega)) ?_
      refine k_skip ?_
      refine k_seq ?_
      refine k_region ?_
      refine s_run (w_none rfl) rfl (mv_s rfl rfl) ?_
      refine s_run (w_none rfl) rfl (d_len rfl rfl tu23) ?_
      refine s_run (w_none rfl) rfl (d_gt rfl rfl rfl) ?_
      refine s_run (w_none rfl) rfl (mv_bx (c := true) rfl rfl (by have := int_more (u := u) (by omega); simp; omega)) ?_
      refine s_eff (e_call (w_g rfl rfl rfl rfl) rfl rfl Tryd.func23 rfl rfl rfl (works03 _ (H.gat hG)) ?_)
      rintro _ W ⟨rfl, hb⟩
      replace H := H.below hb
      clear hb
      refine s_run (w_none rfl) rfl (d_pickT rfl rfl rfl) ?_
      refine s_run (w_none rfl) rfl (as_b rfl rfl) ?_
      refine l_nil ?_
      refine k_ret ?_
      repeat (first | refine r_then ?_ | refine r_blk ?_)
      exact q_ret (v := .bool _) rfl rfl ⟨_, rfl, rfl, H.under⟩
    · have := hnu h0
      refine k_region ?_
      refine s_run (w_none rfl) rfl (mv_i rfl rfl) ?_
      refine s_run (w_none rfl) rfl (d_ge rfl rfl rfl) ?_
      refine s_run (w_none rfl) rfl (mv_bx (c := true) rfl rfl (by simp; omega)) ?_
      refine s_run (w_g rfl rfl rfl rfl) rfl (mv_i rfl rfl) ?_
      refine s_run (w_g rfl rfl rfl rfl) rfl (d_lt rfl rfl rfl) ?_
      refine s_run (w_none rfl) rfl (d_pickT rfl rfl rfl) ?_
      refine l_nil ?_
      refine k_cond rfl (fun hc104 => ?_) (fun hc104 => ?_)
      · first | (replace hc104 := of_decide_eq_true hc104) | simp at hc104
        refine k_seq ?_
        refine k_region ?_
        refine s_run (w_none rfl) rfl (mv_s rfl rfl) ?_
        refine s_run (w_none rfl) rfl (mv_i rfl rfl) ?_
        refine s_run (w_none rfl) rfl (d_conv rfl rfl (by rw [tu3]; rfl) tu5 (u8_eq (n := u) (by omega))) ?_
        refine s_eff (e_bsl (xs := [.tmp 107]) (vals := [.int .u8 _]) (vs := [.int .u8 _]) (w_none rfl) rfl rfl rfl rfl rfl rfl tu23 ts5 ty5 rfl rfl rfl H ?_)
        clear H; intro gz W H
        refine s_eff (e_call (w_none rfl) rfl rfl Tryd.func22 rfl rfl rfl (sameBytes _ _ (Pk.int u) [UInt8.ofNat u] _ (H.rowbs (A := A1) rfl) (Bs.mk (S := (· = gz)) (l := [UInt8.ofNat u]) (rd_blk (H.blk (g := gz)) rfl) (by decide) (by decide))) ?_)
        rw [decide_eq_true (Pk.int_1 (by omega))]
        rintro _ W ⟨rfl, hb⟩
        replace H := H.below hb
        clear hb
        refine s_run (w_none rfl) rfl (mv_bx (c := true) rfl rfl (rfl)) ?_
        refine s_eff (e_call (w_g rfl rfl rfl rfl) rfl rfl Tryd.func23 rfl rfl rfl (works03 _ (H.gat hG)) ?_)
        rintro _ W ⟨rfl, hb⟩
        replace H := H.below hb
        clear hb
        refine s_run (w_none rfl) rfl (d_pickT rfl rfl rfl) ?_
        refine s_run (w_none rfl) rfl (as_b rfl rfl) ?_
        refine l_nil ?_
        refine k_ret ?_
        repeat (first | refine r_then ?_ | refine r_blk ?_)
        exact q_ret (v := .bool _) rfl rfl ⟨_, rfl, rfl, H.under⟩
      · first | (replace hc104 := of_decide_eq_false hc104) | simp at hc104
        refine k_skip ?_
        refine k_seq ?_
        refine k_region ?_
        refine s_run (w_none rfl) rfl (mv_s rfl rfl) ?_
        refine s_run (w_none rfl) rfl (d_len rfl rfl tu23) ?_
        refine s_run (w_none rfl) rfl (d_gt rfl rfl rfl) ?_
        refine s_run (w_none rfl) rfl (mv_bx (c := true) rfl rfl (by have := int_more (u := u) (by omega); simp; omega)) ?_
        refine s_eff (e_call (w_g rfl rfl rfl rfl) rfl rfl Tryd.func23 rfl rfl rfl (works03 _ (H.gat hG)) ?_)
        rintro _ W ⟨rfl, hb⟩
        replace H := H.below hb
        clear hb
        refine s_run (w_none rfl) rfl (d_pickT rfl rfl rfl) ?_
        refine s_run (w_none rfl) rfl (as_b rfl rfl) ?_
        refine l_nil ?_
        refine k_ret ?_
        repeat (first | refine r_then ?_ | refine r_blk ?_)
        exact q_ret (v := .bool _) rfl rfl ⟨_, rfl, rfl, H.under⟩
end Go.Proofs.YtejaohlijaodjaaDoor

namespace Go.Proofs.YtejaohlijaodjaaDoor
open Go Go.RowKit
attribute [local irreducible] wpList

namespace Th
def enc (x : DThing) : List UInt8 := if x.kind = 1 then Pk.blob x.b else if x.kind = 2 then x.h else if x.kind = 3 then x.t else Pk.int (Pk.toU x.n)
def lay (l : List DThing) : List UInt8 := (l.map enc).flatten
def Ok (x : DThing) : Prop := (-9223372036854775808 ≤ x.kind ∧ x.kind ≤ 9223372036854775807) ∧ (-9223372036854775808 ≤ x.n ∧ x.n ≤ 9223372036854775807) ∧ x.h.length = 32 ∧ x.t.length = 16
def bigX (x : DThing) : Bool := decide (512 < x.b.length) || ((decide (x.kind < 1) || decide (3 < x.kind)) && decide (x.n < 0))
def big (l : List DThing) : Bool := decide (40 < l.length) || l.any bigX
theorem big_many {l : List DThing} (h : 40 < l.length) : big l = true := by simp [big, h]
theorem big_some {l : List DThing} {i : Nat} {x : DThing} (hx : l[i]? = some x) (h : bigX x = true) : big l = true := by
  unfold big
  rw [List.any_eq_true.2 ⟨x, List.mem_of_getElem? hx, h⟩, Bool.or_true]
theorem any_step {l : List DThing} {i : Nat} {x : DThing} (hx : l[i]? = some x) (h : (l.take i).any bigX = false) (hb : bigX x = false) : (l.take (i + 1)).any bigX = false := by
  rw [take_get hx, List.any_append, h]; simp [hb]
theorem big_none {l : List DThing} (hl : l.length ≤ 40) (h : l.any bigX = false) : big l = false := by simp only [big, h, Bool.or_false]; simp; omega
theorem not_big {l : List DThing} (h : big l = false) : l.length ≤ 40 ∧ ∀ x ∈ l, bigX x = false := by
  unfold big at h
  rw [Bool.or_eq_false_iff] at h
  refine ⟨by have := h.1; simp at this; omega, fun x hx => ?_⟩
  have := List.any_eq_false.1 h.2 x hx
  simpa using this
theorem small {x : DThing} (h : bigX x = false) : x.b.length ≤ 512 ∧ ((x.kind < 1 ∨ 3 < x.kind) → 0 ≤ x.n) := by
  unfold bigX at h
  simp at h
  omega
theorem lay_at {l : List DThing} {i : Nat} {x : DThing} {e : List UInt8} (hx : l[i]? = some x) (he : enc x = e) : lay (l.take (i + 1)) = lay (l.take i) ++ e := by
  unfold lay
  rw [take_get hx, List.map_append, List.flatten_append]
  simp [he]
theorem lay_drop {l : List DThing} {i : Nat} {x : DThing} (hx : l[i]? = some x) : lay (l.drop i) = enc x ++ lay (l.drop (i + 1)) := by
  obtain ⟨h, e⟩ := List.getElem?_eq_some_iff.1 hx
  unfold lay
  rw [List.drop_eq_getElem_cons h, e]
  simp
theorem lay_take {l : List DThing} (i : Nat) : (lay (l.take i)).length ≤ (lay l).length := by
  have e : lay l = lay (l.take i) ++ lay (l.drop i) := by
    unfold lay
    rw [← List.flatten_append, ← List.map_append, List.take_append_drop]
  rw [e, List.length_append]; omega
theorem lay_end {l : List DThing} : lay (l.drop l.length) = [] := by simp [lay]
theorem len_enc {x : DThing} (h : Ok x) (hb : x.b.length ≤ 512) : (enc x).length ≤ 600 := by
  have h1 := Pk.len_int x.b.length
  have h2 := Pk.len_int (Pk.toU x.n)
  obtain ⟨_, _, h3, h4⟩ := h
  unfold enc Pk.blob
  split
  · rw [List.length_append]; omega
  · split
    · omega
    · split <;> omega
theorem len_lay : ∀ {l : List DThing}, (∀ x ∈ l, (enc x).length ≤ 600) → (lay l).length ≤ l.length * 600
  | [], _ => by simp [lay]
  | x :: l, h => by
    have ih := len_lay (l := l) (fun y hy => h y (.tail _ hy))
    have hx := h x (.head _)
    unfold lay at ih ⊢
    rw [List.map_cons, List.flatten_cons, List.length_append, List.length_cons]
    omega
def most (room : Int) (x : DThing) : Int := max x.n (IntKind.i64.wrap (x.n + room))
def rdS (room : Int) (x : DThing) (s : RS) : RS := if x.kind = 1 then (Pk.rBlob ((x.b.length : Int) + room) s).2 else if x.kind = 2 then (Pk.rBytes 32 s).2 else if x.kind = 3 then (Pk.rBytes 16 s).2 else if x.kind = 4 then (Pk.rCount (most room x) s).2 else (Pk.rInt s).2
def rdB (room : Int) (x : DThing) (s : RS) : Bool := if x.kind = 1 then decide ((Pk.rBlob ((x.b.length : Int) + room) s).1 = x.b) else if x.kind = 2 then (Pk.rBytes 32 s).1 == x.h else if x.kind = 3 then (Pk.rBytes 16 s).1 == x.t else if x.kind = 4 then ((Pk.rCount (most room x) s).1 : Int) == x.n else ((Pk.rInt s).1 : Int) == x.n
section
variable {room : Int} {x : DThing} {s : RS}
theorem rd1 (h : x.kind = 1) : rdS room x s = (Pk.rBlob ((x.b.length : Int) + room) s).2 ∧ rdB room x s = decide ((Pk.rBlob ((x.b.length : Int) + room) s).1 = x.b) := by unfold rdS rdB; rw [if_pos h, if_pos h]; exact ⟨rfl, rfl⟩
theorem rd2 (h : x.kind = 2) : rdS room x s = (Pk.rBytes 32 s).2 ∧ rdB room x s = ((Pk.rBytes 32 s).1 == x.h) := by unfold rdS rdB; simp [h]
theorem rd3 (h : x.kind = 3) : rdS room x s = (Pk.rBytes 16 s).2 ∧ rdB room x s = ((Pk.rBytes 16 s).1 == x.t) := by unfold rdS rdB; simp [h]
theorem rd4 (h : x.kind = 4) : rdS room x s = (Pk.rCount (most room x) s).2 ∧ rdB room x s = (((Pk.rCount (most room x) s).1 : Int) == x.n) := by unfold rdS rdB; simp [h]
theorem rd0 (h1 : ¬ x.kind = 1) (h2 : ¬ x.kind = 2) (h3 : ¬ x.kind = 3) (h4 : ¬ x.kind = 4) : rdS room x s = (Pk.rInt s).2 ∧ rdB room x s = (((Pk.rInt s).1 : Int) == x.n) := by unfold rdS rdB; simp [h1, h2, h3, h4]
theorem ok_rdS (h : Pk.Ok s) : Pk.Ok (rdS room x s) := by
  unfold rdS
  split
  · exact Pk.ok_next (Pk.ok_rCount h)
  · split
    · exact Pk.ok_next h
    · split
      · exact Pk.ok_next h
      · split
        · exact Pk.ok_rCount h
        · exact Pk.ok_rInt h
end
theorem most_ge {room : Int} {x : DThing} : x.n ≤ most room x := by unfold most; omega
/-- A thing that was laid is read again. -/
theorem rd_enc {room : Int} {x : DThing} (h : Ok x) (hb : bigX x = false) (hr : 0 ≤ room ∧ room < 1000) (r : List UInt8) : rdS room x (enc x ++ r, 0) = (r, 0) ∧ rdB room x (enc x ++ r, 0) = true := by
  obtain ⟨s1, s2⟩ := small hb
  obtain ⟨_, hn, h3, h4⟩ := h
  have hu : 0 ≤ x.n → Pk.toU x.n = x.n.toNat := fun h0 => Pk.toU_pos _ h0 (by omega)
  by_cases k1 : x.kind = 1
  · rw [(rd1 k1).1, (rd1 k1).2]
    unfold enc
    rw [if_pos k1, Pk.rBlob_blob (by omega) (by omega)]
    simp
  by_cases k2 : x.kind = 2
  · rw [(rd2 k2).1, (rd2 k2).2]
    unfold enc
    rw [if_neg k1, if_pos k2, Pk.rBytes_app h3]
    simp
  by_cases k3 : x.kind = 3
  · rw [(rd3 k3).1, (rd3 k3).2]
    unfold enc
    rw [if_neg k1, if_neg k2, if_pos k3, Pk.rBytes_app h4]
    simp
  have h0 := s2 (by omega)
  have e : enc x = Pk.int (x.n.toNat) := by unfold enc; rw [if_neg k1, if_neg k2, if_neg k3, hu h0]
  by_cases k4 : x.kind = 4
  · have hm := most_ge (room := room) (x := x)
    rw [(rd4 k4).1, (rd4 k4).2, e, Pk.rCount_int (by omega) (by omega)]
    simp; omega
  · rw [(rd0 k1 k2 k3 k4).1, (rd0 k1 k2 k3 k4).2, e, Pk.rInt_int (by omega)]
    simp; omega
theorem rd_lay {room : Int} {l : List DThing} {i : Nat} {x : DThing} {m : List UInt8} (hx : l[i]? = some x) (h : Ok x) (hb : bigX x = false) (hr : 0 ≤ room ∧ room < 1000) : rdS room x (lay (l.drop i) ++ m, 0) = (lay (l.drop (i + 1)) ++ m, 0) ∧ rdB room x (lay (l.drop i) ++ m, 0) = true := by
  rw [lay_drop hx, List.append_assoc]
  exact rd_enc h hb hr _
end Th
/-- A thing, as it lies. -/
theorem thing_of {W : World} {S : Nat → Prop} {cs : List Value} {x : DThing} (h : RThing W S cs x) : ∃ B d, cs = thingC x.kind x.n B x.b.length d x.h x.t ∧ Bs W S (.slice B x.b.length d) x.b ∧ Th.Ok x := by
  obtain ⟨c0, c1, c2, c3, c4, rfl, ⟨rfl, r0⟩, ⟨rfl, r1⟩, ⟨v, rfl, hb⟩, ⟨rfl, r3⟩, ⟨rfl, r4⟩⟩ := h
  obtain ⟨B, d, rfl, _⟩ := hb.op
  exact ⟨B, d, rfl, hb, r0, r1, r3, r4⟩
theorem things_ok {W : World} {S : Nat → Prop} {l : List DThing} {xs : List Value} (h : ∀ (i : Nat) (x : DThing), l[i]? = some x → RThing W S (sub xs (i * 51) 51) x) : ∀ x ∈ l, Th.Ok x := fun x hx => by
  obtain ⟨i, hi⟩ := List.getElem?_of_mem hx
  obtain ⟨_, _, _, _, h⟩ := thing_of (h i x hi)
  exact h
theorem end_iff (m : List UInt8) : ((Pk.rEnd (m, 0) == 0) == ((m.length : Int) == 0)) = true := by
  cases m with
  | nil => decide
  | cons a m =>
    have e : Pk.rEnd (a :: m, 0) = 5 := by unfold Pk.rEnd; rw [if_pos (by simp)]
    rw [e]
    simp
    omega

set_option maxHeartbeats 4000000 in
theorem bigThings {S : Nat → Prop} {v : Value} {l : List DThing} (w : World) (hl : RL 51 RThing w S [v] l) : Calls Tryd.prog 41 [v].toArray w (Ret (Is w (.bool (Th.big l)))) := by
  obtain ⟨A, c, xs, hv, hc, hcm, hr, hel⟩ := hl
  obtain rfl : v = .slice A l.length c := by cases hv; rfl
  refine k_enter (l := [_]) Tryd.func41 rfl rfl ?_
  have H := St.start nT w
  refine k_seq ?_
  refine k_region ?_
  refine s_run (w_none rfl) rfl (as_b rfl rfl) ?_
  refine l_nil ?_
  refine k_seq ?_
  refine k_seq ?_
  refine k_region ?_
  refine s_run (w_none rfl) rfl (mv_s rfl rfl) ?_
  refine s_run (w_none rfl) rfl (d_len rfl rfl tu55) ?_
  refine s_run (w_none rfl) rfl (d_gt rfl rfl rfl) ?_
  refine l_nil ?_
  refine k_cond rfl (fun hc7 => ?_) (fun hc7 => ?_)
  · first | (replace hc7 := of_decide_eq_true hc7) | simp at hc7
    refine k_seq ?_
    refine k_region ?_
    refine s_run (w_none rfl) rfl (as_b rfl rfl) ?_
    refine l_nil ?_
    refine k_ret ?_
    repeat (first | refine r_then ?_ | refine r_blk ?_)
    exact q_ret (v := .bool _) rfl rfl ⟨_, rfl, vb (Th.big_many (by omega)).symm, H.under⟩
  · first | (replace hc7 := of_decide_eq_false hc7) | simp at hc7
    refine k_skip ?_
    refine k_seq ?_
    refine k_seq ?_
    refine k_region ?_
    refine s_run (w_none rfl) rfl (as_i rfl rfl) ?_
    refine l_nil ?_
    refine k_block ?_
    refine k_loop 8 [2, 3, 4] (fun mm sl W => ∃ i : Nat, l.length - i = mm ∧ sl = [(3, .int .i64 (i : Int))] ∧ (i ≤ l.length) ∧ ((l.take i).any Th.bigX = false) ∧ St nT w W []) _ _ ⟨0, rfl, rfl, Nat.zero_le _, rfl, H⟩ ⟨rfl, trivial⟩ (fun mm sl ρv W hJ => ?_)
    clear H; obtain ⟨i, rfl, rfl, hi, hno, H⟩ := hJ
    refine k_one ?_
    refine k_seq ?_
    refine k_seq ?_
    refine k_region ?_
    refine s_run (w_none rfl) rfl (mv_i rfl rfl) ?_
    refine s_run (w_none rfl) rfl (mv_s rfl rfl) ?_
    refine s_run (w_none rfl) rfl (d_len rfl rfl tu55) ?_
    refine s_run (w_none rfl) rfl (d_lt rfl rfl rfl) ?_
    refine l_nil ?_
    refine k_cond rfl (fun hc11 => ?_) (fun hc11 => ?_)
    · replace hc11 := of_decide_eq_true hc11
      have hlt : i < l.length := by omega
      obtain ⟨g0, o0, rfl, -⟩ := hr.2 (by omega)
      obtain ⟨x, hx⟩ := get_lt hlt
      obtain ⟨B, d, hL, hB, hok⟩ := thing_of (hel i x hx)
      have hh := hok.2.2.1
      have ht := hok.2.2.2
      refine k_skip ?_
      refine k_seq ?_
      refine k_block ?_
      refine k_seq ?_
      rcases (show x.kind < 1 ∨ (1 ≤ x.kind ∧ x.kind ≤ 3) ∨ 3 < x.kind by omega) with hk | hk | hk
      · skip
        refine k_region ?_
        refine s_run (w_none rfl) rfl (mv_s rfl rfl) ?_
        refine s_run (w_none rfl) rfl (mv_i rfl rfl) ?_
        refine s_run (w_none rfl) rfl (d_iaG rfl (H.rd hr) rfl rfl (q := i) rfl hlt tu55 ts40) ?_
        refine s_run (w_none rfl) rfl (d_fa rfl rfl tf40_0) ?_
        refine s_run (w_none rfl) rfl (d_ldE (off := 0) rfl (H.rd hr) hlt hL rfl rfl rfl (by omega) ta3) ?_
        refine s_run (w_none rfl) rfl (d_lt rfl rfl rfl) ?_
        refine s_run (w_none rfl) rfl (mv_bx (c := true) rfl rfl (by simp; omega)) ?_
        refine s_skip (w_gno rfl rfl rfl rfl rfl) rfl ?_
        refine s_skip (w_gno rfl rfl rfl rfl rfl) rfl ?_
        refine s_skip (w_gno rfl rfl rfl rfl rfl) rfl ?_
        refine s_skip (w_gno rfl rfl rfl rfl rfl) rfl ?_
        refine s_skip (w_gno rfl rfl rfl rfl rfl) rfl ?_
        refine s_skip (w_gno rfl rfl rfl rfl rfl) rfl ?_
        refine s_run (w_none rfl) rfl (d_pickT rfl rfl rfl) ?_
        refine s_run (w_none rfl) rfl (as_b rfl rfl) ?_
        refine l_nil ?_
        refine k_seq ?_
        rcases Nat.lt_or_ge 512 x.b.length with hm | hm
        · skip
          refine k_region ?_
          refine s_run (w_none rfl) rfl (mv_s rfl rfl) ?_
          refine s_run (w_none rfl) rfl (mv_i rfl rfl) ?_
          refine s_run (w_none rfl) rfl (d_iaG rfl (H.rd hr) rfl rfl (q := i) rfl hlt tu55 ts40) ?_
          refine s_run (w_none rfl) rfl (d_fa rfl rfl tf40_2) ?_
          refine s_run (w_none rfl) rfl (d_ldE (off := 2) rfl (H.rd hr) hlt hL rfl rfl rfl (by omega) ta23) ?_
          refine s_run (w_none rfl) rfl (d_len rfl rfl tu23) ?_
          refine s_run (w_none rfl) rfl (d_gt rfl rfl rfl) ?_
          refine s_run (w_none rfl) rfl (mv_bx (c := true) rfl rfl (by simp; omega)) ?_
          refine s_skip (w_gno rfl rfl rfl rfl rfl) rfl ?_
          refine s_skip (w_gno rfl rfl rfl rfl rfl) rfl ?_
          refine s_skip (w_gu rfl rfl rfl rfl rfl) rfl ?_
          refine s_skip (w_gu rfl rfl rfl rfl rfl) rfl ?_
          refine s_skip (w_gu rfl rfl rfl rfl rfl) rfl ?_
          refine s_skip (w_gu rfl rfl rfl rfl rfl) rfl ?_
          refine s_skip (w_gu rfl rfl rfl rfl rfl) rfl ?_
          refine s_skip (w_gu rfl rfl rfl rfl rfl) rfl ?_
          refine s_skip (w_gno rfl rfl rfl rfl rfl) rfl ?_
          refine s_run (w_none rfl) rfl (d_pickT rfl rfl rfl) ?_
          refine l_nil ?_
          refine k_condT rfl rfl ?_
          refine k_seq ?_
          refine k_region ?_
          refine s_run (w_none rfl) rfl (as_b rfl rfl) ?_
          refine l_nil ?_
          refine k_ret ?_
          repeat (first | refine r_then ?_ | refine r_blk ?_)
          exact q_ret (v := .bool _) rfl rfl ⟨_, rfl, vb (Th.big_some hx (by simp [Th.bigX]; omega)).symm, H.under⟩
        · skip
          refine k_region ?_
          refine s_run (w_none rfl) rfl (mv_s rfl rfl) ?_
          refine s_run (w_none rfl) rfl (mv_i rfl rfl) ?_
          refine s_run (w_none rfl) rfl (d_iaG rfl (H.rd hr) rfl rfl (q := i) rfl hlt tu55 ts40) ?_
          refine s_run (w_none rfl) rfl (d_fa rfl rfl tf40_2) ?_
          refine s_run (w_none rfl) rfl (d_ldE (off := 2) rfl (H.rd hr) hlt hL rfl rfl rfl (by omega) ta23) ?_
          refine s_run (w_none rfl) rfl (d_len rfl rfl tu23) ?_
          refine s_run (w_none rfl) rfl (d_gt rfl rfl rfl) ?_
          refine s_run (w_none rfl) rfl (mv_bx (c := false) rfl rfl (by simp; omega)) ?_
          refine s_run (w_g rfl rfl rfl rfl) rfl (mv_b rfl rfl) ?_
          refine s_run (w_g rfl rfl rfl rfl) rfl (mv_bx (c := true) rfl rfl (rfl)) ?_
          refine s_run (w_g rfl rfl rfl rfl) rfl (mv_s rfl rfl) ?_
          refine s_run (w_g rfl rfl rfl rfl) rfl (mv_i rfl rfl) ?_
          refine s_run (w_g rfl rfl rfl rfl) rfl (d_iaG rfl (H.rd hr) rfl rfl (q := i) rfl hlt tu55 ts40) ?_
          refine s_run (w_g rfl rfl rfl rfl) rfl (d_fa rfl rfl tf40_1) ?_
          refine s_run (w_g rfl rfl rfl rfl) rfl (d_ldE (off := 1) rfl (H.rd hr) hlt hL rfl rfl rfl (by omega) ta3) ?_
          refine s_run (w_g rfl rfl rfl rfl) rfl (d_lt rfl rfl rfl) ?_
          refine s_run (w_g rfl rfl rfl rfl) rfl (d_pickT rfl rfl rfl) ?_
          refine s_run (w_none rfl) rfl (d_pickF rfl rfl rfl) ?_
          refine l_nil ?_
          refine k_cond rfl (fun hc45 => ?_) (fun hc45 => ?_)
          · first | (replace hc45 := of_decide_eq_true hc45) | simp at hc45
            refine k_seq ?_
            refine k_region ?_
            refine s_run (w_none rfl) rfl (as_b rfl rfl) ?_
            refine l_nil ?_
            refine k_ret ?_
            repeat (first | refine r_then ?_ | refine r_blk ?_)
            exact q_ret (v := .bool _) rfl rfl ⟨_, rfl, vb (Th.big_some hx (by simp [Th.bigX]; omega)).symm, H.under⟩
          · first | (replace hc45 := of_decide_eq_false hc45) | simp at hc45
            refine k_skip ?_
            refine k_nil ?_
            refine b_end ?_
            refine k_region ?_
            refine s_run (w_none rfl) rfl (mv_i rfl rfl) ?_
            refine s_run (w_none rfl) rfl (d_add rfl rfl rfl (by omega)) ?_
            refine s_run (w_none rfl) rfl (as_i rfl rfl) ?_
            refine l_nil ?_
            refine k_nil ?_
            refine k_next ?_
            refine ⟨_, _, _, ?_, rfl, ?_, ?_, ⟨i + 1, rfl, rfl, by omega, Th.any_step hx hno (by simp [Th.bigX]; omega), H⟩⟩
            · omega
            · repeat (first | ((with_reducible refine Eqo.updl _ Eqo.ovr ?_); exact rfl) | ((with_reducible refine Eqo.updl _ (Eqo.ovr2 ?_ ?_) ?_); rotate_left; exact rfl; exact rfl) | ((with_reducible refine Eqo.upd ?_ ?_); rotate_left; exact rfl))
            · refine ⟨?_, trivial⟩
              · exact vi (by omega)
      · skip
        refine k_region ?_
        refine s_run (w_none rfl) rfl (mv_s rfl rfl) ?_
        refine s_run (w_none rfl) rfl (mv_i rfl rfl) ?_
        refine s_run (w_none rfl) rfl (d_iaG rfl (H.rd hr) rfl rfl (q := i) rfl hlt tu55 ts40) ?_
        refine s_run (w_none rfl) rfl (d_fa rfl rfl tf40_0) ?_
        refine s_run (w_none rfl) rfl (d_ldE (off := 0) rfl (H.rd hr) hlt hL rfl rfl rfl (by omega) ta3) ?_
        refine s_run (w_none rfl) rfl (d_lt rfl rfl rfl) ?_
        refine s_run (w_none rfl) rfl (mv_bx (c := false) rfl rfl (by simp; omega)) ?_
        refine s_run (w_g rfl rfl rfl rfl) rfl (mv_s rfl rfl) ?_
        refine s_run (w_g rfl rfl rfl rfl) rfl (mv_i rfl rfl) ?_
        refine s_run (w_g rfl rfl rfl rfl) rfl (d_iaG rfl (H.rd hr) rfl rfl (q := i) rfl hlt tu55 ts40) ?_
        refine s_run (w_g rfl rfl rfl rfl) rfl (d_fa rfl rfl tf40_0) ?_
        refine s_run (w_g rfl rfl rfl rfl) rfl (d_ldE (off := 0) rfl (H.rd hr) hlt hL rfl rfl rfl (by omega) ta3) ?_
        refine s_run (w_g rfl rfl rfl rfl) rfl (d_gt rfl rfl rfl) ?_
        refine s_run (w_none rfl) rfl (d_pickF rfl rfl rfl) ?_
        refine s_run (w_none rfl) rfl (as_b rfl rfl) ?_
        refine l_nil ?_
        refine k_seq ?_
        rcases Nat.lt_or_ge 512 x.b.length with hm | hm
        · skip
          refine k_region ?_
          refine s_run (w_none rfl) rfl (mv_s rfl rfl) ?_
          refine s_run (w_none rfl) rfl (mv_i rfl rfl) ?_
          refine s_run (w_none rfl) rfl (d_iaG rfl (H.rd hr) rfl rfl (q := i) rfl hlt tu55 ts40) ?_
          refine s_run (w_none rfl) rfl (d_fa rfl rfl tf40_2) ?_
          refine s_run (w_none rfl) rfl (d_ldE (off := 2) rfl (H.rd hr) hlt hL rfl rfl rfl (by omega) ta23) ?_
          refine s_run (w_none rfl) rfl (d_len rfl rfl tu23) ?_
          refine s_run (w_none rfl) rfl (d_gt rfl rfl rfl) ?_
          refine s_run (w_none rfl) rfl (mv_bx (c := true) rfl rfl (by simp; omega)) ?_
          refine s_skip (w_gno rfl rfl rfl rfl rfl) rfl ?_
          refine s_skip (w_gno rfl rfl rfl rfl rfl) rfl ?_
          refine s_skip (w_gu rfl rfl rfl rfl rfl) rfl ?_
          refine s_skip (w_gu rfl rfl rfl rfl rfl) rfl ?_
          refine s_skip (w_gu rfl rfl rfl rfl rfl) rfl ?_
          refine s_skip (w_gu rfl rfl rfl rfl rfl) rfl ?_
          refine s_skip (w_gu rfl rfl rfl rfl rfl) rfl ?_
          refine s_skip (w_gu rfl rfl rfl rfl rfl) rfl ?_
          refine s_skip (w_gno rfl rfl rfl rfl rfl) rfl ?_
          refine s_run (w_none rfl) rfl (d_pickT rfl rfl rfl) ?_
          refine l_nil ?_
          refine k_condT rfl rfl ?_
          refine k_seq ?_
          refine k_region ?_
          refine s_run (w_none rfl) rfl (as_b rfl rfl) ?_
          refine l_nil ?_
          refine k_ret ?_
          repeat (first | refine r_then ?_ | refine r_blk ?_)
          exact q_ret (v := .bool _) rfl rfl ⟨_, rfl, vb (Th.big_some hx (by simp [Th.bigX]; omega)).symm, H.under⟩
        · skip
          refine k_region ?_
          refine s_run (w_none rfl) rfl (mv_s rfl rfl) ?_
          refine s_run (w_none rfl) rfl (mv_i rfl rfl) ?_
          refine s_run (w_none rfl) rfl (d_iaG rfl (H.rd hr) rfl rfl (q := i) rfl hlt tu55 ts40) ?_
          refine s_run (w_none rfl) rfl (d_fa rfl rfl tf40_2) ?_
          refine s_run (w_none rfl) rfl (d_ldE (off := 2) rfl (H.rd hr) hlt hL rfl rfl rfl (by omega) ta23) ?_
          refine s_run (w_none rfl) rfl (d_len rfl rfl tu23) ?_
          refine s_run (w_none rfl) rfl (d_gt rfl rfl rfl) ?_
          refine s_run (w_none rfl) rfl (mv_bx (c := false) rfl rfl (by simp; omega)) ?_
          refine s_run (w_g rfl rfl rfl rfl) rfl (mv_b rfl rfl) ?_
          refine s_run (w_g rfl rfl rfl rfl) rfl (mv_bx (c := false) rfl rfl (by simp; omega)) ?_
          refine s_skip (w_gno rfl rfl rfl rfl rfl) rfl ?_
          refine s_skip (w_gno rfl rfl rfl rfl rfl) rfl ?_
          refine s_skip (w_gno rfl rfl rfl rfl rfl) rfl ?_
          refine s_skip (w_gno rfl rfl rfl rfl rfl) rfl ?_
          refine s_skip (w_gno rfl rfl rfl rfl rfl) rfl ?_
          refine s_skip (w_gno rfl rfl rfl rfl rfl) rfl ?_
          refine s_run (w_g rfl rfl rfl rfl) rfl (d_pickF rfl rfl rfl) ?_
          refine s_run (w_none rfl) rfl (d_pickF rfl rfl rfl) ?_
          refine l_nil ?_
          refine k_condF rfl rfl ?_
          refine k_skip ?_
          refine k_nil ?_
          refine b_end ?_
          refine k_region ?_
          refine s_run (w_none rfl) rfl (mv_i rfl rfl) ?_
          refine s_run (w_none rfl) rfl (d_add rfl rfl rfl (by omega)) ?_
          refine s_run (w_none rfl) rfl (as_i rfl rfl) ?_
          refine l_nil ?_
          refine k_nil ?_
          refine k_next ?_
          refine ⟨_, _, _, ?_, rfl, ?_, ?_, ⟨i + 1, rfl, rfl, by omega, Th.any_step hx hno (by simp [Th.bigX]; omega), H⟩⟩
          · omega
          · repeat (first | ((with_reducible refine Eqo.updl _ Eqo.ovr ?_); exact rfl) | ((with_reducible refine Eqo.updl _ (Eqo.ovr2 ?_ ?_) ?_); rotate_left; exact rfl; exact rfl) | ((with_reducible refine Eqo.upd ?_ ?_); rotate_left; exact rfl))
          · refine ⟨?_, trivial⟩
            · exact vi (by omega)
      · skip
        refine k_region ?_
        refine s_run (w_none rfl) rfl (mv_s rfl rfl) ?_
        refine s_run (w_none rfl) rfl (mv_i rfl rfl) ?_
        refine s_run (w_none rfl) rfl (d_iaG rfl (H.rd hr) rfl rfl (q := i) rfl hlt tu55 ts40) ?_
        refine s_run (w_none rfl) rfl (d_fa rfl rfl tf40_0) ?_
        refine s_run (w_none rfl) rfl (d_ldE (off := 0) rfl (H.rd hr) hlt hL rfl rfl rfl (by omega) ta3) ?_
        refine s_run (w_none rfl) rfl (d_lt rfl rfl rfl) ?_
        refine s_run (w_none rfl) rfl (mv_bx (c := false) rfl rfl (by simp; omega)) ?_
        refine s_run (w_g rfl rfl rfl rfl) rfl (mv_s rfl rfl) ?_
        refine s_run (w_g rfl rfl rfl rfl) rfl (mv_i rfl rfl) ?_
        refine s_run (w_g rfl rfl rfl rfl) rfl (d_iaG rfl (H.rd hr) rfl rfl (q := i) rfl hlt tu55 ts40) ?_
        refine s_run (w_g rfl rfl rfl rfl) rfl (d_fa rfl rfl tf40_0) ?_
        refine s_run (w_g rfl rfl rfl rfl) rfl (d_ldE (off := 0) rfl (H.rd hr) hlt hL rfl rfl rfl (by omega) ta3) ?_
        refine s_run (w_g rfl rfl rfl rfl) rfl (d_gt rfl rfl rfl) ?_
        refine s_run (w_none rfl) rfl (d_pickF rfl rfl rfl) ?_
        refine s_run (w_none rfl) rfl (as_b rfl rfl) ?_
        refine l_nil ?_
        refine k_seq ?_
        rcases Nat.lt_or_ge 512 x.b.length with hm | hm
        · skip
          refine k_region ?_
          refine s_run (w_none rfl) rfl (mv_s rfl rfl) ?_
          refine s_run (w_none rfl) rfl (mv_i rfl rfl) ?_
          refine s_run (w_none rfl) rfl (d_iaG rfl (H.rd hr) rfl rfl (q := i) rfl hlt tu55 ts40) ?_
          refine s_run (w_none rfl) rfl (d_fa rfl rfl tf40_2) ?_
          refine s_run (w_none rfl) rfl (d_ldE (off := 2) rfl (H.rd hr) hlt hL rfl rfl rfl (by omega) ta23) ?_
          refine s_run (w_none rfl) rfl (d_len rfl rfl tu23) ?_
          refine s_run (w_none rfl) rfl (d_gt rfl rfl rfl) ?_
          refine s_run (w_none rfl) rfl (mv_bx (c := true) rfl rfl (by simp; omega)) ?_
          refine s_skip (w_gno rfl rfl rfl rfl rfl) rfl ?_
          refine s_skip (w_gno rfl rfl rfl rfl rfl) rfl ?_
          refine s_skip (w_gu rfl rfl rfl rfl rfl) rfl ?_
          refine s_skip (w_gu rfl rfl rfl rfl rfl) rfl ?_
          refine s_skip (w_gu rfl rfl rfl rfl rfl) rfl ?_
          refine s_skip (w_gu rfl rfl rfl rfl rfl) rfl ?_
          refine s_skip (w_gu rfl rfl rfl rfl rfl) rfl ?_
          refine s_skip (w_gu rfl rfl rfl rfl rfl) rfl ?_
          refine s_skip (w_gno rfl rfl rfl rfl rfl) rfl ?_
          refine s_run (w_none rfl) rfl (d_pickT rfl rfl rfl) ?_
          refine l_nil ?_
          refine k_condT rfl rfl ?_
          refine k_seq ?_
          refine k_region ?_
          refine s_run (w_none rfl) rfl (as_b rfl rfl) ?_
          refine l_nil ?_
          refine k_ret ?_
          repeat (first | refine r_then ?_ | refine r_blk ?_)
          exact q_ret (v := .bool _) rfl rfl ⟨_, rfl, vb (Th.big_some hx (by simp [Th.bigX]; omega)).symm, H.under⟩
        · skip
          refine k_region ?_
          refine s_run (w_none rfl) rfl (mv_s rfl rfl) ?_
          refine s_run (w_none rfl) rfl (mv_i rfl rfl) ?_
          refine s_run (w_none rfl) rfl (d_iaG rfl (H.rd hr) rfl rfl (q := i) rfl hlt tu55 ts40) ?_
          refine s_run (w_none rfl) rfl (d_fa rfl rfl tf40_2) ?_
          refine s_run (w_none rfl) rfl (d_ldE (off := 2) rfl (H.rd hr) hlt hL rfl rfl rfl (by omega) ta23) ?_
          refine s_run (w_none rfl) rfl (d_len rfl rfl tu23) ?_
          refine s_run (w_none rfl) rfl (d_gt rfl rfl rfl) ?_
          refine s_run (w_none rfl) rfl (mv_bx (c := false) rfl rfl (by simp; omega)) ?_
          refine s_run (w_g rfl rfl rfl rfl) rfl (mv_b rfl rfl) ?_
          refine s_run (w_g rfl rfl rfl rfl) rfl (mv_bx (c := true) rfl rfl (by simp; omega)) ?_
          refine s_run (w_g rfl rfl rfl rfl) rfl (mv_s rfl rfl) ?_
          refine s_run (w_g rfl rfl rfl rfl) rfl (mv_i rfl rfl) ?_
          refine s_run (w_g rfl rfl rfl rfl) rfl (d_iaG rfl (H.rd hr) rfl rfl (q := i) rfl hlt tu55 ts40) ?_
          refine s_run (w_g rfl rfl rfl rfl) rfl (d_fa rfl rfl tf40_1) ?_
          refine s_run (w_g rfl rfl rfl rfl) rfl (d_ldE (off := 1) rfl (H.rd hr) hlt hL rfl rfl rfl (by omega) ta3) ?_
          refine s_run (w_g rfl rfl rfl rfl) rfl (d_lt rfl rfl rfl) ?_
          refine s_run (w_g rfl rfl rfl rfl) rfl (d_pickT rfl rfl rfl) ?_
          refine s_run (w_none rfl) rfl (d_pickF rfl rfl rfl) ?_
          refine l_nil ?_
          refine k_cond rfl (fun hc45 => ?_) (fun hc45 => ?_)
          · first | (replace hc45 := of_decide_eq_true hc45) | simp at hc45
            refine k_seq ?_
            refine k_region ?_
            refine s_run (w_none rfl) rfl (as_b rfl rfl) ?_
            refine l_nil ?_
            refine k_ret ?_
            repeat (first | refine r_then ?_ | refine r_blk ?_)
            exact q_ret (v := .bool _) rfl rfl ⟨_, rfl, vb (Th.big_some hx (by simp [Th.bigX]; omega)).symm, H.under⟩
          · first | (replace hc45 := of_decide_eq_false hc45) | simp at hc45
            refine k_skip ?_
            refine k_nil ?_
            refine b_end ?_
            refine k_region ?_
            refine s_run (w_none rfl) rfl (mv_i rfl rfl) ?_
            refine s_run (w_none rfl) rfl (d_add rfl rfl rfl (by omega)) ?_
            refine s_run (w_none rfl) rfl (as_i rfl rfl) ?_
            refine l_nil ?_
            refine k_nil ?_
            refine k_next ?_
            refine ⟨_, _, _, ?_, rfl, ?_, ?_, ⟨i + 1, rfl, rfl, by omega, Th.any_step hx hno (by simp [Th.bigX]; omega), H⟩⟩
            · omega
            · repeat (first | ((with_reducible refine Eqo.updl _ Eqo.ovr ?_); exact rfl) | ((with_reducible refine Eqo.updl _ (Eqo.ovr2 ?_ ?_) ?_); rotate_left; exact rfl; exact rfl) | ((with_reducible refine Eqo.upd ?_ ?_); rotate_left; exact rfl))
            · refine ⟨?_, trivial⟩
              · exact vi (by omega)
    · replace hc11 := of_decide_eq_false hc11
      refine k_exit ?_
      refine x_then (x_then ?_)
      refine x_hit ?_
      refine k_seq ?_
      obtain rfl : i = l.length := by omega
      rw [List.take_length] at hno
      refine k_region ?_
      refine s_run (w_none rfl) rfl (as_b rfl rfl) ?_
      refine l_nil ?_
      refine k_ret ?_
      repeat (first | refine r_then ?_ | refine r_blk ?_)
      exact q_ret (v := .bool _) rfl rfl ⟨_, rfl, vb (Th.big_none (by omega) hno).symm, H.under⟩

set_option maxHeartbeats 4000000 in
theorem laidThings {S : Nat → Prop} {v : Value} {l : List DThing} (w : World) (hl : RL 51 RThing w S [v] l) (hG : Gat w 0 formsC) (hlt : (Th.lay l).length ≤ 100000000000) (hs2 : ∀ x ∈ l, x.b.length ≤ 100000000000) : Calls Tryd.prog 43 [v].toArray w (Ret (NewB 5 w (Th.lay l))) := by
  obtain ⟨A, c, xs, hv, hc, hcm, hr, hel⟩ := hl
  obtain rfl : v = .slice A l.length c := by cases hv; rfl
  refine k_enter (l := [_]) Tryd.func43 rfl rfl ?_
  have H := St.start nT w
  refine k_seq ?_
  refine k_region ?_
  refine s_run (w_none rfl) rfl (as_s rfl rfl) ?_
  refine l_nil ?_
  refine k_seq ?_
  refine k_region ?_
  refine s_run (w_none rfl) rfl (as_s rfl rfl) ?_
  refine l_nil ?_
  refine k_seq ?_
  refine k_seq ?_
  refine k_region ?_
  refine s_run (w_none rfl) rfl (as_i rfl rfl) ?_
  refine l_nil ?_
  refine k_block ?_
  refine k_loop 3 [] (fun mm sl W => ∃ i : Nat, ∃ B2 : Option Addr, ∃ d2 : Nat, l.length - i = mm ∧ sl = [(4, .int .i64 (i : Int)), (3, .slice B2 (Th.lay (l.take i)).length d2)] ∧ (i ≤ l.length) ∧ ((Th.lay (l.take i)).length ≤ d2 ∧ d2 ≤ 9223372036854775807) ∧ St nT w W [Fact.row 5 1 (.slice B2 (Th.lay (l.take i)).length d2) (Th.lay (l.take i)).length ((Th.lay (l.take i)).map u8v)]) _ _ ⟨0, none, 0, rfl, rfl, Nat.zero_le _, ⟨Nat.le_refl _, by omega⟩, H.nilrow 5 1⟩ ⟨rfl, rfl, trivial⟩ (fun mm sl ρv W hJ => ?_)
  clear H; obtain ⟨i, B2, d2, rfl, rfl, hi, hd, H⟩ := hJ
  refine k_one ?_
  refine k_seq ?_
  refine k_seq ?_
  refine k_region ?_
  refine s_run (w_none rfl) rfl (mv_i rfl rfl) ?_
  refine s_run (w_none rfl) rfl (mv_s rfl rfl) ?_
  refine s_run (w_none rfl) rfl (d_len rfl rfl tu55) ?_
  refine s_run (w_none rfl) rfl (d_lt rfl rfl rfl) ?_
  refine l_nil ?_
  refine k_cond rfl (fun hc8 => ?_) (fun hc8 => ?_)
  · replace hc8 := of_decide_eq_true hc8
    have hil : i < l.length := by omega
    obtain ⟨g0, o0, rfl, -⟩ := hr.2 (by omega)
    obtain ⟨x, hx⟩ := get_lt hil
    obtain ⟨B, d, hL, hB, hok⟩ := thing_of (hel i x hx)
    have hh := hok.2.2.1
    have ht := hok.2.2.2
    have hxb := hs2 x (List.mem_of_getElem? hx)
    have hacc := Th.lay_take (l := l) i
    refine k_skip ?_
    refine k_seq ?_
    refine k_block ?_
    refine k_seq ?_
    refine k_region ?_
    refine s_run (w_none rfl) rfl (mv_s rfl rfl) ?_
    refine s_run (w_none rfl) rfl (mv_i rfl rfl) ?_
    refine s_run (w_none rfl) rfl (d_iaG rfl (H.rd hr) rfl rfl (q := i) rfl hil tu55 ts40) ?_
    refine s_run (w_none rfl) rfl (d_fa rfl rfl tf40_0) ?_
    refine s_run (w_none rfl) rfl (d_ldE (off := 0) rfl (H.rd hr) hil hL rfl rfl rfl (by omega) ta3) ?_
    refine l_nil ?_
    refine k_block ?_
    refine k_seq ?_
    refine k_region ?_
    refine s_run (w_none rfl) rfl (d_eq rfl rfl rfl) ?_
    refine s_run (w_none rfl) rfl (as_b rfl rfl) ?_
    refine l_nil ?_
    refine k_cond rfl (fun hc23 => ?_) (fun hc23 => ?_)
    · have hk1 : x.kind = 1 := by simpa using hc23
      refine k_region ?_
      refine s_run (w_none rfl) rfl (mv_s rfl rfl) ?_
      refine s_run (w_none rfl) rfl (mv_s rfl rfl) ?_
      refine s_run (w_none rfl) rfl (mv_i rfl rfl) ?_
      refine s_run (w_none rfl) rfl (d_iaG rfl (H.rd hr) rfl rfl (q := i) rfl hil tu55 ts40) ?_
      refine s_run (w_none rfl) rfl (d_fa rfl rfl tf40_2) ?_
      refine s_run (w_none rfl) rfl (d_ldE (off := 2) rfl (H.rd hr) hil hL rfl rfl rfl (by omega) ta23) ?_
      refine s_eff (e_call (w_none rfl) rfl rfl Tryd.func25 rfl rfl rfl (packBlob (b := Th.lay (l.take i)) (p := x.b) _ (H.gat hG) (H.rowbs (A := B2) rfl) (by omega) (H.bs hB) (by omega)) ?_)
      rintro _ W ⟨A1, c1, rfl, hc1, hd1, hn⟩
      replace H := H.new hn
      clear hn
      replace H := H.sub (L' := [_]) (.cons_cons _ (List.nil_sublist _))
      refine s_run (w_none rfl) rfl (as_s rfl rfl) ?_
      refine l_nil ?_
      refine k_nil ?_
      refine b_end ?_
      refine k_nil ?_
      refine b_end ?_
      refine k_region ?_
      refine s_run (w_none rfl) rfl (mv_i rfl rfl) ?_
      refine s_run (w_none rfl) rfl (d_add rfl rfl rfl (by omega)) ?_
      refine s_run (w_none rfl) rfl (as_i rfl rfl) ?_
      refine l_nil ?_
      refine k_nil ?_
      refine k_next ?_
      have he := Th.lay_at (e := Pk.int x.b.length ++ x.b) hx (by unfold Th.enc; rw [if_pos hk1]; rfl)
      refine ⟨_, _, _, ?_, rfl, ?_, ?_, ⟨i + 1, A1, c1, rfl, rfl, by omega, ⟨by rw [he]; exact hc1, hd1⟩, by rw [he]; exact H⟩⟩
      · omega
      · repeat (first | ((with_reducible refine Eqo.updl _ Eqo.ovr ?_); exact rfl) | ((with_reducible refine Eqo.updl _ (Eqo.ovr2 ?_ ?_) ?_); rotate_left; exact rfl; exact rfl) | ((with_reducible refine Eqo.upd ?_ ?_); rotate_left; exact rfl))
      · refine ⟨?_, ?_, trivial⟩
        · exact vi (by omega)
        · exact sl_eq (by rw [he])
    · have hk1 : ¬ x.kind = 1 := by simpa using hc23
      refine k_seq ?_
      refine k_region ?_
      refine s_run (w_none rfl) rfl (d_eq rfl rfl rfl) ?_
      refine s_run (w_none rfl) rfl (as_b rfl rfl) ?_
      refine l_nil ?_
      refine k_cond rfl (fun hc32 => ?_) (fun hc32 => ?_)
      · have hk2 : x.kind = 2 := by simpa using hc32
        refine k_region ?_
        refine s_run (w_none rfl) rfl (mv_s rfl rfl) ?_
        refine s_run (w_none rfl) rfl (mv_s rfl rfl) ?_
        refine s_run (w_none rfl) rfl (mv_i rfl rfl) ?_
        refine s_run (w_none rfl) rfl (d_iaG rfl (H.rd hr) rfl rfl (q := i) rfl hil tu55 ts40) ?_
        refine s_run (w_none rfl) rfl (d_fa rfl rfl tf40_3) ?_
        refine s_run (w_none rfl) rfl (d_ldEM (off := 3) rfl (H.rd hr) hil hL (thing_h hh) rfl rfl (by omega) ta36 ts36) ?_
        refine s_eff (e_call (w_none rfl) rfl rfl Tryd.func26 rfl rfl rfl (packHash (b := Th.lay (l.take i)) (h := x.h) _ (H.rowbs (A := B2) rfl) (by omega) hh) ?_)
        rintro _ W ⟨A1, c1, rfl, hc1, hd1, hn⟩
        replace H := H.new hn
        clear hn
        replace H := H.sub (L' := [_]) (.cons_cons _ (List.nil_sublist _))
        refine s_run (w_none rfl) rfl (as_s rfl rfl) ?_
        refine l_nil ?_
        refine k_nil ?_
        refine b_end ?_
        refine k_nil ?_
        refine b_end ?_
        refine k_region ?_
        refine s_run (w_none rfl) rfl (mv_i rfl rfl) ?_
        refine s_run (w_none rfl) rfl (d_add rfl rfl rfl (by omega)) ?_
        refine s_run (w_none rfl) rfl (as_i rfl rfl) ?_
        refine l_nil ?_
        refine k_nil ?_
        refine k_next ?_
        have he := Th.lay_at (e := x.h) hx (by unfold Th.enc; rw [if_neg hk1, if_pos hk2])
        refine ⟨_, _, _, ?_, rfl, ?_, ?_, ⟨i + 1, A1, c1, rfl, rfl, by omega, ⟨by rw [he]; exact hc1, hd1⟩, by rw [he]; exact H⟩⟩
        · omega
        · repeat (first | ((with_reducible refine Eqo.updl _ Eqo.ovr ?_); exact rfl) | ((with_reducible refine Eqo.updl _ (Eqo.ovr2 ?_ ?_) ?_); rotate_left; exact rfl; exact rfl) | ((with_reducible refine Eqo.upd ?_ ?_); rotate_left; exact rfl))
        · refine ⟨?_, ?_, trivial⟩
          · exact vi (by omega)
          · exact sl_eq (by rw [he])
      · have hk2 : ¬ x.kind = 2 := by simpa using hc32
        refine k_seq ?_
        refine k_region ?_
        refine s_run (w_none rfl) rfl (d_eq rfl rfl rfl) ?_
        refine s_run (w_none rfl) rfl (as_b rfl rfl) ?_
        refine l_nil ?_
        refine k_cond rfl (fun hc41 => ?_) (fun hc41 => ?_)
        · have hk3 : x.kind = 3 := by simpa using hc41
          refine k_region ?_
          refine s_run (w_none rfl) rfl (mv_s rfl rfl) ?_
          refine s_run (w_none rfl) rfl (mv_s rfl rfl) ?_
          refine s_run (w_none rfl) rfl (mv_i rfl rfl) ?_
          refine s_run (w_none rfl) rfl (d_iaG rfl (H.rd hr) rfl rfl (q := i) rfl hil tu55 ts40) ?_
          refine s_run (w_none rfl) rfl (d_fa rfl rfl tf40_4) ?_
          refine s_run (w_none rfl) rfl (d_ldEM (off := 35) rfl (H.rd hr) hil hL (thing_t hh ht) rfl rfl (by omega) ta38 ts38) ?_
          refine s_eff (e_call (w_none rfl) rfl rfl Tryd.func27 rfl rfl rfl (packTag (b := Th.lay (l.take i)) (h := x.t) _ (H.rowbs (A := B2) rfl) (by omega) ht) ?_)
          rintro _ W ⟨A1, c1, rfl, hc1, hd1, hn⟩
          replace H := H.new hn
          clear hn
          replace H := H.sub (L' := [_]) (.cons_cons _ (List.nil_sublist _))
          refine s_run (w_none rfl) rfl (as_s rfl rfl) ?_
          refine l_nil ?_
          refine k_nil ?_
          refine b_end ?_
          refine k_nil ?_
          refine b_end ?_
          refine k_region ?_
          refine s_run (w_none rfl) rfl (mv_i rfl rfl) ?_
          refine s_run (w_none rfl) rfl (d_add rfl rfl rfl (by omega)) ?_
          refine s_run (w_none rfl) rfl (as_i rfl rfl) ?_
          refine l_nil ?_
          refine k_nil ?_
          refine k_next ?_
          have he := Th.lay_at (e := x.t) hx (by unfold Th.enc; rw [if_neg hk1, if_neg hk2, if_pos hk3])
          refine ⟨_, _, _, ?_, rfl, ?_, ?_, ⟨i + 1, A1, c1, rfl, rfl, by omega, ⟨by rw [he]; exact hc1, hd1⟩, by rw [he]; exact H⟩⟩
          · omega
          · repeat (first | ((with_reducible refine Eqo.updl _ Eqo.ovr ?_); exact rfl) | ((with_reducible refine Eqo.updl _ (Eqo.ovr2 ?_ ?_) ?_); rotate_left; exact rfl; exact rfl) | ((with_reducible refine Eqo.upd ?_ ?_); rotate_left; exact rfl))
          · refine ⟨?_, ?_, trivial⟩
            · exact vi (by omega)
            · exact sl_eq (by rw [he])
        · have hk3 : ¬ x.kind = 3 := by simpa using hc41
          refine k_region ?_
          refine s_run (w_none rfl) rfl (mv_s rfl rfl) ?_
          refine s_run (w_none rfl) rfl (mv_s rfl rfl) ?_
          refine s_run (w_none rfl) rfl (mv_i rfl rfl) ?_
          refine s_run (w_none rfl) rfl (d_iaG rfl (H.rd hr) rfl rfl (q := i) rfl hil tu55 ts40) ?_
          refine s_run (w_none rfl) rfl (d_fa rfl rfl tf40_1) ?_
          refine s_run (w_none rfl) rfl (d_ldE (off := 1) rfl (H.rd hr) hil hL rfl rfl rfl (by omega) ta3) ?_
          refine s_eff (e_call (w_none rfl) rfl rfl Tryd.func18 rfl rfl rfl (packInt (b := Th.lay (l.take i)) x.n _ (H.gat hG) (H.rowbs (A := B2) rfl) hok.2.1 (by omega)) ?_)
          rintro _ W ⟨A1, c1, rfl, hc1, hd1, hn⟩
          replace H := H.new hn
          clear hn
          replace H := H.sub (L' := [_]) (.cons_cons _ (List.nil_sublist _))
          refine s_run (w_none rfl) rfl (as_s rfl rfl) ?_
          refine l_nil ?_
          refine k_nil ?_
          refine b_end ?_
          refine k_nil ?_
          refine b_end ?_
          refine k_region ?_
          refine s_run (w_none rfl) rfl (mv_i rfl rfl) ?_
          refine s_run (w_none rfl) rfl (d_add rfl rfl rfl (by omega)) ?_
          refine s_run (w_none rfl) rfl (as_i rfl rfl) ?_
          refine l_nil ?_
          refine k_nil ?_
          refine k_next ?_
          have he := Th.lay_at (e := Pk.int (Pk.toU x.n)) hx (by unfold Th.enc; rw [if_neg hk1, if_neg hk2, if_neg hk3])
          refine ⟨_, _, _, ?_, rfl, ?_, ?_, ⟨i + 1, A1, c1, rfl, rfl, by omega, ⟨by rw [he]; exact hc1, hd1⟩, by rw [he]; exact H⟩⟩
          · omega
          · repeat (first | ((with_reducible refine Eqo.updl _ Eqo.ovr ?_); exact rfl) | ((with_reducible refine Eqo.updl _ (Eqo.ovr2 ?_ ?_) ?_); rotate_left; exact rfl; exact rfl) | ((with_reducible refine Eqo.upd ?_ ?_); rotate_left; exact rfl))
          · refine ⟨?_, ?_, trivial⟩
            · exact vi (by omega)
            · exact sl_eq (by rw [he])
  · replace hc8 := of_decide_eq_false hc8
    refine k_exit ?_
    refine x_then (x_then ?_)
    refine x_hit ?_
    refine k_seq ?_
    obtain rfl : i = l.length := by omega
    rw [List.take_length] at hd H ⊢
    refine k_region ?_
    refine s_run (w_none rfl) rfl (mv_s rfl rfl) ?_
    refine s_run (w_none rfl) rfl (as_s rfl rfl) ?_
    refine l_nil ?_
    refine k_ret ?_
    repeat (first | refine r_then ?_ | refine r_blk ?_)
    exact q_ret (v := .slice _ _ _) rfl rfl ⟨_, rfl, H.newB rfl rfl hd.1 hd.2⟩

set_option maxHeartbeats 4000000 in
theorem readThing {A0 B : Option Addr} {n0 c0 r d : Nat} {S : Nat → Prop} {x : DThing} {room : Int} {s : RS} (w : World) (hR : (RdP 5 96 r A0 n0 c0 s).p w) (hok : Pk.Ok s) (hG : Gat w 0 formsC) (h0 : ¬ (RdT r A0 n0 c0) 0) (hB : Bs w S (.slice B x.b.length d) x.b) (hS : ∀ g, S g → ¬ (RdT r A0 n0 c0) g) (hT : Th.Ok x) (hroom : 0 ≤ room ∧ room < 1000) (hbl : x.b.length ≤ 1000000000000) (hn0 : n0 ≤ 1000000000000) :
    Calls Tryd.prog 44 [.pointer (some ⟨r, 0, none⟩), .agg (thingC x.kind x.n B x.b.length d x.h x.t).toArray, .int .i64 room].toArray w (Ret (fun v' w' => v' = .bool (Th.rdB room x s) ∧ (RdP 5 96 r A0 n0 c0 (Th.rdS room x s)).p w' ∧ Fr (RdT r A0 n0 c0) w w')) := by
  have hh := hT.2.2.1
  have ht := hT.2.2.2
  have H0 := St.begin (f := RdP 5 96 r A0 n0 c0 s) hR (RdB.lt hR)
  refine k_enter (l := [_, _, _]) Tryd.func44 rfl rfl ?_
  have H := H0
  refine k_seq ?_
  refine k_region ?_
  refine s_eff (e_box (vs := (thingC x.kind x.n B x.b.length d x.h x.t)) (w_none rfl) rfl rfl rfl rfl H ?_)
  clear H; intro gt W H
  refine s_run (w_none rfl) rfl (as_b rfl rfl) ?_
  refine l_nil ?_
  refine k_seq ?_
  refine k_seq ?_
  refine k_region ?_
  refine s_run (w_none rfl) rfl (d_fa rfl rfl tf40_0) ?_
  refine s_run (w_none rfl) rfl (d_ldX (off := 0) rfl H rfl rfl rfl ta3) ?_
  refine l_nil ?_
  refine k_block ?_
  refine k_seq ?_
  refine k_region ?_
  refine s_run (w_none rfl) rfl (d_eq rfl rfl rfl) ?_
  refine s_run (w_none rfl) rfl (as_b rfl rfl) ?_
  refine l_nil ?_
  refine k_cond rfl (fun hc9 => ?_) (fun hc9 => ?_)
  · have hk1 : x.kind = 1 := by simpa using hc9
    rw [(Th.rd1 hk1).1, (Th.rd1 hk1).2]
    refine k_seq ?_
    refine k_draw [(0, true), (1, true), (2, true), (3, true), (4, true), (5, true), (7, true), (8, true), (6, false), (9, false), (10, true)] [Fact.blk gt (thingC x.kind x.n B x.b.length d x.h x.t) 40] (by kernel_rfl) (by kernel_rfl) H (by repeat (first | exact List.Sublist.refl _ | exact List.nil_sublist _ | refine List.Sublist.cons_cons _ ?_ | refine List.Sublist.cons _ ?_)) ?_
    clear H; intro W H
    refine c_run rfl (w_none rfl) rfl (fun W H => mv_p rfl rfl) ?_
    refine c_run rfl (w_none rfl) rfl (fun W H => d_fa rfl rfl tf40_2) ?_
    refine c_run rfl (w_none rfl) rfl (fun W H => d_ldX (off := 2) rfl H rfl rfl rfl ta23) ?_
    refine c_run rfl (w_none rfl) rfl (fun W H => d_len rfl rfl tu23) ?_
    refine c_run rfl (w_none rfl) rfl (fun W H => mv_i rfl rfl) ?_
    refine c_run rfl (w_none rfl) rfl (fun W H => d_add rfl rfl rfl (by omega)) ?_
    refine c_run rfl (w_none rfl) rfl (fun W H => d_fa rfl rfl tf40_2) ?_
    refine c_run rfl (w_none rfl) rfl (fun W H => d_ldX (off := 2) rfl H rfl rfl rfl ta23) ?_
    refine c_eff rfl (e_call (w_none rfl) rfl rfl Tryd.func48 rfl rfl rfl (prgBlob _ (H.get (f := RdP 5 96 r A0 n0 c0 s)) hok (H.gatT hG h0) h0) ?_)
    rintro _ W ⟨hp1, hf1⟩
    obtain ⟨B1, d1, rfl⟩ := RdB.form hp1
    replace H := H.mut (f := RdP 5 96 r A0 n0 c0 s) (f' := RdB 5 96 r A0 n0 c0 (.slice B1 (List.length (Pk.rBlob ((x.b.length : Int) + room) s).1) d1) (Pk.rBlob ((x.b.length : Int) + room) s).1 (Pk.rBlob ((x.b.length : Int) + room) s).2) hf1 hp1 (fun _ h => h)
    clear hp1 hf1
    have hkb := H.get (f := RdB 5 96 r A0 n0 c0 (.slice B1 (List.length (Pk.rBlob ((x.b.length : Int) + room) s).1) d1) (Pk.rBlob ((x.b.length : Int) + room) s).1 (Pk.rBlob ((x.b.length : Int) + room) s).2)
    refine ⟨H.sub (by repeat (first | exact List.Sublist.refl _ | refine List.Sublist.cons_cons _ ?_ | refine List.Sublist.cons _ ?_)), ?_⟩
    refine c_eff rfl (e_call (w_none rfl) rfl rfl Tryd.func22 rfl rfl rfl (sameBytes _ _ (Pk.rBlob ((x.b.length : Int) + room) s).1 x.b _ (RdB.bs (H.get (f := RdB 5 96 r A0 n0 c0 (.slice B1 (List.length (Pk.rBlob ((x.b.length : Int) + room) s).1) d1) (Pk.rBlob ((x.b.length : Int) + room) s).1 (Pk.rBlob ((x.b.length : Int) + room) s).2))) (H.bsT hB hS)) ?_)
    rintro _ W ⟨rfl, hb⟩
    replace H := H.below hb
    clear hb
    refine ⟨H.sub (by repeat (first | exact List.Sublist.refl _ | refine List.Sublist.cons_cons _ ?_ | refine List.Sublist.cons _ ?_)), ?_⟩
    refine c_run rfl (w_none rfl) rfl (fun W H => as_b rfl rfl) ?_
    refine c_nil ?_
    refine k_ret ?_
    repeat (first | refine r_then ?_ | refine r_blk ?_)
    exact q_ret (v := .bool _) rfl rfl ⟨_, rfl, rfl, RdB.toP (H.get (f := RdB 5 96 r A0 n0 c0 (.slice B1 (List.length (Pk.rBlob ((x.b.length : Int) + room) s).1) d1) (Pk.rBlob ((x.b.length : Int) + room) s).1 (Pk.rBlob ((x.b.length : Int) + room) s).2)), H.fr⟩
  · have hk1 : ¬ x.kind = 1 := by simpa using hc9
    refine k_seq ?_
    refine k_region ?_
    refine s_run (w_none rfl) rfl (d_eq rfl rfl rfl) ?_
    refine s_run (w_none rfl) rfl (as_b rfl rfl) ?_
    refine l_nil ?_
    refine k_cond rfl (fun hc21 => ?_) (fun hc21 => ?_)
    · have hk2 : x.kind = 2 := by simpa using hc21
      rw [(Th.rd2 hk2).1, (Th.rd2 hk2).2]
      refine k_seq ?_
      refine k_draw [(0, true), (2, true), (3, true), (1, false), (4, true), (5, true)] [Fact.blk gt (thingC x.kind x.n B x.b.length d x.h x.t) 40] (by kernel_rfl) (by kernel_rfl) H (by repeat (first | exact List.Sublist.refl _ | exact List.nil_sublist _ | refine List.Sublist.cons_cons _ ?_ | refine List.Sublist.cons _ ?_)) ?_
      clear H; intro W H
      refine c_run rfl (w_none rfl) rfl (fun W H => mv_p rfl rfl) ?_
      refine c_run rfl (w_none rfl) rfl (fun W H => d_fa rfl rfl tf40_3) ?_
      refine c_run rfl (w_none rfl) rfl (fun W H => d_ldXM (off := 3) rfl H (thing_h hh) (by simp [hh]) rfl rfl rfl ta36 ts36) ?_
      refine c_eff rfl (e_call (w_none rfl) rfl rfl Tryd.func45 rfl rfl rfl (prgHash _ (H.get (f := RdP 5 96 r A0 n0 c0 s)) hok) ?_)
      rintro _ W ⟨rfl, hp, hf⟩
      replace H := H.mut (f := RdP 5 96 r A0 n0 c0 s) (f' := RdP 5 96 r A0 n0 c0 (Pk.rBytes 32 s).2) hf hp (fun _ h => h)
      clear hp hf
      refine ⟨H.sub (by repeat (first | exact List.Sublist.refl _ | refine List.Sublist.cons_cons _ ?_ | refine List.Sublist.cons _ ?_)), ?_⟩
      refine c_run rfl (w_none rfl) rfl (fun W H => d_eqarr rfl rfl rfl tu36 tu5 ts5 (Pk.len_full Pk.next_len) hh (by kernel_rfl)) ?_
      refine c_run rfl (w_none rfl) rfl (fun W H => as_b rfl rfl) ?_
      refine c_nil ?_
      refine k_ret ?_
      repeat (first | refine r_then ?_ | refine r_blk ?_)
      exact q_ret (v := .bool _) rfl rfl ⟨_, rfl, rfl, H.get (f := RdP 5 96 r A0 n0 c0 (Pk.rBytes 32 s).2), H.fr⟩
    · have hk2 : ¬ x.kind = 2 := by simpa using hc21
      refine k_seq ?_
      refine k_region ?_
      refine s_run (w_none rfl) rfl (d_eq rfl rfl rfl) ?_
      refine s_run (w_none rfl) rfl (as_b rfl rfl) ?_
      refine l_nil ?_
      refine k_cond rfl (fun hc28 => ?_) (fun hc28 => ?_)
      · have hk3 : x.kind = 3 := by simpa using hc28
        rw [(Th.rd3 hk3).1, (Th.rd3 hk3).2]
        refine k_seq ?_
        refine k_draw [(0, true), (2, true), (3, true), (1, false), (4, true), (5, true)] [Fact.blk gt (thingC x.kind x.n B x.b.length d x.h x.t) 40] (by kernel_rfl) (by kernel_rfl) H (by repeat (first | exact List.Sublist.refl _ | exact List.nil_sublist _ | refine List.Sublist.cons_cons _ ?_ | refine List.Sublist.cons _ ?_)) ?_
        clear H; intro W H
        refine c_run rfl (w_none rfl) rfl (fun W H => mv_p rfl rfl) ?_
        refine c_run rfl (w_none rfl) rfl (fun W H => d_fa rfl rfl tf40_4) ?_
        refine c_run rfl (w_none rfl) rfl (fun W H => d_ldXM (off := 35) rfl H (thing_t hh ht) (by simp [ht]) rfl rfl rfl ta38 ts38) ?_
        refine c_eff rfl (e_call (w_none rfl) rfl rfl Tryd.func46 rfl rfl rfl (prgTag _ (H.get (f := RdP 5 96 r A0 n0 c0 s)) hok) ?_)
        rintro _ W ⟨rfl, hp, hf⟩
        replace H := H.mut (f := RdP 5 96 r A0 n0 c0 s) (f' := RdP 5 96 r A0 n0 c0 (Pk.rBytes 16 s).2) hf hp (fun _ h => h)
        clear hp hf
        refine ⟨H.sub (by repeat (first | exact List.Sublist.refl _ | refine List.Sublist.cons_cons _ ?_ | refine List.Sublist.cons _ ?_)), ?_⟩
        refine c_run rfl (w_none rfl) rfl (fun W H => d_eqarr rfl rfl rfl tu38 tu5 ts5 (Pk.len_full Pk.next_len) ht (by kernel_rfl)) ?_
        refine c_run rfl (w_none rfl) rfl (fun W H => as_b rfl rfl) ?_
        refine c_nil ?_
        refine k_ret ?_
        repeat (first | refine r_then ?_ | refine r_blk ?_)
        exact q_ret (v := .bool _) rfl rfl ⟨_, rfl, rfl, H.get (f := RdP 5 96 r A0 n0 c0 (Pk.rBytes 16 s).2), H.fr⟩
      · have hk3 : ¬ x.kind = 3 := by simpa using hc28
        refine k_seq ?_
        refine k_region ?_
        refine s_run (w_none rfl) rfl (d_eq rfl rfl rfl) ?_
        refine s_run (w_none rfl) rfl (as_b rfl rfl) ?_
        refine l_nil ?_
        refine k_cond rfl (fun hc35 => ?_) (fun hc35 => ?_)
        · have hk4 : x.kind = 4 := by simpa using hc35
          rw [(Th.rd4 hk4).1, (Th.rd4 hk4).2]
          refine k_seq ?_
          refine k_draw [(0, true), (1, true), (2, true), (3, true), (4, true), (5, true), (6, true), (7, true), (9, true), (10, true), (8, false), (11, true), (12, true)] [Fact.blk gt (thingC x.kind x.n B x.b.length d x.h x.t) 40] (by kernel_rfl) (by kernel_rfl) H (by repeat (first | exact List.Sublist.refl _ | exact List.nil_sublist _ | refine List.Sublist.cons_cons _ ?_ | refine List.Sublist.cons _ ?_)) ?_
          clear H; intro W H
          refine c_run rfl (w_none rfl) rfl (fun W H => mv_p rfl rfl) ?_
          refine c_run rfl (w_none rfl) rfl (fun W H => d_fa rfl rfl tf40_1) ?_
          refine c_run rfl (w_none rfl) rfl (fun W H => d_ldX (off := 1) rfl H rfl rfl rfl ta3) ?_
          refine c_run rfl (w_none rfl) rfl (fun W H => d_fa rfl rfl tf40_1) ?_
          refine c_run rfl (w_none rfl) rfl (fun W H => d_ldX (off := 1) rfl H rfl rfl rfl ta3) ?_
          refine c_run rfl (w_none rfl) rfl (fun W H => mv_i rfl rfl) ?_
          refine c_run rfl (w_none rfl) rfl (fun W H => d_addW rfl rfl rfl rfl) ?_
          refine c_run rfl (w_none rfl) rfl (fun W H => d_max rfl rfl rfl) ?_
          refine c_run rfl (w_none rfl) rfl (fun W H => d_fa rfl rfl tf40_1) ?_
          refine c_run rfl (w_none rfl) rfl (fun W H => d_ldX (off := 1) rfl H rfl rfl rfl ta3) ?_
          refine c_eff rfl (e_call (w_none rfl) rfl rfl Tryd.func47 rfl rfl rfl (prgCount _ (H.get (f := RdP 5 96 r A0 n0 c0 s)) hok (H.gatT hG h0) h0) ?_)
          rintro _ W ⟨rfl, hp, hf⟩
          replace H := H.mut (f := RdP 5 96 r A0 n0 c0 s) (f' := RdP 5 96 r A0 n0 c0 (Pk.rCount (Th.most room x) s).2) hf hp (fun _ h => h)
          clear hp hf
          refine ⟨H.sub (by repeat (first | exact List.Sublist.refl _ | refine List.Sublist.cons_cons _ ?_ | refine List.Sublist.cons _ ?_)), ?_⟩
          refine c_run rfl (w_none rfl) rfl (fun W H => d_eq rfl rfl rfl) ?_
          refine c_run rfl (w_none rfl) rfl (fun W H => as_b rfl rfl) ?_
          refine c_nil ?_
          refine k_ret ?_
          repeat (first | refine r_then ?_ | refine r_blk ?_)
          exact q_ret (v := .bool _) rfl rfl ⟨_, rfl, rfl, H.get (f := RdP 5 96 r A0 n0 c0 (Pk.rCount (Th.most room x) s).2), H.fr⟩
        · have hk4 : ¬ x.kind = 4 := by simpa using hc35
          rw [(Th.rd0 hk1 hk2 hk3 hk4).1, (Th.rd0 hk1 hk2 hk3 hk4).2]
          refine k_skip ?_
          refine k_nil ?_
          refine b_end ?_
          refine k_seq ?_
          refine k_draw [(0, true), (2, true), (3, true), (1, false), (4, true), (5, true)] [Fact.blk gt (thingC x.kind x.n B x.b.length d x.h x.t) 40] (by kernel_rfl) (by kernel_rfl) H (by repeat (first | exact List.Sublist.refl _ | exact List.nil_sublist _ | refine List.Sublist.cons_cons _ ?_ | refine List.Sublist.cons _ ?_)) ?_
          clear H; intro W H
          refine c_run rfl (w_none rfl) rfl (fun W H => mv_p rfl rfl) ?_
          refine c_run rfl (w_none rfl) rfl (fun W H => d_fa rfl rfl tf40_1) ?_
          refine c_run rfl (w_none rfl) rfl (fun W H => d_ldX (off := 1) rfl H rfl rfl rfl ta3) ?_
          refine c_eff rfl (e_call (w_none rfl) rfl rfl Tryd.func20 rfl rfl rfl (prgInt _ (H.get (f := RdP 5 96 r A0 n0 c0 s)) hok (H.gatT hG h0) h0) ?_)
          rintro _ W ⟨rfl, hp, hf⟩
          replace H := H.mut (f := RdP 5 96 r A0 n0 c0 s) (f' := RdP 5 96 r A0 n0 c0 (Pk.rInt s).2) hf hp (fun _ h => h)
          clear hp hf
          refine ⟨H.sub (by repeat (first | exact List.Sublist.refl _ | refine List.Sublist.cons_cons _ ?_ | refine List.Sublist.cons _ ?_)), ?_⟩
          refine c_run rfl (w_none rfl) rfl (fun W H => d_eq rfl rfl rfl) ?_
          refine c_run rfl (w_none rfl) rfl (fun W H => as_b rfl rfl) ?_
          refine c_nil ?_
          refine k_ret ?_
          repeat (first | refine r_then ?_ | refine r_blk ?_)
          exact q_ret (v := .bool _) rfl rfl ⟨_, rfl, rfl, H.get (f := RdP 5 96 r A0 n0 c0 (Pk.rInt s).2), H.fr⟩
end Go.Proofs.YtejaohlijaodjaaDoor

namespace Go.Proofs.YtejaohlijaodjaaDoor
open Go Go.RowKit
attribute [local irreducible] wpList

theorem St.rep {α : Type} {R : Rep α} {w W : World} {L : List Fact} {S : Nat → Prop} {cs : List Value} {a : α} (H : St nT w W L) (hK : Keeps R) (h : R w S cs a) : R W S cs a := hK _ _ _ _ _ h (fun g hg _ => H.fr.block g hg (fun h => h))
theorem pick_in {v n : Int} (hn : 1 ≤ n) : 0 ≤ pick v n ∧ pick v n < n := by
  unfold pick
  rw [if_neg (by omega)]
  exact ⟨Int.emod_nonneg _ (by omega), Int.emod_lt_of_pos _ (by omega)⟩
theorem pick_nat (v : Int) (n : Nat) : ∃ k : Nat, pick v (n : Int) = (k : Int) ∧ k ≤ n := by
  rcases Nat.eq_zero_or_pos n with h | h
  · subst h
    exact ⟨0, by unfold pick; rw [if_pos (by omega)]; rfl, Nat.le_refl _⟩
  · have := pick_in (v := v) (n := (n : Int)) (by omega)
    exact ⟨(pick v n).toNat, by omega, by omega⟩
theorem Rd.head {W : World} {S : Nat → Prop} {s n k : Nat} {A : Option Addr} {xs : List Value} (h : Rd W S s A n xs) (hk : k ≤ n) : Rd W S s A k (xs.take (k * s)) := by
  have hl := h.1
  have hks := Nat.mul_le_mul_right s hk
  refine ⟨by rw [List.length_take]; omega, fun hn => ?_⟩
  obtain ⟨g, o, rfl, hg, hc⟩ := h.2 (by omega)
  refine ⟨g, o, rfl, hg, fun j u hu => hc j u ?_⟩
  rw [List.getElem?_take] at hu
  split at hu
  · exact hu
  · cases hu
theorem rl_take {α : Type} {R : Rep α} {W : World} {S : Nat → Prop} {s k m c : Nat} {A : Option Addr} {l : List α} (h : RL s R W S [.slice A m c] l) (hk : k ≤ l.length) : RL s R W S [.slice A k c] (l.take k) := by
  obtain ⟨A', c', xs, hv, hc, hcm, hr, hel⟩ := h
  cases hv
  have hlk : (l.take k).length = k := by rw [List.length_take]; omega
  refine ⟨A, c, xs.take (k * s), by rw [hlk], by rw [hlk]; omega, hcm, by rw [hlk]; exact hr.head hk, fun i x hx => ?_⟩
  have hik : i < k := by
    have := (List.getElem?_eq_some_iff.1 hx).1
    rw [hlk] at this; exact this
  rw [List.getElem?_take_of_lt hik] at hx
  have h1 := hel i x hx
  have e : sub (xs.take (k * s)) (i * s) s = sub xs (i * s) s := by
    unfold sub
    have := Nat.mul_le_mul_right s (show i + 1 ≤ k by omega)
    rw [Nat.add_mul] at this
    rw [List.drop_take, List.take_take, Nat.min_eq_left (by omega)]
  rw [e]; exact h1
namespace Th
/-- What is left behind i things, cut at k. -/
def rem (l : List DThing) (k i : Nat) : List UInt8 := (lay (l.drop i)).take (k - (lay (l.take i)).length)
theorem rem_step {l : List DThing} {k i : Nat} {x : DThing} (hx : l[i]? = some x) (hk : (lay (l.take (i + 1))).length ≤ k) : rem l k i = enc x ++ rem l k (i + 1) := by
  have h1 := lay_at hx rfl
  rw [h1, List.length_append] at hk
  unfold rem
  rw [lay_drop hx, List.take_append, List.take_of_length_le (by omega), h1, List.length_append, Nat.sub_sub]
theorem rem_cut {l : List DThing} {k i : Nat} {x : DThing} (hx : l[i]? = some x) (hi : (lay (l.take i)).length ≤ k) (hk : k < (lay (l.take (i + 1))).length) : ∃ j, j < (enc x).length ∧ rem l k i = (enc x).take j := by
  have h1 := lay_at hx rfl
  rw [h1, List.length_append] at hk
  refine ⟨k - (lay (l.take i)).length, by omega, ?_⟩
  unfold rem
  rw [lay_drop hx, List.take_append_of_le_length (by omega)]
theorem rem_end {l : List DThing} {k : Nat} : rem l k l.length = [] := by unfold rem; rw [lay_end]; simp
/-- A thing cut short. -/
theorem rd_cut {room : Int} {x : DThing} {j : Nat} (h : Ok x) (hb : bigX x = false) (hr : 0 ≤ room ∧ room < 1000) (hj : j < (enc x).length) : rdS room x ((enc x).take j, 0) = ([], 4) := by
  obtain ⟨s1, s2⟩ := small hb
  obtain ⟨_, hn, h3, h4⟩ := h
  have hu : 0 ≤ x.n → Pk.toU x.n = x.n.toNat := fun h0 => Pk.toU_pos _ h0 (by omega)
  by_cases k1 : x.kind = 1
  · rw [(rd1 k1).1]
    unfold enc at *
    rw [if_pos k1] at *
    rw [Pk.rBlob_cut (by omega) (by omega) hj]
  by_cases k2 : x.kind = 2
  · rw [(rd2 k2).1]
    unfold enc at *
    rw [if_neg k1, if_pos k2] at *
    exact Pk.rBytes_cut h3 hj
  by_cases k3 : x.kind = 3
  · rw [(rd3 k3).1]
    unfold enc at *
    rw [if_neg k1, if_neg k2, if_pos k3] at *
    exact Pk.rBytes_cut h4 hj
  have h0 := s2 (by omega)
  have e : enc x = Pk.int (x.n.toNat) := by unfold enc; rw [if_neg k1, if_neg k2, if_neg k3, hu h0]
  rw [e] at hj ⊢
  by_cases k4 : x.kind = 4
  · rw [(rd4 k4).1, Pk.rCount_cut (by omega) hj]
  · rw [(rd0 k1 k2 k3 k4).1, Pk.rInt_cut (by omega) hj]
end Th

set_option maxHeartbeats 4000000 in
theorem packBack {S S1 : Nat → Prop} {v u : Value} {l : List DThing} {m : List UInt8} {rm : Int} (w : World) (hG : Gat w 0 formsC) (hl : RL 51 RThing w S [v] l) (hSo : ∀ g, S g → g < w.heap.size) (hm : Bs w S1 u m) : Calls Tryd.prog 6 [v, u, .int .i64 rm].toArray w (Ret (Is w (.bool true))) := by
  have hl0 := hl
  obtain ⟨A, c, xs, hv, hc, hcm, hr, hel⟩ := hl
  obtain rfl : v = .slice A l.length c := by cases hv; rfl
  have hm0 := hm
  obtain ⟨Am, cm, rfl, hcm1, hcm2, hmr⟩ := hm.op
  refine k_enter (l := [_, _, _]) Tryd.func6 rfl rfl ?_
  have H := St.start nT w
  refine k_seq ?_
  refine k_region ?_
  refine s_run (w_none rfl) rfl (as_b rfl rfl) ?_
  refine l_nil ?_
  refine k_seq ?_
  refine k_seq ?_
  rcases (show Th.big l = true ∨ (Th.big l = false ∧ 4096 < m.length) ∨ (Th.big l = false ∧ m.length ≤ 4096) by cases Th.big l <;> simp <;> omega) with hbg | ⟨hbg, hml⟩ | ⟨hbg, hml⟩
  · skip
    refine k_region ?_
    refine s_run (w_none rfl) rfl (mv_s rfl rfl) ?_
    refine s_eff (e_call (w_none rfl) rfl rfl Tryd.func41 rfl rfl rfl (bigThings _ (H.rep (keeps_L keeps_Thing) hl0)) ?_)
    rw [hbg]
    rintro _ W ⟨rfl, hb⟩
    replace H := H.below hb
    clear hb
    refine s_run (w_none rfl) rfl (mv_bx (c := true) rfl rfl (rfl)) ?_
    refine s_skip (w_gno rfl rfl rfl rfl rfl) rfl ?_
    refine s_skip (w_gno rfl rfl rfl rfl rfl) rfl ?_
    refine s_skip (w_gno rfl rfl rfl rfl rfl) rfl ?_
    refine s_run (w_none rfl) rfl (d_pickT rfl rfl rfl) ?_
    refine l_nil ?_
    refine k_condT rfl rfl ?_
    refine k_seq ?_
    refine k_region ?_
    refine s_eff (e_call (w_none rfl) rfl rfl Tryd.func23 rfl rfl rfl (works03 _ (H.gat hG)) ?_)
    rintro _ W ⟨rfl, hb⟩
    replace H := H.below hb
    clear hb
    refine s_run (w_none rfl) rfl (as_b rfl rfl) ?_
    refine l_nil ?_
    refine k_ret ?_
    repeat (first | refine r_then ?_ | refine r_blk ?_)
    exact q_ret (v := .bool _) rfl rfl ⟨_, rfl, rfl, H.under⟩
  · skip
    refine k_region ?_
    refine s_run (w_none rfl) rfl (mv_s rfl rfl) ?_
    refine s_eff (e_call (w_none rfl) rfl rfl Tryd.func41 rfl rfl rfl (bigThings _ (H.rep (keeps_L keeps_Thing) hl0)) ?_)
    rw [hbg]
    rintro _ W ⟨rfl, hb⟩
    replace H := H.below hb
    clear hb
    refine s_run (w_none rfl) rfl (mv_bx (c := false) rfl rfl (rfl)) ?_
    refine s_run (w_g rfl rfl rfl rfl) rfl (mv_s rfl rfl) ?_
    refine s_run (w_g rfl rfl rfl rfl) rfl (d_len rfl rfl tu23) ?_
    refine s_run (w_g rfl rfl rfl rfl) rfl (d_gt rfl rfl rfl) ?_
    refine s_run (w_none rfl) rfl (d_pickF rfl rfl rfl) ?_
    refine l_nil ?_
    refine k_condT rfl (by simp; omega) ?_
    refine k_seq ?_
    refine k_region ?_
    refine s_eff (e_call (w_none rfl) rfl rfl Tryd.func23 rfl rfl rfl (works03 _ (H.gat hG)) ?_)
    rintro _ W ⟨rfl, hb⟩
    replace H := H.below hb
    clear hb
    refine s_run (w_none rfl) rfl (as_b rfl rfl) ?_
    refine l_nil ?_
    refine k_ret ?_
    repeat (first | refine r_then ?_ | refine r_blk ?_)
    exact q_ret (v := .bool _) rfl rfl ⟨_, rfl, rfl, H.under⟩
  · have hnb := Th.not_big hbg
    have hokl := things_ok hel
    have hs1 : ∀ x ∈ l, x.b.length ≤ 512 := fun x hx => (Th.small (hnb.2 x hx)).1
    have hs2 : ∀ x ∈ l, (Th.enc x).length ≤ 600 := fun x hx => Th.len_enc (hokl x hx) (hs1 x hx)
    have hll := Th.len_lay hs2
    have hl40 := hnb.1
    have hs1b : ∀ x ∈ l, x.b.length ≤ 100000000000 := fun x hx => by have := hs1 x hx; omega
    refine k_region ?_
    refine s_run (w_none rfl) rfl (mv_s rfl rfl) ?_
    refine s_eff (e_call (w_none rfl) rfl rfl Tryd.func41 rfl rfl rfl (bigThings _ (H.rep (keeps_L keeps_Thing) hl0)) ?_)
    rw [hbg]
    rintro _ W ⟨rfl, hb⟩
    replace H := H.below hb
    clear hb
    refine s_run (w_none rfl) rfl (mv_bx (c := false) rfl rfl (rfl)) ?_
    refine s_run (w_g rfl rfl rfl rfl) rfl (mv_s rfl rfl) ?_
    refine s_run (w_g rfl rfl rfl rfl) rfl (d_len rfl rfl tu23) ?_
    refine s_run (w_g rfl rfl rfl rfl) rfl (d_gt rfl rfl rfl) ?_
    refine s_run (w_none rfl) rfl (d_pickF rfl rfl rfl) ?_
    refine l_nil ?_
    refine k_condF rfl (by simp; omega) ?_
    refine k_skip ?_
    refine k_seq ?_
    refine k_region ?_
    refine s_run (w_none rfl) rfl (mv_i rfl rfl) ?_
    refine s_eff (e_call (w_none rfl) rfl rfl Tryd.func42 rfl rfl rfl (pick_any rm 1000 _ (by omega)) ?_)
    rintro _ W ⟨rfl, hb⟩
    replace H := H.below hb
    clear hb
    refine s_run (w_none rfl) rfl (as_i rfl rfl) ?_
    refine l_nil ?_
    refine k_seq ?_
    refine k_region ?_
    refine s_run (w_none rfl) rfl (mv_s rfl rfl) ?_
    refine s_eff (e_call (w_none rfl) rfl rfl Tryd.func43 rfl rfl rfl (laidThings _ (H.rep (keeps_L keeps_Thing) hl0) (H.gat hG) (by omega) hs1b) ?_)
    rintro _ W ⟨A1, c1, rfl, hc1, hd1, hn⟩
    replace H := H.new hn
    clear hn
    refine s_run (w_none rfl) rfl (mv_s rfl rfl) ?_
    refine s_eff (e_app (w_none rfl) rfl rfl tu23 tx5 rfl rfl rfl H (H.rd hmr) (all_u8L _) (by omega) rfl ?_)
    clear H; intro A2 c2 W hc2 hd2 H
    refine s_eff (e_call (w_none rfl) rfl rfl Tryd.func19 rfl rfl rfl (prgRead (l := (Th.lay l ++ m)) _ (bs_row (e := 5) (A := A2) (c := c2) (by have := H.get (f := Fact.row 5 1 (.slice A2 ((Th.lay l).length + m.length) c2) ((Th.lay l).length + m.length) ((Th.lay l).map u8v ++ m.map u8v)); rw [List.map_append]; exact this) (by simp)) (by simp; omega)) ?_)
    rintro _ W ⟨r3, A3, c3, rfl, hS3⟩
    replace H := H.add hS3
    clear hS3
    simp only [List.cons_append, List.nil_append] at H
    refine s_run (w_none rfl) rfl (as_p rfl rfl) ?_
    refine l_nil ?_
    refine k_seq ?_
    refine k_seq ?_
    refine k_region ?_
    refine s_run (w_none rfl) rfl (as_i rfl rfl) ?_
    refine l_nil ?_
    refine k_block ?_
    refine k_loop 24 [6, 8] (fun mm sl W => ∃ i : Nat, l.length - i = mm ∧ sl = [(8, .int .i64 (i : Int))] ∧ (i ≤ l.length) ∧ St nT w W [RdP 5 96 r3 A3 (Th.lay l ++ m).length c3 (Th.lay (l.drop i) ++ m, 0), Fact.row 5 1 (.slice A2 ((Th.lay l).length + m.length) c2) ((Th.lay l).length + m.length) ((Th.lay l).map u8v ++ m.map u8v)]) _ _ ⟨0, rfl, rfl, Nat.zero_le _, H⟩ ⟨rfl, trivial⟩ (fun mm sl ρv W hJ => ?_)
    clear H; obtain ⟨i, rfl, rfl, hi, H⟩ := hJ
    refine k_one ?_
    refine k_seq ?_
    refine k_seq ?_
    refine k_region ?_
    refine s_run (w_none rfl) rfl (mv_i rfl rfl) ?_
    refine s_run (w_none rfl) rfl (mv_s rfl rfl) ?_
    refine s_run (w_none rfl) rfl (d_len rfl rfl tu55) ?_
    refine s_run (w_none rfl) rfl (d_lt rfl rfl rfl) ?_
    refine l_nil ?_
    refine k_cond rfl (fun hc27 => ?_) (fun hc27 => ?_)
    · replace hc27 := of_decide_eq_true hc27
      have hlt : i < l.length := by omega
      obtain ⟨g0, o0, rfl, -⟩ := hr.2 (by omega)
      obtain ⟨x, hx⟩ := get_lt hlt
      obtain ⟨B, d, hL, hB, hok⟩ := thing_of (hel i x hx)
      have hh := hok.2.2.1
      have ht := hok.2.2.2
      have hxb := hs1 x (List.mem_of_getElem? hx)
      have hrd := Th.rd_lay (m := m) (room := pick rm 1000) hx hok (hnb.2 x (List.mem_of_getElem? hx)) (pick_in (by omega))
      refine k_skip ?_
      refine k_seq ?_
      refine k_block ?_
      refine k_seq ?_
      refine k_region ?_
      refine s_run (w_none rfl) rfl (mv_p rfl rfl) ?_
      refine s_run (w_none rfl) rfl (mv_s rfl rfl) ?_
      refine s_run (w_none rfl) rfl (mv_i rfl rfl) ?_
      refine s_run (w_none rfl) rfl (d_iaG rfl (H.rd hr) rfl rfl (q := i) rfl hlt tu55 ts40) ?_
      refine s_run (w_none rfl) rfl (d_ldEM (off := 0) rfl (H.rd hr) hlt hL (sub_all (len_thing hh ht)) rfl rfl (by omega) ta40 ts40) ?_
      refine s_run (w_none rfl) rfl (mv_i rfl rfl) ?_
      refine s_eff (e_call (w_none rfl) rfl rfl Tryd.func44 rfl rfl rfl (readThing _ (H.get (f := RdP 5 96 r3 A3 (Th.lay l ++ m).length c3 (Th.lay (l.drop i) ++ m, 0))) ⟨fun h => absurd rfl h, by simp, by simp⟩ (H.gat hG) (H.away (f := RdP 5 96 r3 A3 (Th.lay l ++ m).length c3 (Th.lay (l.drop i) ++ m, 0)) hG.1) (H.bs hB) (fun g hg => H.away (f := RdP 5 96 r3 A3 (Th.lay l ++ m).length c3 (Th.lay (l.drop i) ++ m, 0)) (hSo g hg)) hok (pick_in (by omega)) (by omega) (by simp; omega)) ?_)
      rw [hrd.1, hrd.2]
      rintro _ W ⟨rfl, hp, hf⟩
      replace H := H.mut (f := RdP 5 96 r3 A3 (Th.lay l ++ m).length c3 (Th.lay (l.drop i) ++ m, 0)) (f' := RdP 5 96 r3 A3 (Th.lay l ++ m).length c3 (Th.lay (l.drop (i + 1)) ++ m, 0)) hf hp (fun _ h => h)
      clear hp hf
      refine s_run (w_none rfl) rfl (d_not rfl rfl) ?_
      refine s_run (w_none rfl) rfl (mv_bx (c := false) rfl rfl (rfl)) ?_
      refine s_run (w_g rfl rfl rfl rfl) rfl (mv_p rfl rfl) ?_
      refine s_eff (e_call (w_g rfl rfl rfl rfl) rfl rfl Tryd.func39 rfl rfl rfl (prgBad _ (H.get (f := RdP 5 96 r3 A3 (Th.lay l ++ m).length c3 (Th.lay (l.drop (i + 1)) ++ m, 0)))) ?_)
      rintro _ W ⟨rfl, hb⟩
      replace H := H.below hb
      clear hb
      refine s_run (w_none rfl) rfl (d_pickF rfl rfl rfl) ?_
      refine l_nil ?_
      refine k_condF rfl (by simp) ?_
      refine k_skip ?_
      refine k_nil ?_
      refine b_end ?_
      refine k_region ?_
      refine s_run (w_none rfl) rfl (mv_i rfl rfl) ?_
      refine s_run (w_none rfl) rfl (d_add rfl rfl rfl (by omega)) ?_
      refine s_run (w_none rfl) rfl (as_i rfl rfl) ?_
      refine l_nil ?_
      refine k_nil ?_
      refine k_next ?_
      refine ⟨_, _, _, ?_, rfl, ?_, ?_, ⟨i + 1, rfl, rfl, by omega, H⟩⟩
      · omega
      · repeat (first | ((with_reducible refine Eqo.updl _ Eqo.ovr ?_); exact rfl) | ((with_reducible refine Eqo.updl _ (Eqo.ovr2 ?_ ?_) ?_); rotate_left; exact rfl; exact rfl) | ((with_reducible refine Eqo.upd ?_ ?_); rotate_left; exact rfl))
      · refine ⟨?_, trivial⟩
        · exact vi (by omega)
    · replace hc27 := of_decide_eq_false hc27
      refine k_exit ?_
      refine x_then (x_then ?_)
      refine x_hit ?_
      refine k_seq ?_
      obtain rfl : i = l.length := by omega
      rw [Th.lay_end, List.nil_append] at H
      refine k_region ?_
      refine s_run (w_none rfl) rfl (mv_p rfl rfl) ?_
      refine s_eff (e_call (w_none rfl) rfl rfl Tryd.func35 rfl rfl rfl (prgLeft _ (H.get (f := RdP 5 96 r3 A3 (Th.lay l ++ m).length c3 (m, 0)))) ?_)
      rintro _ W ⟨rfl, hb⟩
      replace H := H.below hb
      clear hb
      refine s_run (w_none rfl) rfl (mv_s rfl rfl) ?_
      refine s_run (w_none rfl) rfl (d_len rfl rfl tu23) ?_
      refine s_run (w_none rfl) rfl (d_eq rfl rfl rfl) ?_
      refine s_run (w_none rfl) rfl (mv_bx (c := true) rfl rfl (by simp)) ?_
      refine s_run (w_g rfl rfl rfl rfl) rfl (mv_p rfl rfl) ?_
      refine s_eff (e_call (w_g rfl rfl rfl rfl) rfl rfl Tryd.func21 rfl rfl rfl (prgEnd _ (H.get (f := RdP 5 96 r3 A3 (Th.lay l ++ m).length c3 (m, 0)))) ?_)
      rintro _ W ⟨rfl, hb⟩
      replace H := H.below hb
      clear hb
      refine s_run (w_g rfl rfl rfl rfl) rfl (d_eq rfl rfl rfl) ?_
      refine s_run (w_g rfl rfl rfl rfl) rfl (mv_s rfl rfl) ?_
      refine s_run (w_g rfl rfl rfl rfl) rfl (d_len rfl rfl tu23) ?_
      refine s_run (w_g rfl rfl rfl rfl) rfl (d_eq rfl rfl rfl) ?_
      refine s_run (w_g rfl rfl rfl rfl) rfl (d_same rfl rfl rfl tu4) ?_
      refine s_run (w_none rfl) rfl (d_pickT rfl rfl rfl) ?_
      refine s_run (w_none rfl) rfl (mv_bx (c := true) rfl rfl (end_iff m)) ?_
      refine s_eff (e_call (w_g rfl rfl rfl rfl) rfl rfl Tryd.func23 rfl rfl rfl (works03 _ (H.gat hG)) ?_)
      rintro _ W ⟨rfl, hb⟩
      replace H := H.below hb
      clear hb
      refine s_run (w_none rfl) rfl (d_pickT rfl rfl rfl) ?_
      refine s_run (w_none rfl) rfl (as_b rfl rfl) ?_
      refine l_nil ?_
      refine k_ret ?_
      repeat (first | refine r_then ?_ | refine r_blk ?_)
      exact q_ret (v := .bool _) rfl rfl ⟨_, rfl, rfl, H.under⟩

set_option maxHeartbeats 4000000 in
theorem packCut {S : Nat → Prop} {v : Value} {l : List DThing} {ct rm : Int} (w : World) (hG : Gat w 0 formsC) (hl : RL 51 RThing w S [v] l) (hSo : ∀ g, S g → g < w.heap.size) : Calls Tryd.prog 7 [v, .int .i64 ct, .int .i64 rm].toArray w (Ret (Is w (.bool true))) := by
  have hl0 := hl
  obtain ⟨A, c, xs, hv, hc, hcm, hr, hel⟩ := hl
  obtain rfl : v = .slice A l.length c := by cases hv; rfl
  refine k_enter (l := [_, _, _]) Tryd.func7 rfl rfl ?_
  have H := St.start nT w
  refine k_seq ?_
  refine k_region ?_
  refine s_run (w_none rfl) rfl (as_b rfl rfl) ?_
  refine l_nil ?_
  refine k_seq ?_
  refine k_seq ?_
  rcases (show Th.big l = true ∨ Th.big l = false by cases Th.big l <;> simp) with hbg | hbg
  · skip
    refine k_region ?_
    refine s_run (w_none rfl) rfl (mv_s rfl rfl) ?_
    refine s_eff (e_call (w_none rfl) rfl rfl Tryd.func41 rfl rfl rfl (bigThings _ (H.rep (keeps_L keeps_Thing) hl0)) ?_)
    rw [hbg]
    rintro _ W ⟨rfl, hb⟩
    replace H := H.below hb
    clear hb
    refine l_nil ?_
    refine k_condT rfl rfl ?_
    refine k_seq ?_
    refine k_region ?_
    refine s_eff (e_call (w_none rfl) rfl rfl Tryd.func23 rfl rfl rfl (works03 _ (H.gat hG)) ?_)
    rintro _ W ⟨rfl, hb⟩
    replace H := H.below hb
    clear hb
    refine s_run (w_none rfl) rfl (as_b rfl rfl) ?_
    refine l_nil ?_
    refine k_ret ?_
    repeat (first | refine r_then ?_ | refine r_blk ?_)
    exact q_ret (v := .bool _) rfl rfl ⟨_, rfl, rfl, H.under⟩
  · have hnb := Th.not_big hbg
    have hokl := things_ok hel
    have hs1 : ∀ x ∈ l, x.b.length ≤ 512 := fun x hx => (Th.small (hnb.2 x hx)).1
    have hs2 : ∀ x ∈ l, (Th.enc x).length ≤ 600 := fun x hx => Th.len_enc (hokl x hx) (hs1 x hx)
    have hll := Th.len_lay hs2
    have hl40 := hnb.1
    have hs1b : ∀ x ∈ l, x.b.length ≤ 100000000000 := fun x hx => by have := hs1 x hx; omega
    refine k_region ?_
    refine s_run (w_none rfl) rfl (mv_s rfl rfl) ?_
    refine s_eff (e_call (w_none rfl) rfl rfl Tryd.func41 rfl rfl rfl (bigThings _ (H.rep (keeps_L keeps_Thing) hl0)) ?_)
    rw [hbg]
    rintro _ W ⟨rfl, hb⟩
    replace H := H.below hb
    clear hb
    refine l_nil ?_
    refine k_condF rfl rfl ?_
    refine k_skip ?_
    refine k_seq ?_
    refine k_region ?_
    refine s_run (w_none rfl) rfl (mv_i rfl rfl) ?_
    refine s_eff (e_call (w_none rfl) rfl rfl Tryd.func42 rfl rfl rfl (pick_any rm 1000 _ (by omega)) ?_)
    rintro _ W ⟨rfl, hb⟩
    replace H := H.below hb
    clear hb
    refine s_run (w_none rfl) rfl (as_i rfl rfl) ?_
    refine l_nil ?_
    refine k_seq ?_
    refine k_region ?_
    refine s_run (w_none rfl) rfl (mv_s rfl rfl) ?_
    refine s_eff (e_call (w_none rfl) rfl rfl Tryd.func43 rfl rfl rfl (laidThings _ (H.rep (keeps_L keeps_Thing) hl0) (H.gat hG) (by omega) hs1b) ?_)
    rintro _ W ⟨A1, c1, rfl, hc1, hd1, hn⟩
    replace H := H.new hn
    clear hn
    refine s_run (w_none rfl) rfl (as_s rfl rfl) ?_
    refine l_nil ?_
    refine k_seq ?_
    refine k_region ?_
    refine s_run (w_none rfl) rfl (mv_i rfl rfl) ?_
    refine s_run (w_none rfl) rfl (mv_s rfl rfl) ?_
    refine s_run (w_none rfl) rfl (d_len rfl rfl tu23) ?_
    refine s_eff (e_call (w_none rfl) rfl rfl Tryd.func42 rfl rfl rfl (pick_any ct _ _ (by omega)) ?_)
    rintro _ W ⟨rfl, hb⟩
    replace H := H.below hb
    clear hb
    refine s_run (w_none rfl) rfl (as_i rfl rfl) ?_
    refine l_nil ?_
    obtain ⟨ck, hck, hck2⟩ := pick_nat ct (Th.lay l).length
    rw [hck]
    refine k_seq ?_
    refine k_region ?_
    refine s_run (w_none rfl) rfl (mv_s rfl rfl) ?_
    refine s_run (w_none rfl) rfl (mv_i rfl rfl) ?_
    refine s_run (w_none rfl) rfl (mv_s rfl rfl) ?_
    refine s_run (w_none rfl) rfl (d_len rfl rfl tu23) ?_
    refine s_run (w_none rfl) rfl (d_min rfl rfl rfl) ?_
    refine s_run (w_none rfl) rfl (d_cutP rfl rfl (h := ck) (by omega) (by omega) rfl tu23 ts5) ?_
    refine s_eff (e_call (w_none rfl) rfl rfl Tryd.func19 rfl rfl rfl (prgRead (l := ((Th.lay l).take ck)) _ ((H.rowbs (A := A1) rfl).pre (h := ck) rfl hck2) (by rw [List.length_take]; omega)) ?_)
    rintro _ W ⟨r3, A3, c3, rfl, hS3⟩
    replace H := H.add hS3
    clear hS3
    simp only [List.cons_append, List.nil_append] at H
    refine s_run (w_none rfl) rfl (as_p rfl rfl) ?_
    refine l_nil ?_
    refine k_seq ?_
    refine k_region ?_
    refine s_run (w_none rfl) rfl (as_i rfl rfl) ?_
    refine l_nil ?_
    refine k_seq ?_
    refine k_block ?_
    refine k_loop 28 [6, 9] (fun mm sl W => ∃ i : Nat, l.length - i = mm ∧ sl = [(9, .int .i64 (i : Int))] ∧ (i ≤ l.length) ∧ ((Th.lay (l.take i)).length ≤ ck) ∧ St nT w W [RdP 5 96 r3 A3 ((Th.lay l).take ck).length c3 (Th.rem l ck i, 0), Fact.row 5 1 (.slice A1 (Th.lay l).length c1) (Th.lay l).length ((Th.lay l).map u8v)]) _ _ ⟨0, rfl, rfl, Nat.zero_le _, Nat.zero_le _, H⟩ ⟨rfl, trivial⟩ (fun mm sl ρv W hJ => ?_)
    clear H; obtain ⟨i, rfl, rfl, hi, ha, H⟩ := hJ
    refine k_one ?_
    refine k_seq ?_
    refine k_seq ?_
    rcases Nat.lt_or_ge i l.length with hlt | hge
    · skip
      refine k_region ?_
      refine s_run (w_none rfl) rfl (mv_i rfl rfl) ?_
      refine s_run (w_none rfl) rfl (mv_s rfl rfl) ?_
      refine s_run (w_none rfl) rfl (d_len rfl rfl tu55) ?_
      refine s_run (w_none rfl) rfl (d_lt rfl rfl rfl) ?_
      refine s_run (w_none rfl) rfl (mv_bx (c := true) rfl rfl (by simp; omega)) ?_
      refine s_run (w_g rfl rfl rfl rfl) rfl (mv_s rfl rfl) ?_
      refine s_run (w_g rfl rfl rfl rfl) rfl (mv_i rfl rfl) ?_
      refine s_run (w_g rfl rfl rfl rfl) rfl (d_add rfl rfl rfl (by omega)) ?_
      refine s_run (w_g rfl rfl rfl rfl) rfl (d_cutP rfl rfl (h := i + 1) rfl (by omega) rfl tu55 ts40) ?_
      refine s_eff (e_call (w_g rfl rfl rfl rfl) rfl rfl Tryd.func43 rfl rfl rfl (laidThings (l := l.take (i + 1)) _ (rl_take (k := i + 1) (H.rep (keeps_L keeps_Thing) hl0) (by omega)) (H.gat hG) (by have := Th.lay_take (l := l) (i + 1); omega) (fun x hx => hs1b x (List.mem_of_mem_take hx))) ?_)
      rintro _ W ⟨A7, c7, rfl, hc7, hd7, hn⟩
      replace H := H.new hn
      clear hn
      refine s_run (w_g rfl rfl rfl rfl) rfl (d_len rfl rfl tu23) ?_
      refine s_run (w_g rfl rfl rfl rfl) rfl (mv_i rfl rfl) ?_
      refine s_run (w_g rfl rfl rfl rfl) rfl (d_le rfl rfl rfl) ?_
      refine s_run (w_none rfl) rfl (d_pickT rfl rfl rfl) ?_
      refine l_nil ?_
      refine k_cond rfl (fun hc41 => ?_) (fun hc41 => ?_)
      · replace hc41 := of_decide_eq_true hc41
        obtain ⟨g0, o0, rfl, -⟩ := hr.2 (by omega)
        obtain ⟨x, hx⟩ := get_lt hlt
        obtain ⟨B, d, hL, hB, hok⟩ := thing_of (hel i x hx)
        have hh := hok.2.2.1
        have ht := hok.2.2.2
        have hxb := hs1 x (List.mem_of_getElem? hx)
        have hrd := Th.rd_enc (room := pick rm 1000) hok (hnb.2 x (List.mem_of_getElem? hx)) (pick_in (by omega)) (Th.rem l ck (i + 1))
        rw [← Th.rem_step hx (by omega)] at hrd
        refine k_skip ?_
        refine k_block ?_
        refine k_seq ?_
        refine k_seq ?_
        refine k_region ?_
        refine s_run (w_none rfl) rfl (mv_p rfl rfl) ?_
        refine s_run (w_none rfl) rfl (mv_s rfl rfl) ?_
        refine s_run (w_none rfl) rfl (mv_i rfl rfl) ?_
        refine s_run (w_none rfl) rfl (d_iaG rfl (H.rd hr) rfl rfl (q := i) rfl hlt tu55 ts40) ?_
        refine s_run (w_none rfl) rfl (d_ldEM (off := 0) rfl (H.rd hr) hlt hL (sub_all (len_thing hh ht)) rfl rfl (by omega) ta40 ts40) ?_
        refine s_run (w_none rfl) rfl (mv_i rfl rfl) ?_
        refine s_eff (e_call (w_none rfl) rfl rfl Tryd.func44 rfl rfl rfl (readThing _ (H.get (f := RdP 5 96 r3 A3 ((Th.lay l).take ck).length c3 (Th.rem l ck i, 0))) ⟨fun h => absurd rfl h, by simp, by simp⟩ (H.gat hG) (H.away (f := RdP 5 96 r3 A3 ((Th.lay l).take ck).length c3 (Th.rem l ck i, 0)) hG.1) (H.bs hB) (fun g hg => H.away (f := RdP 5 96 r3 A3 ((Th.lay l).take ck).length c3 (Th.rem l ck i, 0)) (hSo g hg)) hok (pick_in (by omega)) (by omega) (by simp; omega)) ?_)
        rw [hrd.1, hrd.2]
        rintro _ W ⟨rfl, hp, hf⟩
        replace H := H.mut (f := RdP 5 96 r3 A3 ((Th.lay l).take ck).length c3 (Th.rem l ck i, 0)) (f' := RdP 5 96 r3 A3 ((Th.lay l).take ck).length c3 (Th.rem l ck (i + 1), 0)) hf hp (fun _ h => h)
        clear hp hf
        refine s_run (w_none rfl) rfl (d_not rfl rfl) ?_
        refine s_run (w_none rfl) rfl (mv_bx (c := false) rfl rfl (rfl)) ?_
        refine s_run (w_g rfl rfl rfl rfl) rfl (mv_p rfl rfl) ?_
        refine s_eff (e_call (w_g rfl rfl rfl rfl) rfl rfl Tryd.func39 rfl rfl rfl (prgBad _ (H.get (f := RdP 5 96 r3 A3 ((Th.lay l).take ck).length c3 (Th.rem l ck (i + 1), 0)))) ?_)
        rintro _ W ⟨rfl, hb⟩
        replace H := H.below hb
        clear hb
        refine s_run (w_none rfl) rfl (d_pickF rfl rfl rfl) ?_
        refine l_nil ?_
        refine k_condF rfl (by simp) ?_
        refine k_skip ?_
        refine k_region ?_
        refine s_run (w_none rfl) rfl (mv_i rfl rfl) ?_
        refine s_run (w_none rfl) rfl (d_add rfl rfl rfl (by omega)) ?_
        refine s_run (w_none rfl) rfl (as_i rfl rfl) ?_
        refine l_nil ?_
        refine k_nil ?_
        refine b_end ?_
        refine k_nil ?_
        refine k_next ?_
        refine ⟨_, _, _, ?_, rfl, ?_, ?_, ⟨i + 1, rfl, rfl, by omega, by omega, H.sub (by repeat (first | exact List.Sublist.refl _ | refine List.Sublist.cons_cons _ ?_ | refine List.Sublist.cons _ ?_))⟩⟩
        · omega
        · repeat (first | ((with_reducible refine Eqo.updl _ Eqo.ovr ?_); exact rfl) | ((with_reducible refine Eqo.updl _ (Eqo.ovr2 ?_ ?_) ?_); rotate_left; exact rfl; exact rfl) | ((with_reducible refine Eqo.upd ?_ ?_); rotate_left; exact rfl))
        · refine ⟨?_, trivial⟩
          · exact vi (by omega)
      · replace hc41 := of_decide_eq_false hc41
        obtain ⟨g0, o0, rfl, -⟩ := hr.2 (by omega)
        obtain ⟨x, hx⟩ := get_lt hlt
        obtain ⟨B, d, hL, hB, hok⟩ := thing_of (hel i x hx)
        have hh := hok.2.2.1
        have ht := hok.2.2.2
        have hxb := hs1 x (List.mem_of_getElem? hx)
        obtain ⟨j, hj, hjr⟩ := Th.rem_cut (k := ck) hx ha (by omega)
        have hrd := Th.rd_cut (room := pick rm 1000) hok (hnb.2 x (List.mem_of_getElem? hx)) (pick_in (by omega)) hj
        rw [← hjr] at hrd
        refine k_exit ?_
        refine x_then (x_then ?_)
        refine x_hit ?_
        refine k_seq ?_
        refine k_seq ?_
        refine k_region ?_
        refine s_run (w_none rfl) rfl (mv_i rfl rfl) ?_
        refine s_run (w_none rfl) rfl (mv_s rfl rfl) ?_
        refine s_run (w_none rfl) rfl (d_len rfl rfl tu55) ?_
        refine s_run (w_none rfl) rfl (d_eq rfl rfl rfl) ?_
        refine l_nil ?_
        refine k_condF rfl (by simp; omega) ?_
        refine k_skip ?_
        refine k_seq ?_
        refine k_region ?_
        refine s_run (w_none rfl) rfl (mv_p rfl rfl) ?_
        refine s_run (w_none rfl) rfl (mv_s rfl rfl) ?_
        refine s_run (w_none rfl) rfl (mv_i rfl rfl) ?_
        refine s_run (w_none rfl) rfl (d_iaG rfl (H.rd hr) rfl rfl (q := i) rfl hlt tu55 ts40) ?_
        refine s_run (w_none rfl) rfl (d_ldEM (off := 0) rfl (H.rd hr) hlt hL (sub_all (len_thing hh ht)) rfl rfl (by omega) ta40 ts40) ?_
        refine s_run (w_none rfl) rfl (mv_i rfl rfl) ?_
        refine s_eff (e_call (w_none rfl) rfl rfl Tryd.func44 rfl rfl rfl (readThing _ (H.get (f := RdP 5 96 r3 A3 ((Th.lay l).take ck).length c3 (Th.rem l ck i, 0))) ⟨fun h => absurd rfl h, by simp, by simp⟩ (H.gat hG) (H.away (f := RdP 5 96 r3 A3 ((Th.lay l).take ck).length c3 (Th.rem l ck i, 0)) hG.1) (H.bs hB) (fun g hg => H.away (f := RdP 5 96 r3 A3 ((Th.lay l).take ck).length c3 (Th.rem l ck i, 0)) (hSo g hg)) hok (pick_in (by omega)) (by omega) (by simp; omega)) ?_)
        rw [hrd]
        rintro _ W ⟨rfl, hp, hf⟩
        replace H := H.mut (f := RdP 5 96 r3 A3 ((Th.lay l).take ck).length c3 (Th.rem l ck i, 0)) (f' := RdP 5 96 r3 A3 ((Th.lay l).take ck).length c3 ([], 4)) hf hp (fun _ h => h)
        clear hp hf
        refine l_nil ?_
        refine k_seq ?_
        refine k_seq ?_
        refine k_region ?_
        refine s_run (w_none rfl) rfl (mv_p rfl rfl) ?_
        refine s_eff (e_call (w_none rfl) rfl rfl Tryd.func39 rfl rfl rfl (prgBad _ (H.get (f := RdP 5 96 r3 A3 ((Th.lay l).take ck).length c3 ([], 4)))) ?_)
        rintro _ W ⟨rfl, hb⟩
        replace H := H.below hb
        clear hb
        refine s_run (w_none rfl) rfl (d_not rfl rfl) ?_
        refine s_run (w_none rfl) rfl (mv_bx (c := false) rfl rfl (by decide)) ?_
        refine s_run (w_g rfl rfl rfl rfl) rfl (mv_p rfl rfl) ?_
        refine s_eff (e_call (w_g rfl rfl rfl rfl) rfl rfl Tryd.func21 rfl rfl rfl (prgEnd _ (H.get (f := RdP 5 96 r3 A3 ((Th.lay l).take ck).length c3 ([], 4)))) ?_)
        rintro _ W ⟨rfl, hb⟩
        replace H := H.below hb
        clear hb
        refine s_run (w_g rfl rfl rfl rfl) rfl (d_ne rfl rfl rfl) ?_
        refine s_run (w_none rfl) rfl (d_pickF rfl rfl rfl) ?_
        refine s_run (w_none rfl) rfl (mv_bx (c := false) rfl rfl (by decide)) ?_
        refine s_run (w_g rfl rfl rfl rfl) rfl (mv_p rfl rfl) ?_
        refine s_eff (e_call (w_g rfl rfl rfl rfl) rfl rfl Tryd.func35 rfl rfl rfl (prgLeft _ (H.get (f := RdP 5 96 r3 A3 ((Th.lay l).take ck).length c3 ([], 4)))) ?_)
        rintro _ W ⟨rfl, hb⟩
        replace H := H.below hb
        clear hb
        refine s_run (w_g rfl rfl rfl rfl) rfl (d_ne rfl rfl rfl) ?_
        refine s_run (w_none rfl) rfl (d_pickF rfl rfl rfl) ?_
        refine l_nil ?_
        refine k_condF rfl (by decide) ?_
        refine k_skip ?_
        refine k_seq ?_
        refine k_region ?_
        refine s_run (w_none rfl) rfl (mv_p rfl rfl) ?_
        refine s_eff (e_call (w_none rfl) rfl rfl Tryd.func20 rfl rfl rfl (prgInt _ (H.get (f := RdP 5 96 r3 A3 ((Th.lay l).take ck).length c3 ([], 4))) ⟨fun _ => rfl, by decide, by decide⟩ (H.gat hG) (H.away (f := RdP 5 96 r3 A3 ((Th.lay l).take ck).length c3 ([], 4)) hG.1)) ?_)
        rw [show Pk.rInt ([], 4) = (0, ([], 4)) by decide]
        rintro _ W ⟨rfl, hp, hf⟩
        replace H := H.mut (f := RdP 5 96 r3 A3 ((Th.lay l).take ck).length c3 ([], 4)) (f' := RdP 5 96 r3 A3 ((Th.lay l).take ck).length c3 ([], 4)) hf hp (fun _ h => h)
        clear hp hf
        refine s_run (w_none rfl) rfl (d_eq rfl rfl rfl) ?_
        refine s_run (w_none rfl) rfl (mv_bx (c := true) rfl rfl (by decide)) ?_
        refine s_run (w_g rfl rfl rfl rfl) rfl (mv_p rfl rfl) ?_
        refine s_eff (e_call (w_g rfl rfl rfl rfl) rfl rfl Tryd.func45 rfl rfl rfl (prgHash _ (H.get (f := RdP 5 96 r3 A3 ((Th.lay l).take ck).length c3 ([], 4))) ⟨fun _ => rfl, by decide, by decide⟩) ?_)
        rw [show Pk.rBytes 32 ([], 4) = (List.replicate 32 0, ([], 4)) by decide]
        rintro _ W ⟨rfl, hp, hf⟩
        replace H := H.mut (f := RdP 5 96 r3 A3 ((Th.lay l).take ck).length c3 ([], 4)) (f' := RdP 5 96 r3 A3 ((Th.lay l).take ck).length c3 ([], 4)) hf hp (fun _ h => h)
        clear hp hf
        refine s_run (w_g rfl rfl rfl rfl) rfl (d_build (vs := (List.replicate 32 0).map u8v) rfl (by kernel_rfl)) ?_
        refine s_run (w_g rfl rfl rfl rfl) rfl (d_eqarr (b := List.replicate 32 0) rfl rfl rfl tu36 tu5 ts5 (by decide) (by decide) (by kernel_rfl)) ?_
        refine s_run (w_none rfl) rfl (d_pickT rfl rfl rfl) ?_
        refine s_run (w_none rfl) rfl (mv_bx (c := true) rfl rfl (by decide)) ?_
        refine s_run (w_g rfl rfl rfl rfl) rfl (mv_p rfl rfl) ?_
        refine s_eff (e_call (w_g rfl rfl rfl rfl) rfl rfl Tryd.func46 rfl rfl rfl (prgTag _ (H.get (f := RdP 5 96 r3 A3 ((Th.lay l).take ck).length c3 ([], 4))) ⟨fun _ => rfl, by decide, by decide⟩) ?_)
        rw [show Pk.rBytes 16 ([], 4) = (List.replicate 16 0, ([], 4)) by decide]
        rintro _ W ⟨rfl, hp, hf⟩
        replace H := H.mut (f := RdP 5 96 r3 A3 ((Th.lay l).take ck).length c3 ([], 4)) (f' := RdP 5 96 r3 A3 ((Th.lay l).take ck).length c3 ([], 4)) hf hp (fun _ h => h)
        clear hp hf
        refine s_run (w_g rfl rfl rfl rfl) rfl (d_build (vs := (List.replicate 16 0).map u8v) rfl (by kernel_rfl)) ?_
        refine s_run (w_g rfl rfl rfl rfl) rfl (d_eqarr (b := List.replicate 16 0) rfl rfl rfl tu38 tu5 ts5 (by decide) (by decide) (by kernel_rfl)) ?_
        refine s_run (w_none rfl) rfl (d_pickT rfl rfl rfl) ?_
        refine s_run (w_none rfl) rfl (mv_bx (c := true) rfl rfl (by decide)) ?_
        refine s_run (w_g rfl rfl rfl rfl) rfl (mv_p rfl rfl) ?_
        refine s_eff (e_call (w_g rfl rfl rfl rfl) rfl rfl Tryd.func47 rfl rfl rfl (prgCount (m := 9) _ (H.get (f := RdP 5 96 r3 A3 ((Th.lay l).take ck).length c3 ([], 4))) ⟨fun _ => rfl, by decide, by decide⟩ (H.gat hG) (H.away (f := RdP 5 96 r3 A3 ((Th.lay l).take ck).length c3 ([], 4)) hG.1)) ?_)
        rw [show Pk.rCount 9 ([], 4) = (0, ([], 4)) by decide]
        rintro _ W ⟨rfl, hp, hf⟩
        replace H := H.mut (f := RdP 5 96 r3 A3 ((Th.lay l).take ck).length c3 ([], 4)) (f' := RdP 5 96 r3 A3 ((Th.lay l).take ck).length c3 ([], 4)) hf hp (fun _ h => h)
        clear hp hf
        refine s_run (w_g rfl rfl rfl rfl) rfl (d_eq rfl rfl rfl) ?_
        refine s_run (w_none rfl) rfl (d_pickT rfl rfl rfl) ?_
        refine s_run (w_none rfl) rfl (mv_bx (c := true) rfl rfl (by decide)) ?_
        refine s_run (w_g rfl rfl rfl rfl) rfl (mv_p rfl rfl) ?_
        refine s_eff (e_call (w_g rfl rfl rfl rfl) rfl rfl Tryd.func48 rfl rfl rfl (prgBlob (m := 9) _ (H.get (f := RdP 5 96 r3 A3 ((Th.lay l).take ck).length c3 ([], 4))) ⟨fun _ => rfl, by decide, by decide⟩ (H.gat hG) (H.away (f := RdP 5 96 r3 A3 ((Th.lay l).take ck).length c3 ([], 4)) hG.1)) ?_)
        rw [show Pk.rBlob 9 ([], 4) = ([], ([], 4)) by decide]
        rintro _ W ⟨hp1, hf1⟩
        obtain ⟨B1, d1, rfl⟩ := RdB.form hp1
        replace H := H.mut (f := RdP 5 96 r3 A3 ((Th.lay l).take ck).length c3 ([], 4)) (f' := RdB 5 96 r3 A3 ((Th.lay l).take ck).length c3 (.slice B1 (List.length ([] : List UInt8)) d1) [] ([], 4)) hf1 hp1 (fun _ h => h)
        clear hp1 hf1
        refine s_run (w_g rfl rfl rfl rfl) rfl (d_len rfl rfl tu23) ?_
        refine s_run (w_g rfl rfl rfl rfl) rfl (d_eq rfl rfl rfl) ?_
        refine s_run (w_none rfl) rfl (d_pickT rfl rfl rfl) ?_
        refine s_run (w_none rfl) rfl (mv_bx (c := true) rfl rfl (by decide)) ?_
        refine s_run (w_g rfl rfl rfl rfl) rfl (mv_p rfl rfl) ?_
        refine s_eff (e_call (w_g rfl rfl rfl rfl) rfl rfl Tryd.func21 rfl rfl rfl (prgEnd _ (H.get (f := RdB 5 96 r3 A3 ((Th.lay l).take ck).length c3 (.slice B1 (List.length ([] : List UInt8)) d1) [] ([], 4)))) ?_)
        rintro _ W ⟨rfl, hb⟩
        replace H := H.below hb
        clear hb
        refine s_run (w_g rfl rfl rfl rfl) rfl (d_eq rfl rfl rfl) ?_
        refine s_run (w_none rfl) rfl (d_pickT rfl rfl rfl) ?_
        refine s_run (w_none rfl) rfl (mv_bx (c := true) rfl rfl (by decide)) ?_
        refine s_eff (e_call (w_g rfl rfl rfl rfl) rfl rfl Tryd.func23 rfl rfl rfl (works03 _ (H.gat hG)) ?_)
        rintro _ W ⟨rfl, hb⟩
        replace H := H.below hb
        clear hb
        refine s_run (w_none rfl) rfl (d_pickT rfl rfl rfl) ?_
        refine s_run (w_none rfl) rfl (as_b rfl rfl) ?_
        refine l_nil ?_
        refine k_ret ?_
        repeat (first | refine r_then ?_ | refine r_blk ?_)
        exact q_ret (v := .bool _) rfl rfl ⟨_, rfl, rfl, H.under⟩
    · skip
      refine k_region ?_
      refine s_run (w_none rfl) rfl (mv_i rfl rfl) ?_
      refine s_run (w_none rfl) rfl (mv_s rfl rfl) ?_
      refine s_run (w_none rfl) rfl (d_len rfl rfl tu55) ?_
      refine s_run (w_none rfl) rfl (d_lt rfl rfl rfl) ?_
      refine s_run (w_none rfl) rfl (mv_bx (c := false) rfl rfl (by simp; omega)) ?_
      refine s_skip (w_gno rfl rfl rfl rfl rfl) rfl ?_
      refine s_skip (w_gno rfl rfl rfl rfl rfl) rfl ?_
      refine s_skip (w_gno rfl rfl rfl rfl rfl) rfl ?_
      refine s_skip (w_gno rfl rfl rfl rfl rfl) rfl ?_
      refine s_skip (w_gno rfl rfl rfl rfl rfl) rfl ?_
      refine s_skip (w_gno rfl rfl rfl rfl rfl) rfl ?_
      refine s_skip (w_gno rfl rfl rfl rfl rfl) rfl ?_
      refine s_skip (w_gno rfl rfl rfl rfl rfl) rfl ?_
      refine s_run (w_none rfl) rfl (d_pickF rfl rfl rfl) ?_
      refine l_nil ?_
      refine k_condF rfl rfl ?_
      refine k_exit ?_
      refine x_then (x_then ?_)
      refine x_hit ?_
      refine k_seq ?_
      refine k_seq ?_
      refine k_region ?_
      refine s_run (w_none rfl) rfl (mv_i rfl rfl) ?_
      refine s_run (w_none rfl) rfl (mv_s rfl rfl) ?_
      refine s_run (w_none rfl) rfl (d_len rfl rfl tu55) ?_
      refine s_run (w_none rfl) rfl (d_eq rfl rfl rfl) ?_
      refine l_nil ?_
      refine k_condT rfl (by simp; omega) ?_
      refine k_seq ?_
      obtain rfl : i = l.length := by omega
      rw [Th.rem_end] at H
      refine k_region ?_
      refine s_run (w_none rfl) rfl (mv_p rfl rfl) ?_
      refine s_eff (e_call (w_none rfl) rfl rfl Tryd.func21 rfl rfl rfl (prgEnd _ (H.get (f := RdP 5 96 r3 A3 ((Th.lay l).take ck).length c3 ([], 0)))) ?_)
      rintro _ W ⟨rfl, hb⟩
      replace H := H.below hb
      clear hb
      refine s_run (w_none rfl) rfl (d_eq rfl rfl rfl) ?_
      refine s_run (w_none rfl) rfl (mv_bx (c := true) rfl rfl (by decide)) ?_
      refine s_eff (e_call (w_g rfl rfl rfl rfl) rfl rfl Tryd.func23 rfl rfl rfl (works03 _ (H.gat hG)) ?_)
      rintro _ W ⟨rfl, hb⟩
      replace H := H.below hb
      clear hb
      refine s_run (w_none rfl) rfl (d_pickT rfl rfl rfl) ?_
      refine s_run (w_none rfl) rfl (as_b rfl rfl) ?_
      refine l_nil ?_
      refine k_ret ?_
      repeat (first | refine r_then ?_ | refine r_blk ?_)
      exact q_ret (v := .bool _) rfl rfl ⟨_, rfl, rfl, H.under⟩
end Go.Proofs.YtejaohlijaodjaaDoor

namespace Go.Proofs.YtejaohlijaodjaaDoor
open Go Go.RowKit
attribute [local irreducible] wpList

def kdOf (p : Nat) : Int := [0, 0, 1, 2, 3].getD p 0
theorem kd_get {p : Nat} (h : p < 5) : ([.int .i64 0, .int .i64 0, .int .i64 1, .int .i64 2, .int .i64 3] : List Value)[p * 1]? = some (.int .i64 (kdOf p)) := by
  match p, h with
  | 0, _ => rfl
  | 1, _ => rfl
  | 2, _ => rfl
  | 3, _ => rfl
  | 4, _ => rfl
theorem kd_rng {p : Nat} (h : p < 5) : -9223372036854775808 ≤ kdOf p ∧ kdOf p ≤ 9223372036854775807 := by
  match p, h with
  | 0, _ => exact ⟨by decide, by decide⟩
  | 1, _ => exact ⟨by decide, by decide⟩
  | 2, _ => exact ⟨by decide, by decide⟩
  | 3, _ => exact ⟨by decide, by decide⟩
  | 4, _ => exact ⟨by decide, by decide⟩
abbrev z32 : List UInt8 := List.replicate 32 0
abbrev z16 : List UInt8 := List.replicate 16 0
section
variable {kd n : Int} {B : Option Addr} {m d : Nat} {h t : List UInt8}
theorem thing_one : (thingC kd n B m d h t).all (·.oneCell') = true := by
  unfold thingC
  simp only [List.all_cons, List.all_append, all_u8L]
  rfl
theorem spl_h {h' : List UInt8} (hh : h.length = 32) (hh' : h'.length = 32) : spl (thingC kd n B m d h t) 3 (h'.map u8v) = thingC kd n B m d h' t := by
  rw [spl_len _ _ _ (by simp [thingC]; omega)]
  have e : (3 + (h'.map u8v).length) = (h.map u8v).length + 3 := by simp only [List.length_map]; omega
  rw [e]
  unfold thingC
  simp only [List.drop_succ_cons, List.drop_left, List.take_succ_cons, List.take_zero, List.cons_append, List.nil_append]
theorem spl_t {t' : List UInt8} (hh : h.length = 32) (ht : t.length = 16) (ht' : t'.length = 16) : spl (thingC kd n B m d h t) 35 (t'.map u8v) = thingC kd n B m d h t' := by
  have hl := len_thing (kd := kd) (n := n) (B := B) (m := m) (d := d) hh ht
  rw [spl_len _ _ _ (by rw [hl]; simp; omega), List.drop_eq_nil_of_le (by rw [hl]; simp; omega), List.append_nil]
  have e : (thingC kd n B m d h t).take 35 = .int .i64 kd :: .int .i64 n :: .slice B m d :: h.map u8v := by
    unfold thingC
    simp only [List.take_succ_cons]
    rw [List.take_append_of_le_length (by simp; omega), List.take_of_length_le (by simp; omega)]
  rw [e]
  rfl
end
theorem HeldP.more {A0 : Option Addr} {o o' : Nat} {ys : List UInt8} {v : Value} {b : List UInt8} (h : HeldP A0 o ys v b) (ho : o ≤ o') : HeldP A0 o' ys v b := by
  obtain ⟨B, cb, q, h1, h2, h3, h4, h5, h6⟩ := h
  exact ⟨B, cb, q, h1, h2, h3, h4, by omega, h6⟩
theorem RdB.held {u t r n0 c0 : Nat} {A0 : Option Addr} {v : Value} {b l : List UInt8} {s : RS} {W : World} (h : (RdYB u t r A0 n0 c0 (· = l) v b s).p W) : HeldP A0 l.length l v b := by
  obtain ⟨A, c, o, ys, _, _, _, h4, h5, rfl⟩ := h
  exact h5.more (by have := h4.1; have := h4.2.1; omega)
theorem RdB.held_bs {u t r n0 c0 : Nat} {A0 : Option Addr} {v v' : Value} {b b' l : List UInt8} {s : RS} {W : World} (h : (RdYB u t r A0 n0 c0 (· = l) v' b' s).p W) (hH : HeldP A0 l.length l v b) : Bs W (0 ≤ ·) v b := by
  obtain ⟨A, c, o, ys, h1, h2, h3, h4, _, rfl⟩ := h
  have hn := h4.1
  obtain ⟨B, cb, q, rfl, h6, h7, h8, h9, h10⟩ := hH
  refine Bs.mk ?_ h6 h7
  rcases Nat.eq_zero_or_pos b.length with hz | hz
  · exact ⟨by simp, fun h => by omega⟩
  · obtain ⟨_, _, hv, hc1, hc2⟩ := row_form h2
    cases hv
    have hb := bs_cut (bs_row h2 hn) hn (a := q) (b := q + b.length) (by omega) (by omega)
    rw [if_neg (by omega), Nat.mul_one, Nat.add_sub_cancel_left, h10, ← h8 hz] at hb
    obtain ⟨_, _, hv, _, _, hr⟩ := hb.op
    cases hv
    exact hr
/-- Things read so far: their bytes lie in what is read. -/
def AllP (A0 : Option Addr) (b : List UInt8) (al : List DThing) (xs : List Value) : Prop := ∀ (j : Nat) (x : DThing), al[j]? = some x → Th.Ok x ∧ ∃ B d, sub xs (j * 51) 51 = thingC x.kind x.n B x.b.length d x.h x.t ∧ HeldP A0 b.length b (.slice B x.b.length d) x.b
theorem AllP.snoc {A0 B : Option Addr} {b : List UInt8} {al : List DThing} {xs : List Value} {x : DThing} {d : Nat} (h : AllP A0 b al xs) (hl : xs.length = al.length * 51) (hok : Th.Ok x) (hH : HeldP A0 b.length b (.slice B x.b.length d) x.b) : AllP A0 b (al ++ [x]) (xs ++ thingC x.kind x.n B x.b.length d x.h x.t) := fun j y hy => by
  have hlt := len_thing (kd := x.kind) (n := x.n) (B := B) (m := x.b.length) (d := d) hok.2.2.1 hok.2.2.2
  rcases Nat.lt_or_ge j al.length with hj | hj
  · rw [List.getElem?_append_left hj] at hy
    obtain ⟨h1, B', d', h2, h3⟩ := h j y hy
    refine ⟨h1, B', d', ?_, h3⟩
    rw [← h2]
    unfold sub
    rw [List.drop_append, List.take_append_of_le_length (by rw [List.length_drop]; omega)]
  · rw [List.getElem?_append_right hj] at hy
    have hj2 : j = al.length := by
      have := (List.getElem?_eq_some_iff.1 hy).1
      simp at this; omega
    subst hj2
    rw [Nat.sub_self] at hy
    obtain rfl : x = y := by simpa using hy
    refine ⟨hok, B, d, ?_, hH⟩
    have e := sub_skip (a := xs) (b := thingC x.kind x.n B x.b.length d x.h x.t) (k := 0) (m := 51) hl
    rw [Nat.add_zero] at e
    rw [e]
    exact sub_all hlt
theorem rl_all {W : World} {u t r n0 c0 d2 : Nat} {A0 B2 : Option Addr} {b : List UInt8} {al : List DThing} {xs : List Value} {s : RS} (h : AllP A0 b al xs) (hr : Rd W (0 ≤ ·) 51 B2 al.length xs) (hd : al.length ≤ d2 ∧ d2 ≤ 9223372036854775807) (hR : (RdYP u t r A0 n0 c0 (· = b) s).p W) : RL 51 RThing W (0 ≤ ·) [.slice B2 al.length d2] al :=
  ⟨B2, d2, xs, rfl, hd.1, hd.2, hr, fun j x hx => by
    obtain ⟨h1, B, d, h2, h3⟩ := h j x hx
    rw [h2]
    exact ⟨[_], [_], [_], _, _, rfl, ⟨rfl, h1.1⟩, ⟨rfl, h1.2.1⟩, ⟨_, rfl, RdB.held_bs hR h3⟩, ⟨rfl, h1.2.2.1⟩, ⟨rfl, h1.2.2.2⟩⟩⟩
theorem all_le {A0 : Option Addr} {b : List UInt8} {al : List DThing} {xs : List Value} (h : AllP A0 b al xs) : ∀ x ∈ al, x.b.length ≤ b.length := fun x hx => by
  obtain ⟨i, hi⟩ := List.getElem?_of_mem hx
  obtain ⟨_, B, d, _, _, _, q, _, _, _, _, h5, _⟩ := h i x hi
  omega
theorem lay_snoc {al : List DThing} {x : DThing} : Th.lay (al ++ [x]) = Th.lay al ++ Th.enc x := by simp [Th.lay]
/-- What was read, laid again. -/
def BackP (k : Nat) (x : DThing) (rest : List UInt8) (s' : RS) : Prop := x.kind = kdOf k ∧ Th.Ok x ∧ 0 ≤ x.n ∧ Pk.Ok s' ∧ (s'.2 = 0 → rest = Th.enc x ++ s'.1)
theorem toU_nat {u : Nat} (h : u < 9223372036854775808) : Pk.toU (u : Int) = u := by rw [Pk.toU_pos _ (by omega) (by omega)]; omega
theorem back_int {k : Nat} {rest : List UInt8} (hk : k = 0) : BackP k ⟨kdOf k, ((Pk.rInt (rest, 0)).1 : Int), [], z32, z16⟩ rest (Pk.rInt (rest, 0)).2 := by
  subst hk
  have hlt := Pk.rInt_lt (s := (rest, 0))
  refine ⟨rfl, ⟨kd_rng (p := 0) (by decide), ⟨by simp only; omega, by simp only; omega⟩, rfl, rfl⟩, by simp, Pk.ok_rInt ⟨fun h => absurd rfl h, by simp, by simp⟩, fun he => ?_⟩
  have := Pk.rInt_back (s := (rest, 0)) rfl he
  show rest = _
  rw [show Th.enc ⟨kdOf 0, ((Pk.rInt (rest, 0)).1 : Int), [], z32, z16⟩ = Pk.int (Pk.toU ((Pk.rInt (rest, 0)).1 : Int)) from rfl, toU_nat hlt]
  exact this
theorem back_count {k : Nat} {m : Int} {rest : List UInt8} (hk : k = 1) : BackP k ⟨kdOf k, ((Pk.rCount m (rest, 0)).1 : Int), [], z32, z16⟩ rest (Pk.rCount m (rest, 0)).2 := by
  subst hk
  have hlt := Pk.rCount_lt (m := m) (s := (rest, 0))
  refine ⟨rfl, ⟨kd_rng (p := 1) (by decide), ⟨by simp only; omega, by simp only; omega⟩, rfl, rfl⟩, by simp, Pk.ok_rCount ⟨fun h => absurd rfl h, by simp, by simp⟩, fun he => ?_⟩
  have := Pk.rCount_back (m := m) (s := (rest, 0)) rfl he
  show rest = _
  rw [show Th.enc ⟨kdOf 1, ((Pk.rCount m (rest, 0)).1 : Int), [], z32, z16⟩ = Pk.int (Pk.toU ((Pk.rCount m (rest, 0)).1 : Int)) from rfl, toU_nat hlt]
  exact this
theorem back_blob {k : Nat} {m : Int} {rest : List UInt8} (hk : k = 2) : BackP k ⟨kdOf k, 0, (Pk.rBlob m (rest, 0)).1, z32, z16⟩ rest (Pk.rBlob m (rest, 0)).2 := by
  subst hk
  refine ⟨rfl, ⟨kd_rng (p := 2) (by decide), ⟨by simp only; omega, by simp only; omega⟩, rfl, rfl⟩, by simp, Pk.ok_next (Pk.ok_rCount ⟨fun h => absurd rfl h, by simp, by simp⟩), fun he => ?_⟩
  have := Pk.rBlob_back (m := m) (s := (rest, 0)) rfl he
  exact this
theorem back_hash {k : Nat} {rest : List UInt8} (hk : k = 3) : BackP k ⟨kdOf k, 0, [], (Pk.rBytes 32 (rest, 0)).1, z16⟩ rest (Pk.rBytes 32 (rest, 0)).2 := by
  subst hk
  refine ⟨rfl, ⟨kd_rng (p := 3) (by decide), ⟨by simp only; omega, by simp only; omega⟩, Pk.len_rBytes, rfl⟩, by simp, Pk.ok_next ⟨fun h => absurd rfl h, by simp, by simp⟩, fun he => ?_⟩
  have := Pk.rBytes_back (n := 32) (s := (rest, 0)) rfl he
  exact this
theorem back_tag {k : Nat} {rest : List UInt8} (hk : k = 4) : BackP k ⟨kdOf k, 0, [], z32, (Pk.rBytes 16 (rest, 0)).1⟩ rest (Pk.rBytes 16 (rest, 0)).2 := by
  subst hk
  refine ⟨rfl, ⟨kd_rng (p := 4) (by decide), ⟨by simp only; omega, by simp only; omega⟩, rfl, Pk.len_rBytes⟩, by simp, Pk.ok_next ⟨fun h => absurd rfl h, by simp, by simp⟩, fun he => ?_⟩
  have := Pk.rBytes_back (n := 16) (s := (rest, 0)) rfl he
  exact this

set_option maxHeartbeats 4000000 in
theorem packForm {S SL : Nat → Prop} {v : Value} {b : List UInt8} {AL : Option Addr} {m cL : Nat} {l : List (Int × Int)} (w : World) (hG : Gat w 0 formsC) (hb : Bs w S v b) (hl2 : Rd w SL 2 AL m (askC l)) (hlo : b.length ≤ 4096) : Calls Tryd.prog 8 [v, .slice AL m cL].toArray w (Ret (Is w (.bool true))) := by
  have hb0 := hb
  obtain ⟨A, c, rfl, _, _, _⟩ := hb.op
  obtain rfl : m = l.length := by have := hl2.1; rw [len_ask] at this; omega
  refine k_enter (l := [_, _]) Tryd.func8 rfl rfl ?_
  have H := St.start nT w
  refine k_seq ?_
  refine k_region ?_
  refine s_run (w_none rfl) rfl (as_b rfl rfl) ?_
  refine l_nil ?_
  refine k_seq ?_
  refine k_seq ?_
  refine k_region ?_
  refine s_run (w_none rfl) rfl (mv_s rfl rfl) ?_
  refine s_run (w_none rfl) rfl (d_len rfl rfl tu23) ?_
  refine s_run (w_none rfl) rfl (d_gt rfl rfl rfl) ?_
  refine l_nil ?_
  refine k_condF rfl (by simp; omega) ?_
  refine k_skip ?_
  refine k_seq ?_
  refine k_region ?_
  refine s_run (w_none rfl) rfl (mv_s rfl rfl) ?_
  refine s_eff (e_call (w_none rfl) rfl rfl Tryd.func19 rfl rfl rfl (prgReadY (l := b) _ (H.bs hb0) (by omega)) ?_)
  rintro _ W ⟨r3, A3, c3, rfl, hS3⟩
  replace H := H.add hS3
  clear hS3
  simp only [List.cons_append, List.nil_append] at H
  refine s_run (w_none rfl) rfl (as_p rfl rfl) ?_
  refine l_nil ?_
  refine k_seq ?_
  refine k_region ?_
  refine s_run (w_none rfl) rfl (as_s rfl rfl) ?_
  refine l_nil ?_
  replace H := H.nilrow 40 51
  refine k_seq ?_
  refine k_seq ?_
  refine k_region ?_
  refine s_run (w_none rfl) rfl (as_i rfl rfl) ?_
  refine l_nil ?_
  refine k_bcut 16 [4, 6, 7, 8] (fun sl W => ∃ al : List DThing, ∃ xs : List Value, ∃ B2 : Option Addr, ∃ d2 : Nat, ∃ rest : List UInt8, ∃ s' : RS, sl = [(6, .slice B2 al.length d2)] ∧ (b = Th.lay al ++ rest) ∧ (AllP A3 b al xs) ∧ (xs.length = al.length * 51) ∧ (al.length ≤ d2 ∧ d2 ≤ 9223372036854775807) ∧ (Pk.Ok s') ∧ (s'.2 = 0 → s' = (rest, 0)) ∧ St nT w W [Fact.row 40 51 (.slice B2 al.length d2) al.length (xs), RdYP 5 96 r3 A3 b.length c3 (· = b) s']) ?_ (fun sl ρv W hJ => ?_)
  · skip
    refine k_loop 16 [4, 6, 7, 8] (fun mm sl W => ∃ i : Nat, ∃ al : List DThing, ∃ xs : List Value, ∃ B2 : Option Addr, ∃ d2 : Nat, ∃ rest : List UInt8, l.length - i = mm ∧ sl = [(7, .int .i64 (i : Int)), (6, .slice B2 al.length d2)] ∧ (i ≤ l.length ∧ al.length ≤ i ∧ i ≤ 80) ∧ (b = Th.lay al ++ rest) ∧ (AllP A3 b al xs) ∧ (xs.length = al.length * 51) ∧ (al.length ≤ d2 ∧ d2 ≤ 9223372036854775807) ∧ St nT w W [Fact.row 40 51 (.slice B2 al.length d2) al.length (xs), RdYP 5 96 r3 A3 b.length c3 (· = b) (rest, 0)]) _ _ ⟨0, [], [], none, 0, b, rfl, rfl, ⟨Nat.zero_le _, Nat.le_refl _, Nat.zero_le _⟩, rfl, fun j x h => by simp at h, rfl, ⟨Nat.le_refl _, by omega⟩, H⟩ ⟨rfl, rfl, trivial⟩ (fun mm sl ρv W hJ => ?_)
    clear H; obtain ⟨i, al, xs, B2, d2, rest, rfl, rfl, hi, hb2, hall, hxl, hd2, H⟩ := hJ
    refine k_one ?_
    refine k_seq ?_
    refine k_seq ?_
    rcases Nat.lt_or_ge i l.length with hil | hil
    · skip
      refine k_region ?_
      refine s_run (w_none rfl) rfl (mv_i rfl rfl) ?_
      refine s_run (w_none rfl) rfl (mv_s rfl rfl) ?_
      refine s_run (w_none rfl) rfl (d_len rfl rfl tu48) ?_
      refine s_run (w_none rfl) rfl (d_lt rfl rfl rfl) ?_
      refine s_run (w_none rfl) rfl (mv_bx (c := true) rfl rfl (by simp; omega)) ?_
      refine s_run (w_g rfl rfl rfl rfl) rfl (mv_i rfl rfl) ?_
      refine s_run (w_g rfl rfl rfl rfl) rfl (d_lt rfl rfl rfl) ?_
      refine s_run (w_none rfl) rfl (d_pickT rfl rfl rfl) ?_
      refine l_nil ?_
      refine k_cond rfl (fun hc23 => ?_) (fun hc23 => ?_)
      · replace hc23 := of_decide_eq_true hc23
        obtain ⟨gl, ol, rfl, -⟩ := hl2.2 (by omega)
        obtain ⟨pk, hpk, hpk5⟩ : ∃ pk : Nat, pick (l.getD i (0, 0)).1 5 = (pk : Int) ∧ pk < 5 := by
          have := pick_in (v := (l.getD i (0, 0)).1) (n := 5) (by omega)
          exact ⟨(pick (l.getD i (0, 0)).1 5).toNat, by omega, by omega⟩
        refine k_skip ?_
        refine k_seq ?_
        refine k_block ?_
        refine k_seq ?_
        refine k_region ?_
        refine s_eff (e_bsl (xs := [.const (.int .i64 0), .const (.int .i64 0), .const (.int .i64 1), .const (.int .i64 2), .const (.int .i64 3)]) (vals := [.int .i64 _, .int .i64 _, .int .i64 _, .int .i64 _, .int .i64 _]) (vs := [.int .i64 _, .int .i64 _, .int .i64 _, .int .i64 _, .int .i64 _]) (w_none rfl) rfl rfl rfl rfl rfl rfl tu24 ts3 ty3 rfl rfl rfl H ?_)
        clear H; intro g5 W H
        refine s_run (w_none rfl) rfl (mv_s rfl rfl) ?_
        refine s_run (w_none rfl) rfl (mv_i rfl rfl) ?_
        refine s_run (w_none rfl) rfl (d_iaG rfl (H.rd hl2) rfl rfl (q := i) rfl hil tu48 ts53) ?_
        refine s_run (w_none rfl) rfl (d_fa rfl rfl tf53_0) ?_
        refine s_run (w_none rfl) rfl (d_ldE (off := 0) rfl (H.rd hl2) hil (sub_ask l i hil) rfl rfl rfl (by omega) ta3) ?_
        refine s_eff (e_call (w_none rfl) rfl rfl Tryd.func42 rfl rfl rfl (pick_any _ 5 _ (by omega)) ?_)
        rintro _ W ⟨rfl, hb⟩
        replace H := H.below hb
        clear hb
        rw [hpk]
        refine s_run (w_none rfl) rfl (d_iaS rfl (rd_blk (H.blk (g := g5)) rfl) rfl rfl (q := pk) rfl hpk5 tu24 ts3) ?_
        refine s_run (w_none rfl) rfl (d_ldR0 rfl (rd_blk (m := 5) (H.blk (g := g5)) rfl) rfl ta3 (kd_get hpk5)) ?_
        refine s_run (w_none rfl) rfl (d_build (vs := thingC (kdOf pk) 0 none 0 0 z32 z16) rfl (by kernel_rfl)) ?_
        refine s_eff (e_alloc (w_none rfl) rfl rfl (thingC 0 0 none 0 0 z32 z16) tz40 H ?_)
        clear H; intro g8 W H
        refine s_eff (e_stoK (thingC (kdOf pk) 0 none 0 0 z32 z16) (w_none rfl) rfl rfl rfl rfl rfl ts40 rfl rfl H (by decide) (spl_all (c := thingC 0 0 none 0 0 z32 z16) rfl) ?_)
        clear H; intro W H
        refine l_nil ?_
        refine k_seq ?_
        refine k_seq ?_
        refine k_region ?_
        refine s_run (w_none rfl) rfl (mv_s rfl rfl) ?_
        refine s_run (w_none rfl) rfl (mv_i rfl rfl) ?_
        refine s_run (w_none rfl) rfl (d_iaG rfl (H.rd hl2) rfl rfl (q := i) rfl hil tu48 ts53) ?_
        refine s_run (w_none rfl) rfl (d_fa rfl rfl tf53_0) ?_
        refine s_run (w_none rfl) rfl (d_ldE (off := 0) rfl (H.rd hl2) hil (sub_ask l i hil) rfl rfl rfl (by omega) ta3) ?_
        refine s_eff (e_call (w_none rfl) rfl rfl Tryd.func42 rfl rfl rfl (pick_any _ 5 _ (by omega)) ?_)
        rintro _ W ⟨rfl, hb⟩
        replace H := H.below hb
        clear hb
        rw [hpk]
        refine l_nil ?_
        refine k_bcut 42 [] (fun sl W => ∃ x : DThing, ∃ B : Option Addr, ∃ d : Nat, ∃ s' : RS, sl = [] ∧ (BackP pk x rest s') ∧ (HeldP A3 b.length b (.slice B x.b.length d) x.b) ∧ St nT w W [Fact.blk g8 (thingC x.kind x.n B x.b.length d x.h x.t) 40, Fact.blk g5 [.int .i64 0, .int .i64 0, .int .i64 1, .int .i64 2, .int .i64 3] 3, Fact.row 40 51 (.slice B2 al.length d2) al.length (xs), RdYP 5 96 r3 A3 b.length c3 (· = b) s']) ?_ (fun sl ρv W hJ => ?_)
        · skip
          refine k_seq ?_
          refine k_region ?_
          refine s_run (w_none rfl) rfl (d_eq rfl rfl rfl) ?_
          refine s_run (w_none rfl) rfl (as_b rfl rfl) ?_
          refine l_nil ?_
          refine k_cond rfl (fun hc42 => ?_) (fun hc42 => ?_)
          · have hk : pk = 0 := by have := eq_of_beq hc42; omega
            refine k_region ?_
            refine s_run (w_none rfl) rfl (mv_p rfl rfl) ?_
            refine s_eff (e_call (w_none rfl) rfl rfl Tryd.func20 rfl rfl rfl (prgInt _ (H.get (f := RdYP 5 96 r3 A3 b.length c3 (· = b) (rest, 0))) ⟨fun h => absurd rfl h, by simp, by simp⟩ (H.gat hG) (H.away (f := RdYP 5 96 r3 A3 b.length c3 (· = b) (rest, 0)) hG.1)) ?_)
            rintro _ W ⟨rfl, hp, hf⟩
            replace H := H.mut (f := RdYP 5 96 r3 A3 b.length c3 (· = b) (rest, 0)) (f' := RdYP 5 96 r3 A3 b.length c3 (· = b) (Pk.rInt (rest, 0)).2) hf hp (fun _ h => h)
            clear hp hf
            refine s_run (w_none rfl) rfl (d_fa rfl rfl tf40_1) ?_
            refine s_eff (e_stoK (thingC (kdOf pk) ((Pk.rInt (rest, 0)).1 : Int) none 0 0 z32 z16) (w_none rfl) rfl rfl rfl rfl rfl ts3 rfl rfl H (by simp [thingC]) rfl ?_)
            clear H; intro W H
            refine l_nil ?_
            refine k_nil ?_
            refine b_endc ?_
            refine ⟨_, _, rfl, ?_, ?_, ⟨(⟨kdOf pk, ((Pk.rInt (rest, 0)).1 : Int), [], z32, z16⟩ : DThing), none, 0, (Pk.rInt (rest, 0)).2, rfl, back_int (by omega), held_nil, H⟩⟩
            · repeat (first | (with_reducible exact Eqo.refl) | ((with_reducible refine Eqo.updl _ (Eqo.ovr2 ?_ ?_) ?_); rotate_left; exact rfl; exact rfl) | ((with_reducible refine Eqo.upd ?_ ?_); rotate_left; exact rfl))
            · exact trivial
          · have hk0 : ¬ pk = 0 := by intro e; subst e; simp at hc42
            refine k_seq ?_
            refine k_region ?_
            refine s_run (w_none rfl) rfl (d_eq rfl rfl rfl) ?_
            refine s_run (w_none rfl) rfl (as_b rfl rfl) ?_
            refine l_nil ?_
            refine k_cond rfl (fun hc47 => ?_) (fun hc47 => ?_)
            · have hk : pk = 1 := by have := eq_of_beq hc47; omega
              refine k_region ?_
              refine s_run (w_none rfl) rfl (mv_p rfl rfl) ?_
              refine s_run (w_none rfl) rfl (mv_s rfl rfl) ?_
              refine s_run (w_none rfl) rfl (mv_i rfl rfl) ?_
              refine s_run (w_none rfl) rfl (d_iaG rfl (H.rd hl2) rfl rfl (q := i) rfl hil tu48 ts53) ?_
              refine s_run (w_none rfl) rfl (d_fa rfl rfl tf53_1) ?_
              refine s_run (w_none rfl) rfl (d_ldE (off := 1) rfl (H.rd hl2) hil (sub_ask l i hil) rfl rfl rfl (by omega) ta3) ?_
              refine s_eff (e_call (w_none rfl) rfl rfl Tryd.func47 rfl rfl rfl (prgCount (m := (l.getD i (0, 0)).2) _ (H.get (f := RdYP 5 96 r3 A3 b.length c3 (· = b) (rest, 0))) ⟨fun h => absurd rfl h, by simp, by simp⟩ (H.gat hG) (H.away (f := RdYP 5 96 r3 A3 b.length c3 (· = b) (rest, 0)) hG.1)) ?_)
              rintro _ W ⟨rfl, hp, hf⟩
              replace H := H.mut (f := RdYP 5 96 r3 A3 b.length c3 (· = b) (rest, 0)) (f' := RdYP 5 96 r3 A3 b.length c3 (· = b) (Pk.rCount (l.getD i (0, 0)).2 (rest, 0)).2) hf hp (fun _ h => h)
              clear hp hf
              refine s_run (w_none rfl) rfl (d_fa rfl rfl tf40_1) ?_
              refine s_eff (e_stoK (thingC (kdOf pk) ((Pk.rCount (l.getD i (0, 0)).2 (rest, 0)).1 : Int) none 0 0 z32 z16) (w_none rfl) rfl rfl rfl rfl rfl ts3 rfl rfl H (by simp [thingC]) rfl ?_)
              clear H; intro W H
              refine l_nil ?_
              refine k_nil ?_
              refine b_endc ?_
              refine ⟨_, _, rfl, ?_, ?_, ⟨(⟨kdOf pk, ((Pk.rCount (l.getD i (0, 0)).2 (rest, 0)).1 : Int), [], z32, z16⟩ : DThing), none, 0, (Pk.rCount (l.getD i (0, 0)).2 (rest, 0)).2, rfl, back_count (by omega), held_nil, H⟩⟩
              · repeat (first | (with_reducible exact Eqo.refl) | ((with_reducible refine Eqo.updl _ (Eqo.ovr2 ?_ ?_) ?_); rotate_left; exact rfl; exact rfl) | ((with_reducible refine Eqo.upd ?_ ?_); rotate_left; exact rfl))
              · exact trivial
            · have hk1 : ¬ pk = 1 := by intro e; subst e; simp at hc47
              refine k_seq ?_
              refine k_region ?_
              refine s_run (w_none rfl) rfl (d_eq rfl rfl rfl) ?_
              refine s_run (w_none rfl) rfl (as_b rfl rfl) ?_
              refine l_nil ?_
              refine k_cond rfl (fun hc57 => ?_) (fun hc57 => ?_)
              · have hk : pk = 2 := by have := eq_of_beq hc57; omega
                refine k_region ?_
                refine s_run (w_none rfl) rfl (mv_p rfl rfl) ?_
                refine s_run (w_none rfl) rfl (mv_s rfl rfl) ?_
                refine s_run (w_none rfl) rfl (mv_i rfl rfl) ?_
                refine s_run (w_none rfl) rfl (d_iaG rfl (H.rd hl2) rfl rfl (q := i) rfl hil tu48 ts53) ?_
                refine s_run (w_none rfl) rfl (d_fa rfl rfl tf53_1) ?_
                refine s_run (w_none rfl) rfl (d_ldE (off := 1) rfl (H.rd hl2) hil (sub_ask l i hil) rfl rfl rfl (by omega) ta3) ?_
                refine s_eff (e_call (w_none rfl) rfl rfl Tryd.func48 rfl rfl rfl (prgBlob (m := (l.getD i (0, 0)).2) _ (H.get (f := RdYP 5 96 r3 A3 b.length c3 (· = b) (rest, 0))) ⟨fun h => absurd rfl h, by simp, by simp⟩ (H.gat hG) (H.away (f := RdYP 5 96 r3 A3 b.length c3 (· = b) (rest, 0)) hG.1)) ?_)
                rintro _ W ⟨hp1, hf1⟩
                obtain ⟨B1, d1, rfl⟩ := RdB.form hp1
                replace H := H.mut (f := RdYP 5 96 r3 A3 b.length c3 (· = b) (rest, 0)) (f' := RdYB 5 96 r3 A3 b.length c3 (· = b) (.slice B1 (List.length (Pk.rBlob (l.getD i (0, 0)).2 (rest, 0)).1) d1) (Pk.rBlob (l.getD i (0, 0)).2 (rest, 0)).1 (Pk.rBlob (l.getD i (0, 0)).2 (rest, 0)).2) hf1 hp1 (fun _ h => h)
                clear hp1 hf1
                have hHb := RdB.held (H.get (f := RdYB 5 96 r3 A3 b.length c3 (· = b) (.slice B1 (List.length (Pk.rBlob (l.getD i (0, 0)).2 (rest, 0)).1) d1) (Pk.rBlob (l.getD i (0, 0)).2 (rest, 0)).1 (Pk.rBlob (l.getD i (0, 0)).2 (rest, 0)).2))
                replace H := H.mut (f := RdYB 5 96 r3 A3 b.length c3 (· = b) (.slice B1 (List.length (Pk.rBlob (l.getD i (0, 0)).2 (rest, 0)).1) d1) (Pk.rBlob (l.getD i (0, 0)).2 (rest, 0)).1 (Pk.rBlob (l.getD i (0, 0)).2 (rest, 0)).2) (f' := RdYP 5 96 r3 A3 b.length c3 (· = b) (Pk.rBlob (l.getD i (0, 0)).2 (rest, 0)).2) Fr.refl (RdB.toP (H.get (f := RdYB 5 96 r3 A3 b.length c3 (· = b) (.slice B1 (List.length (Pk.rBlob (l.getD i (0, 0)).2 (rest, 0)).1) d1) (Pk.rBlob (l.getD i (0, 0)).2 (rest, 0)).1 (Pk.rBlob (l.getD i (0, 0)).2 (rest, 0)).2))) (fun _ h => h)
                refine s_run (w_none rfl) rfl (d_fa rfl rfl tf40_2) ?_
                refine s_eff (e_stoK (thingC (kdOf pk) 0 B1 (Pk.rBlob (l.getD i (0, 0)).2 (rest, 0)).1.length d1 z32 z16) (w_none rfl) rfl rfl rfl rfl rfl ts23 rfl rfl H (by simp [thingC]) rfl ?_)
                clear H; intro W H
                refine l_nil ?_
                refine k_nil ?_
                refine b_endc ?_
                refine ⟨_, _, rfl, ?_, ?_, ⟨(⟨kdOf pk, 0, (Pk.rBlob (l.getD i (0, 0)).2 (rest, 0)).1, z32, z16⟩ : DThing), B1, d1, (Pk.rBlob (l.getD i (0, 0)).2 (rest, 0)).2, rfl, back_blob (by omega), hHb, H⟩⟩
                · repeat (first | (with_reducible exact Eqo.refl) | ((with_reducible refine Eqo.updl _ (Eqo.ovr2 ?_ ?_) ?_); rotate_left; exact rfl; exact rfl) | ((with_reducible refine Eqo.upd ?_ ?_); rotate_left; exact rfl))
                · exact trivial
              · have hk2 : ¬ pk = 2 := by intro e; subst e; simp at hc57
                refine k_seq ?_
                refine k_region ?_
                refine s_run (w_none rfl) rfl (d_eq rfl rfl rfl) ?_
                refine s_run (w_none rfl) rfl (as_b rfl rfl) ?_
                refine l_nil ?_
                refine k_cond rfl (fun hc67 => ?_) (fun hc67 => ?_)
                · have hk : pk = 3 := by have := eq_of_beq hc67; omega
                  refine k_region ?_
                  refine s_run (w_none rfl) rfl (mv_p rfl rfl) ?_
                  refine s_eff (e_call (w_none rfl) rfl rfl Tryd.func45 rfl rfl rfl (prgHash _ (H.get (f := RdYP 5 96 r3 A3 b.length c3 (· = b) (rest, 0))) ⟨fun h => absurd rfl h, by simp, by simp⟩) ?_)
                  rintro _ W ⟨rfl, hp, hf⟩
                  replace H := H.mut (f := RdYP 5 96 r3 A3 b.length c3 (· = b) (rest, 0)) (f' := RdYP 5 96 r3 A3 b.length c3 (· = b) (Pk.rBytes 32 (rest, 0)).2) hf hp (fun _ h => h)
                  clear hp hf
                  refine s_run (w_none rfl) rfl (d_fa rfl rfl tf40_3) ?_
                  refine s_eff (e_stoK (thingC (kdOf pk) 0 none 0 0 (Pk.rBytes 32 (rest, 0)).1 z16) (w_none rfl) rfl rfl rfl rfl rfl ts36 (by rw [List.length_map]; exact Pk.len_rBytes) (all_u8L _) H (by simp [thingC]) (spl_h rfl Pk.len_rBytes) ?_)
                  clear H; intro W H
                  refine l_nil ?_
                  refine k_nil ?_
                  refine b_endc ?_
                  refine ⟨_, _, rfl, ?_, ?_, ⟨(⟨kdOf pk, 0, [], (Pk.rBytes 32 (rest, 0)).1, z16⟩ : DThing), none, 0, (Pk.rBytes 32 (rest, 0)).2, rfl, back_hash (by omega), held_nil, H⟩⟩
                  · repeat (first | (with_reducible exact Eqo.refl) | ((with_reducible refine Eqo.updl _ (Eqo.ovr2 ?_ ?_) ?_); rotate_left; exact rfl; exact rfl) | ((with_reducible refine Eqo.upd ?_ ?_); rotate_left; exact rfl))
                  · exact trivial
                · have hk3 : ¬ pk = 3 := by intro e; subst e; simp at hc67
                  refine k_seq ?_
                  refine k_region ?_
                  refine s_run (w_none rfl) rfl (d_eq rfl rfl rfl) ?_
                  refine s_run (w_none rfl) rfl (as_b rfl rfl) ?_
                  refine l_nil ?_
                  refine k_condT rfl (by rw [show pk = 4 by omega]; rfl) ?_
                  refine k_region ?_
                  refine s_run (w_none rfl) rfl (mv_p rfl rfl) ?_
                  refine s_eff (e_call (w_none rfl) rfl rfl Tryd.func46 rfl rfl rfl (prgTag _ (H.get (f := RdYP 5 96 r3 A3 b.length c3 (· = b) (rest, 0))) ⟨fun h => absurd rfl h, by simp, by simp⟩) ?_)
                  rintro _ W ⟨rfl, hp, hf⟩
                  replace H := H.mut (f := RdYP 5 96 r3 A3 b.length c3 (· = b) (rest, 0)) (f' := RdYP 5 96 r3 A3 b.length c3 (· = b) (Pk.rBytes 16 (rest, 0)).2) hf hp (fun _ h => h)
                  clear hp hf
                  refine s_run (w_none rfl) rfl (d_fa rfl rfl tf40_4) ?_
                  refine s_eff (e_stoK (thingC (kdOf pk) 0 none 0 0 z32 (Pk.rBytes 16 (rest, 0)).1) (w_none rfl) rfl rfl rfl rfl rfl ts38 (by rw [List.length_map]; exact Pk.len_rBytes) (all_u8L _) H (by simp [thingC]) (spl_t rfl rfl Pk.len_rBytes) ?_)
                  clear H; intro W H
                  refine l_nil ?_
                  refine k_nil ?_
                  refine b_endc ?_
                  refine ⟨_, _, rfl, ?_, ?_, ⟨(⟨kdOf pk, 0, [], z32, (Pk.rBytes 16 (rest, 0)).1⟩ : DThing), none, 0, (Pk.rBytes 16 (rest, 0)).2, rfl, back_tag (by omega), held_nil, H⟩⟩
                  · repeat (first | (with_reducible exact Eqo.refl) | ((with_reducible refine Eqo.updl _ (Eqo.ovr2 ?_ ?_) ?_); rotate_left; exact rfl; exact rfl) | ((with_reducible refine Eqo.upd ?_ ?_); rotate_left; exact rfl))
                  · exact trivial
        clear H; obtain ⟨x, B, d, s', rfl, hbk, hH, H⟩ := hJ
        refine k_seq ?_
        refine k_seq ?_
        have hhx := hbk.2.1.2.2.1
        have htx := hbk.2.1.2.2.2
        refine k_region ?_
        refine s_run (w_none rfl) rfl (mv_p rfl rfl) ?_
        refine s_eff (e_call (w_none rfl) rfl rfl Tryd.func39 rfl rfl rfl (prgBad _ (H.get (f := RdYP 5 96 r3 A3 b.length c3 (· = b) s'))) ?_)
        rintro _ W ⟨rfl, hb⟩
        replace H := H.below hb
        clear hb
        refine l_nil ?_
        refine k_cond rfl (fun hc78 => ?_) (fun hc78 => ?_)
        · have hne : s'.2 ≠ 0 := by simpa using hc78
          refine k_exit ?_
          refine x_miss rfl (x_then ?_)
          refine x_then (x_then ?_)
          refine x_hit ?_
          refine ⟨_, _, rfl, ?_, ?_, ⟨al, xs, B2, d2, rest, s', rfl, hb2, hall, hxl, hd2, hbk.2.2.2.1, fun h => absurd h hne, H.sub (by repeat (first | exact List.Sublist.refl _ | exact List.nil_sublist _ | refine List.Sublist.cons_cons _ ?_ | refine List.Sublist.cons _ ?_))⟩⟩
          · repeat (first | (with_reducible exact Eqo.refl) | ((with_reducible refine Eqo.updl _ (Eqo.ovr2 ?_ ?_) ?_); rotate_left; exact rfl; exact rfl) | ((with_reducible refine Eqo.upd ?_ ?_); rotate_left; exact rfl))
          · refine ⟨?_, trivial⟩
            · exact rfl
        · have he : s'.2 = 0 := by simpa using hc78
          obtain ⟨rest2, e2⟩ := s'
          obtain rfl : e2 = 0 := he
          refine k_skip ?_
          refine k_seq ?_
          refine k_seq ?_
          refine k_region ?_
          refine s_run (w_none rfl) rfl (d_fa rfl rfl tf40_1) ?_
          refine s_run (w_none rfl) rfl (d_ld rfl H rfl ta3 rfl) ?_
          refine s_run (w_none rfl) rfl (d_lt rfl rfl rfl) ?_
          refine l_nil ?_
          refine k_condF rfl (by have := hbk.2.2.1; simp; omega) ?_
          refine k_skip ?_
          refine k_region ?_
          refine s_run (w_none rfl) rfl (mv_s rfl rfl) ?_
          refine s_run (w_none rfl) rfl (d_ldXM (off := 0) rfl H (sub_all (len_thing hhx htx)) (len_thing hhx htx) rfl rfl rfl ta40 ts40) ?_
          refine s_eff (e_bsl (xs := [.tmp 83]) (vals := [.agg (thingC x.kind x.n B x.b.length d x.h x.t).toArray]) (vs := (thingC x.kind x.n B x.b.length d x.h x.t)) (w_none rfl) rfl rfl rfl rfl rfl rfl tu55 ts40 ty40 rfl (by simp [Value.cells, len_thing hhx htx]) (by simp [Value.cells]) H ?_)
          clear H; intro g23_2 W H
          refine s_eff (e_app (w_none rfl) rfl rfl tu55 tx40 rfl rfl rfl H (rd_blk H.blk (by rw [len_thing hhx htx])) (thing_one) (by omega) rfl ?_)
          clear H; intro A2 c2 W hc2 hd2 H
          replace H := H.drop
          refine s_run (w_none rfl) rfl (as_s rfl rfl) ?_
          refine l_nil ?_
          refine k_nil ?_
          refine b_end ?_
          refine k_region ?_
          refine s_run (w_none rfl) rfl (mv_i rfl rfl) ?_
          refine s_run (w_none rfl) rfl (d_add rfl rfl rfl (by omega)) ?_
          refine s_run (w_none rfl) rfl (as_i rfl rfl) ?_
          refine l_nil ?_
          refine k_nil ?_
          refine k_next ?_
          refine ⟨_, _, _, ?_, rfl, ?_, ?_, ⟨i + 1, al ++ [x], xs ++ (thingC x.kind x.n B x.b.length d x.h x.t), A2, c2, rest2, rfl, rfl, ⟨by omega, by rw [List.length_append, List.length_singleton]; omega, by omega⟩, by rw [lay_snoc, List.append_assoc, hb2]; exact congrArg _ (hbk.2.2.2.2 rfl), hall.snoc hxl hbk.2.1 hH, by rw [List.length_append, List.length_append, hxl, len_thing hhx htx, List.length_singleton]; omega, ⟨by rw [List.length_append, List.length_singleton]; exact hc2, hd2⟩, by rw [List.length_append, List.length_singleton]; exact H.sub (by repeat (first | exact List.Sublist.refl _ | exact List.nil_sublist _ | refine List.Sublist.cons_cons _ ?_ | refine List.Sublist.cons _ ?_))⟩⟩
          · omega
          · repeat (first | ((with_reducible refine Eqo.updl _ Eqo.ovr ?_); exact rfl) | ((with_reducible refine Eqo.updl _ (Eqo.ovr2 ?_ ?_) ?_); rotate_left; exact rfl; exact rfl) | ((with_reducible refine Eqo.upd ?_ ?_); rotate_left; exact rfl))
          · refine ⟨?_, ?_, trivial⟩
            · exact vi (by omega)
            · exact sl_eq (by rw [List.length_append, List.length_singleton])
      · skip
        refine k_exit ?_
        refine x_then (x_then ?_)
        refine x_hit ?_
        refine ⟨_, _, rfl, ?_, ?_, ⟨al, xs, B2, d2, rest, (rest, 0), rfl, hb2, hall, hxl, hd2, ⟨fun h => absurd rfl h, by simp, by simp⟩, fun _ => rfl, H.sub (by repeat (first | exact List.Sublist.refl _ | exact List.nil_sublist _ | refine List.Sublist.cons_cons _ ?_ | refine List.Sublist.cons _ ?_))⟩⟩
        · repeat (first | (with_reducible exact Eqo.refl) | ((with_reducible refine Eqo.updl _ (Eqo.ovr2 ?_ ?_) ?_); rotate_left; exact rfl; exact rfl) | ((with_reducible refine Eqo.upd ?_ ?_); rotate_left; exact rfl))
        · refine ⟨?_, trivial⟩
          · exact rfl
    · skip
      refine k_region ?_
      refine s_run (w_none rfl) rfl (mv_i rfl rfl) ?_
      refine s_run (w_none rfl) rfl (mv_s rfl rfl) ?_
      refine s_run (w_none rfl) rfl (d_len rfl rfl tu48) ?_
      refine s_run (w_none rfl) rfl (d_lt rfl rfl rfl) ?_
      refine s_run (w_none rfl) rfl (mv_bx (c := false) rfl rfl (by simp; omega)) ?_
      refine s_skip (w_gno rfl rfl rfl rfl rfl) rfl ?_
      refine s_skip (w_gno rfl rfl rfl rfl rfl) rfl ?_
      refine s_run (w_none rfl) rfl (d_pickF rfl rfl rfl) ?_
      refine l_nil ?_
      refine k_condF rfl rfl ?_
      refine k_exit ?_
      refine x_then (x_then ?_)
      refine x_hit ?_
      refine ⟨_, _, rfl, ?_, ?_, ⟨al, xs, B2, d2, rest, (rest, 0), rfl, hb2, hall, hxl, hd2, ⟨fun h => absurd rfl h, by simp, by simp⟩, fun _ => rfl, H.sub (by repeat (first | exact List.Sublist.refl _ | exact List.nil_sublist _ | refine List.Sublist.cons_cons _ ?_ | refine List.Sublist.cons _ ?_))⟩⟩
      · repeat (first | (with_reducible exact Eqo.refl) | ((with_reducible refine Eqo.updl _ (Eqo.ovr2 ?_ ?_) ?_); rotate_left; exact rfl; exact rfl) | ((with_reducible refine Eqo.upd ?_ ?_); rotate_left; exact rfl))
      · refine ⟨?_, trivial⟩
        · exact rfl
  clear H; obtain ⟨al, xs, B2, d2, rest, s', rfl, hb2, hall, hxl, hd2, hok, hs0, H⟩ := hJ
  refine k_seq ?_
  have hle := all_le hall
  have hlb : (Th.lay al).length ≤ b.length := by rw [hb2, List.length_append]; omega
  refine k_region ?_
  refine s_run (w_none rfl) rfl (mv_s rfl rfl) ?_
  refine s_eff (e_call (w_none rfl) rfl rfl Tryd.func43 rfl rfl rfl (laidThings _ (rl_all hall (H.rowrd (A := B2)) hd2 (H.get (f := RdYP 5 96 r3 A3 b.length c3 (· = b) s'))) (H.gat hG) (by omega) (fun x hx => by have := hle x hx; omega)) ?_)
  rintro _ W ⟨A4, c4, rfl, hc4, hd4, hn⟩
  replace H := H.new hn
  clear hn
  refine s_run (w_none rfl) rfl (as_s rfl rfl) ?_
  refine l_nil ?_
  refine k_seq ?_
  refine k_seq ?_
  rcases (show s'.2 = 0 ∨ ¬ s'.2 = 0 by omega) with he | he
  · obtain rfl := hs0 he
    refine k_region ?_
    refine s_run (w_none rfl) rfl (mv_p rfl rfl) ?_
    refine s_eff (e_call (w_none rfl) rfl rfl Tryd.func39 rfl rfl rfl (prgBad _ (H.get (f := RdYP 5 96 r3 A3 b.length c3 (· = b) (rest, 0)))) ?_)
    rintro _ W ⟨rfl, hb⟩
    replace H := H.below hb
    clear hb
    refine s_run (w_none rfl) rfl (d_not rfl rfl) ?_
    refine s_run (w_none rfl) rfl (mv_bx (c := true) rfl rfl (by simp)) ?_
    refine s_run (w_g rfl rfl rfl rfl) rfl (mv_s rfl rfl) ?_
    refine s_run (w_g rfl rfl rfl rfl) rfl (d_len rfl rfl tu23) ?_
    refine s_run (w_g rfl rfl rfl rfl) rfl (mv_p rfl rfl) ?_
    refine s_eff (e_call (w_g rfl rfl rfl rfl) rfl rfl Tryd.func35 rfl rfl rfl (prgLeft _ (H.get (f := RdYP 5 96 r3 A3 b.length c3 (· = b) (rest, 0)))) ?_)
    rintro _ W ⟨rfl, hb⟩
    replace H := H.below hb
    clear hb
    refine s_run (w_g rfl rfl rfl rfl) rfl (d_add rfl rfl rfl (by have h9 := congrArg List.length hb2; rw [List.length_append] at h9; dsimp only; omega)) ?_
    refine s_run (w_g rfl rfl rfl rfl) rfl (mv_s rfl rfl) ?_
    refine s_run (w_g rfl rfl rfl rfl) rfl (d_len rfl rfl tu23) ?_
    refine s_run (w_g rfl rfl rfl rfl) rfl (d_ne rfl rfl rfl) ?_
    refine s_run (w_none rfl) rfl (d_pickT rfl rfl rfl) ?_
    refine l_nil ?_
    refine k_condF rfl (by have := congrArg List.length hb2; rw [List.length_append] at this; simp; omega) ?_
    refine k_skip ?_
    refine k_seq ?_
    refine k_region ?_
    refine s_run (w_none rfl) rfl (mv_s rfl rfl) ?_
    refine s_run (w_none rfl) rfl (d_len rfl rfl tu23) ?_
    refine s_run (w_none rfl) rfl (mv_s rfl rfl) ?_
    refine s_run (w_none rfl) rfl (d_len rfl rfl tu23) ?_
    refine s_run (w_none rfl) rfl (d_le rfl rfl rfl) ?_
    refine s_run (w_none rfl) rfl (mv_bx (c := true) rfl rfl (by simp; omega)) ?_
    refine s_run (w_g rfl rfl rfl rfl) rfl (mv_s rfl rfl) ?_
    refine s_run (w_g rfl rfl rfl rfl) rfl (mv_s rfl rfl) ?_
    refine s_run (w_g rfl rfl rfl rfl) rfl (mv_s rfl rfl) ?_
    refine s_run (w_g rfl rfl rfl rfl) rfl (d_len rfl rfl tu23) ?_
    refine s_run (w_g rfl rfl rfl rfl) rfl (d_cutP rfl rfl (h := (Th.lay al).length) rfl (by omega) rfl tu23 ts5) ?_
    refine s_eff (e_call (w_g rfl rfl rfl rfl) rfl rfl Tryd.func22 rfl rfl rfl (sameBytes _ _ (Th.lay al) (b.take (Th.lay al).length) _ (H.rowbs (A := A4) rfl) ((H.bs hb0).pre (h := (Th.lay al).length) rfl hlb)) ?_)
    rw [decide_eq_true (by rw [hb2, List.take_left])]
    rintro _ W ⟨rfl, hb⟩
    replace H := H.below hb
    clear hb
    refine s_run (w_none rfl) rfl (d_pickT rfl rfl rfl) ?_
    refine s_run (w_none rfl) rfl (mv_bx (c := true) rfl rfl (rfl)) ?_
    refine s_eff (e_call (w_g rfl rfl rfl rfl) rfl rfl Tryd.func23 rfl rfl rfl (works03 _ (H.gat hG)) ?_)
    rintro _ W ⟨rfl, hb⟩
    replace H := H.below hb
    clear hb
    refine s_run (w_none rfl) rfl (d_pickT rfl rfl rfl) ?_
    refine s_run (w_none rfl) rfl (as_b rfl rfl) ?_
    refine l_nil ?_
    refine k_ret ?_
    repeat (first | refine r_then ?_ | refine r_blk ?_)
    exact q_ret (v := .bool _) rfl rfl ⟨_, rfl, rfl, H.under⟩
  · skip
    refine k_region ?_
    refine s_run (w_none rfl) rfl (mv_p rfl rfl) ?_
    refine s_eff (e_call (w_none rfl) rfl rfl Tryd.func39 rfl rfl rfl (prgBad _ (H.get (f := RdYP 5 96 r3 A3 b.length c3 (· = b) s'))) ?_)
    rintro _ W ⟨rfl, hb⟩
    replace H := H.below hb
    clear hb
    refine s_run (w_none rfl) rfl (d_not rfl rfl) ?_
    refine s_run (w_none rfl) rfl (mv_bx (c := false) rfl rfl (by simp [he])) ?_
    refine s_skip (w_gno rfl rfl rfl rfl rfl) rfl ?_
    refine s_skip (w_gno rfl rfl rfl rfl rfl) rfl ?_
    refine s_skip (w_gno rfl rfl rfl rfl rfl) rfl ?_
    refine s_skip (w_gno rfl rfl rfl rfl rfl) rfl ?_
    refine s_skip (w_gno rfl rfl rfl rfl rfl) rfl ?_
    refine s_skip (w_gno rfl rfl rfl rfl rfl) rfl ?_
    refine s_skip (w_gno rfl rfl rfl rfl rfl) rfl ?_
    refine s_skip (w_gno rfl rfl rfl rfl rfl) rfl ?_
    refine s_run (w_none rfl) rfl (d_pickF rfl rfl rfl) ?_
    refine l_nil ?_
    refine k_condF rfl rfl ?_
    refine k_skip ?_
    refine k_seq ?_
    refine k_region ?_
    refine s_run (w_none rfl) rfl (mv_s rfl rfl) ?_
    refine s_run (w_none rfl) rfl (d_len rfl rfl tu23) ?_
    refine s_run (w_none rfl) rfl (mv_s rfl rfl) ?_
    refine s_run (w_none rfl) rfl (d_len rfl rfl tu23) ?_
    refine s_run (w_none rfl) rfl (d_le rfl rfl rfl) ?_
    refine s_run (w_none rfl) rfl (mv_bx (c := true) rfl rfl (by simp; omega)) ?_
    refine s_run (w_g rfl rfl rfl rfl) rfl (mv_s rfl rfl) ?_
    refine s_run (w_g rfl rfl rfl rfl) rfl (mv_s rfl rfl) ?_
    refine s_run (w_g rfl rfl rfl rfl) rfl (mv_s rfl rfl) ?_
    refine s_run (w_g rfl rfl rfl rfl) rfl (d_len rfl rfl tu23) ?_
    refine s_run (w_g rfl rfl rfl rfl) rfl (d_cutP rfl rfl (h := (Th.lay al).length) rfl (by omega) rfl tu23 ts5) ?_
    refine s_eff (e_call (w_g rfl rfl rfl rfl) rfl rfl Tryd.func22 rfl rfl rfl (sameBytes _ _ (Th.lay al) (b.take (Th.lay al).length) _ (H.rowbs (A := A4) rfl) ((H.bs hb0).pre (h := (Th.lay al).length) rfl hlb)) ?_)
    rw [decide_eq_true (by rw [hb2, List.take_left])]
    rintro _ W ⟨rfl, hb⟩
    replace H := H.below hb
    clear hb
    refine s_run (w_none rfl) rfl (d_pickT rfl rfl rfl) ?_
    refine s_run (w_none rfl) rfl (mv_bx (c := true) rfl rfl (rfl)) ?_
    refine s_eff (e_call (w_g rfl rfl rfl rfl) rfl rfl Tryd.func23 rfl rfl rfl (works03 _ (H.gat hG)) ?_)
    rintro _ W ⟨rfl, hb⟩
    replace H := H.below hb
    clear hb
    refine s_run (w_none rfl) rfl (d_pickT rfl rfl rfl) ?_
    refine s_run (w_none rfl) rfl (as_b rfl rfl) ?_
    refine l_nil ?_
    refine k_ret ?_
    repeat (first | refine r_then ?_ | refine r_blk ?_)
    exact q_ret (v := .bool _) rfl rfl ⟨_, rfl, rfl, H.under⟩

theorem packFormA {S : Nat → Prop} {v u : Value} {b : List UInt8} (w : World) (hG : Gat w 0 formsC) (hb : Bs w S v b) (hlo : 4096 < b.length) : Calls Tryd.prog 8 [v, u].toArray w (Ret (Is w (.bool true))) := by
  obtain ⟨A, c, rfl, _, _, _⟩ := hb.op
  refine k_enter (l := [_, _]) Tryd.func8 rfl rfl ?_
  have H := St.start nT w
  refine k_seq ?_
  refine k_region ?_
  refine s_run (w_none rfl) rfl (as_b rfl rfl) ?_
  refine l_nil ?_
  refine k_seq ?_
  refine k_seq ?_
  refine k_region ?_
  refine s_run (w_none rfl) rfl (mv_s rfl rfl) ?_
  refine s_run (w_none rfl) rfl (d_len rfl rfl tu23) ?_
  refine s_run (w_none rfl) rfl (d_gt rfl rfl rfl) ?_
  refine l_nil ?_
  refine k_condT rfl (by simp; omega) ?_
  refine k_seq ?_
  refine k_region ?_
  refine s_eff (e_call (w_none rfl) rfl rfl Tryd.func23 rfl rfl rfl (works03 _ (H.gat hG)) ?_)
  rintro _ W ⟨rfl, hb⟩
  replace H := H.below hb
  clear hb
  refine s_run (w_none rfl) rfl (as_b rfl rfl) ?_
  refine l_nil ?_
  refine k_ret ?_
  repeat (first | refine r_then ?_ | refine r_blk ?_)
  exact q_ret (v := .bool _) rfl rfl ⟨_, rfl, rfl, H.under⟩
end Go.Proofs.YtejaohlijaodjaaDoor

namespace Go.Proofs.YtejaohlijaodjaaDoor
open Go Go.RowKit Go.WideShapes Go.ChangeShapes Go.Deep

/-- Pairs of numbers, as they lie. -/
theorem rd_pairs {W : World} {S : Nat → Prop} {g o len : Nat} {V0 V1 : Nat → Int} (hg : 0 < len → g < W.heap.size ∧ S g) (h : ∀ i, i < len → W.cell? ⟨g, o + i * 2, none⟩ = some (.int .i64 (V0 i)) ∧ W.cell? ⟨g, o + (i * 2 + 1), none⟩ = some (.int .i64 (V1 i))) :
    Rd W S 2 (some ⟨g, o, none⟩) len (askC ((List.range len).map fun i => (V0 i, V1 i))) := by
  refine ⟨by rw [len_ask]; simp, fun hn => ⟨g, o, rfl, hg hn, fun j u hu => ?_⟩⟩
  have key : ∀ (l : List (Int × Int)) (j : Nat) (u : Value), (askC l)[j]? = some u → j / 2 < l.length ∧ u = if j % 2 = 0 then .int .i64 (l.getD (j / 2) (0, 0)).1 else .int .i64 (l.getD (j / 2) (0, 0)).2 := by
    intro l
    induction l with
    | nil => intro j u h; simp [askC] at h
    | cons x l ih =>
      intro j u h
      match j with
      | 0 => simp [askC] at h; exact ⟨by simp, by simp [h]⟩
      | 1 => simp [askC] at h; exact ⟨by simp, by simp [h]⟩
      | j + 2 =>
        rw [askC, List.getElem?_cons_succ, List.getElem?_cons_succ] at h
        obtain ⟨h1, h2⟩ := ih j u h
        rw [show (j + 2) / 2 = j / 2 + 1 by omega, show (j + 2) % 2 = j % 2 by omega]
        exact ⟨by simpa using h1, by simpa using h2⟩
  obtain ⟨h1, h2⟩ := key _ _ _ hu
  have hi : j / 2 < len := by simpa using h1
  have hc := h (j / 2) hi
  have e : (((List.range len).map fun i => (V0 i, V1 i)).getD (j / 2) (0, 0)) = (V0 (j / 2), V1 (j / 2)) := by
    rw [List.getD_eq_getElem?_getD, List.getElem?_map, List.getElem?_range hi]; rfl
  rw [e] at h2
  rcases Nat.mod_two_eq_zero_or_one j with hj | hj
  · rw [h2, if_pos hj, ← hc.1, show o + j = o + j / 2 * 2 by omega]
  · rw [h2, if_neg (by omega), ← hc.2, show o + j = o + (j / 2 * 2 + 1) by omega]
def intV : Value → Int
  | .int _ n => n
  | _ => 0
theorem open_ask {H : Type} {enc : TypeId × Value → H} {W : World} {sp : Nat → Bool} {hd : Bool} {fuel : Nat} {v : Value} {x : DataW H × List MemPlace} (h : DataW.trod enc Tryd.prog W 0 sp hd fuel 48 [v] = some x) :
    ∃ (AL : Option Addr) (m cL : Nat) (l : List (Int × Int)), v = .slice AL m cL ∧ Rd W (fun _ => True) 2 AL m (askC l) := by
  rcases open_slice_pairs Tryd.underlying48 Tryd.underlying53 (by kernel_rfl) rfl rfl (by kernel_rfl) (by kernel_rfl) h with ⟨hcs, _⟩ | ⟨a, len, cap, m, n, V0, V1, D0, D1, P0, P1, hcs, _, hl, hm, hmm, _, hx⟩
  · obtain rfl : v = .slice none 0 0 := by simpa using hcs
    exact ⟨none, 0, 0, [], rfl, rfl, fun h => absurd h (by decide)⟩
  · obtain rfl : v = .slice (some a) len cap := by simpa using hcs
    have hlm : len ≤ m := by rw [hmm]; split <;> omega
    have hi : ∀ i, i < len → W.cell? (a.add (i * 2)) = some (.int .i64 (intV (V0 i))) ∧ W.cell? (a.add (i * 2 + 1)) = some (.int .i64 (intV (V1 i))) := fun i hi => by
      obtain ⟨h1, h2, h3, h4⟩ := hx i (by omega)
      obtain ⟨z0, e0, _, _⟩ := DataW.trod_int Tryd.underlying3 h3
      obtain ⟨z1, e1, _, _⟩ := DataW.trod_int Tryd.underlying3 h4
      have e0' : V0 i = .int .i64 z0 := by simpa using e0
      have e1' : V1 i = .int .i64 z1 := by simpa using e1
      rw [h1, h2, e0', e1']
      exact ⟨rfl, rfl⟩
    rcases Nat.eq_zero_or_pos len with h0 | h0
    · subst h0
      exact ⟨some a, 0, cap, [], rfl, rfl, fun h => absurd h (by decide)⟩
    · obtain ⟨g, o, s⟩ := a
      have hc0 := (hi 0 h0).1
      have hs : s = none := by
        cases s with
        | none => rfl
        | some k => simp [Addr.add, World.cell?] at hc0; split at hc0 <;> simp at hc0
      subst hs
      refine ⟨_, len, cap, _, rfl, rd_pairs (V0 := fun i => intV (V0 i)) (V1 := fun i => intV (V1 i)) (fun _ => ⟨?_, trivial⟩) (fun i hi' => ?_)⟩
      · have := block_lt_of_cell hc0
        simpa [Addr.add] using this
      · have h1 := hi i hi'
        rw [Addr.add_mid, Addr.add_mid] at h1
        exact h1
end Go.Proofs.YtejaohlijaodjaaDoor

namespace Go.Proofs.YtejaohlijaodjaaDoor
open Go Go.RowKit Go.WideShapes Go.ChangeShapes

theorem cells_u8 : Tryd.prog.cellsOf 5 = 1 := by kernel_rfl

/-- A []byte that came in. -/
theorem open_b {H : Type} {enc : TypeId × Value → H} {W : World} {sp : Nat → Bool} {hd : Bool} {fuel : Nat} {v : Value} {x : DataW H × List MemPlace} (h : DataW.trod enc Tryd.prog W 0 sp hd fuel 23 [v] = some x) :
    ∃ l : List UInt8, Bs W (fun _ => True) v l := by
  rcases open_ints Tryd.underlying23 Tryd.underlying5 cells_u8 h with ⟨hcs, _⟩ | ⟨a, len, cap, zs, hcs, _, hl, hm, hz, _, hcell, hwz⟩
  · obtain rfl : v = .slice none 0 0 := by simpa using hcs
    exact ⟨[], Bs.nil⟩
  · obtain rfl : v = .slice (some a) len cap := by simpa using hcs
    have hlen : len ≤ zs.length := by rw [hz]; split <;> omega
    have hby : ∀ z ∈ zs, ((UInt8.ofNat z.toNat).toNat : Int) = z := fun z hz => by
      have := hwz z hz
      have h1 : IntKind.u8.min ≤ z ∧ z ≤ IntKind.u8.max := by simpa [Lit.wf] using this
      have h2 : IntKind.u8.min = 0 := by decide
      have h3 : IntKind.u8.max = 255 := by decide
      rw [h2, h3] at h1
      simp
      omega
    refine ⟨(zs.take len).map fun z => UInt8.ofNat z.toNat, some a, cap, by simp; omega, by simp; omega, hm, by simp, fun hn => ?_⟩
    have hn' : 0 < len := by simp at hn; omega
    obtain ⟨g, o, s⟩ := a
    have h0 := hcell 0 (by omega)
    have hs : s = none := by
      cases s with
      | none => rfl
      | some k => simp [Addr.add, World.cell?] at h0; split at h0 <;> simp at h0
    subst hs
    refine ⟨g, o, rfl, ⟨by have := block_lt_of_cell h0; simpa [Addr.add] using this, trivial⟩, fun j u hu => ?_⟩
    have hj : j < len := by
      have := (List.getElem?_eq_some_iff.1 hu).1
      simp at this
      omega
    have hc := hcell j (by omega)
    have hadd : (⟨g, o, none⟩ : Addr).add j = ⟨g, o + j, none⟩ := by unfold Addr.add; split <;> simp_all
    rw [hadd] at hc
    rw [hc]
    have hjz : j < zs.length := by omega
    have hb := hby zs[j] (List.getElem_mem _)
    have hu2 : u = .int .u8 (((UInt8.ofNat zs[j].toNat).toNat : Nat) : Int) := by
      rw [List.getElem?_map, List.getElem?_map, List.getElem?_take_of_lt hj, List.getElem?_eq_getElem hjz] at hu
      exact (Option.some.inj hu).symm
    rw [hu2, hb, List.getD_eq_getElem?_getD, List.getElem?_eq_getElem hjz]
    rfl
end Go.Proofs.YtejaohlijaodjaaDoor

namespace Go.Proofs.YtejaohlijaodjaaDoor
open Go Go.RowKit

theorem rb_bs {W : World} {S : Nat → Prop} {v : Value} {b : List UInt8} (h : RB W S [v] b) : Bs W S v b := by
  obtain ⟨v', hv, hb⟩ := h
  cases hv
  exact hb
theorem ri_int {W : World} {S : Nat → Prop} {n x : Int} (h : RI W S [.int .i64 n] x) : n = x ∧ -9223372036854775808 ≤ x ∧ x ≤ 9223372036854775807 := by
  obtain ⟨h1, h2⟩ := h
  cases h1
  exact ⟨rfl, h2⟩
theorem packLays_any {S S' : Nat → Prop} {v : Value} {b : List UInt8} {cs : List Value} {x : DThing} (w : World) (hG : Gat w 0 formsC) (h0 : RB w S [v] b) (h1 : RThing w S' cs x) :
    Calls Tryd.prog 4 #[v, .agg cs.toArray] w (fun e w' => e = .returned (.bool true) ∧ Below w.heap.size w w') := by
  have hb := rb_bs h0
  obtain ⟨c0, c1, c2, c3, c4, rfl, ⟨rfl, _⟩, ⟨rfl, hn⟩, ⟨bv, rfl, hB⟩, ⟨rfl, hh⟩, ⟨rfl, ht⟩⟩ := h1
  obtain ⟨B, d, rfl, _⟩ := hB.op
  rcases Nat.lt_or_ge 4096 b.length with h | h
  · exact of_is (packLaysA w hG hb hB hh ht hn (.inl h))
  rcases Nat.lt_or_ge 4096 x.b.length with h2 | h2
  · exact of_is (packLaysA w hG hb hB hh ht hn (.inr h2))
  · exact of_is (packLaysB w hG hb hB hh ht hn ⟨h, h2⟩)
theorem packForms_any {S : Nat → Prop} {n x : Int} (w : World) (hG : Gat w 0 formsC) (h0 : RI w S [.int .i64 n] x) :
    Calls Tryd.prog 3 #[.int .i64 n] w (fun e w' => e = .returned (.bool true) ∧ Below w.heap.size w w') := by
  obtain ⟨rfl, hn⟩ := ri_int h0
  exact of_is (packForms n w hG hn)
end Go.Proofs.YtejaohlijaodjaaDoor

namespace Go.Proofs.YtejaohlijaodjaaDoor
open Go Go.RowKit

/-- What is asked, element by element, as it lies. -/
theorem rl_ask {W : World} {S : Nat → Prop} {v : Value} {l : List DAsked} (h : RL 2 RAsked W S [v] l) : ∃ A c, v = .slice A l.length c ∧ Rd W S 2 A l.length (askC (l.map fun x => (x.kind, x.most))) := by
  obtain ⟨A, c, xs, hv, hlc, _, hr, hel⟩ := h
  have hlx := hr.1
  refine ⟨A, c, by cases hv; rfl, ?_⟩
  suffices e : xs = askC (l.map fun x => (x.kind, x.most)) by rw [← e]; exact hr
  clear hv hr hlc
  induction l generalizing xs with
  | nil => exact List.eq_nil_of_length_eq_zero (by simpa using hlx)
  | cons x l ih =>
    have h0 := hel 0 x rfl
    obtain ⟨c0, c1, e0, ⟨e1, _⟩, ⟨e2, _⟩⟩ := h0
    subst e1 e2
    have hlen : xs.length = l.length * 2 + 2 := by rw [hlx, List.length_cons, Nat.add_mul]
    match xs, hlen, hel, e0 with
    | a :: b :: xs, hlen, hel, e0 =>
      have e0' : [a, b] = [.int .i64 x.kind, .int .i64 x.most] := by simpa [sub] using e0
      cases e0'
      rw [List.map_cons, askC]
      have ih' := ih xs (fun i y hy => by
        have := hel (i + 1) y (by simpa using hy)
        rw [Nat.add_mul] at this
        exact this) (by simp at hlen; omega)
      rw [ih']
theorem packForm_any {S S' : Nat → Prop} {v u : Value} {b : List UInt8} {l : List DAsked} (w : World) (hG : Gat w 0 formsC) (h0 : RB w S [v] b) (h1 : RL 2 RAsked w S' [u] l) :
    Calls Tryd.prog 8 #[v, u] w (fun e w' => e = .returned (.bool true) ∧ Below w.heap.size w w') := by
  obtain ⟨A, c, rfl, hr⟩ := rl_ask h1
  rcases Nat.lt_or_ge 4096 b.length with h | h
  · exact of_is (packFormA w hG (rb_bs h0) h)
  · exact of_is (packForm w hG (rb_bs h0) hr h)
end Go.Proofs.YtejaohlijaodjaaDoor
