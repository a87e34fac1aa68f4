/- The program reads: chapter 3. -/
import Derived.Test.YtejaohlijaodjaaDoorK5
namespace Go.Proofs.YtejaohlijaodjaaDoor
open Go Go.RowKit
attribute [local irreducible] wpList

theorem cntA {A0 : Option Addr} {n0 c0 r : Nat} {Y : List UInt8 → Prop} {v : Value} {b : List UInt8} {s : RS} (w : World) {m : Int} (hR : (RdYB 5 96 r A0 n0 c0 Y v b s).p w) (hG : Gat w 0 formsC) (hT : ¬ RdT r A0 n0 c0 0) (he : s.2 = 0) (hn : (Pk.rInt s).2.2 ≠ 0) : Calls Tryd.prog 86 [.pointer (some ⟨r, 0, none⟩), .int .i64 m].toArray w (Pan (why (Pk.rInt s).2.2) (fun w' => (∃ s', (RdYP 5 96 r A0 n0 c0 Y s').p w') ∧ Fr (RdT r A0 n0 c0) w w')) := by
  refine k_enter (l := [_, _]) Tryd.func86 rfl rfl ?_
  have H := St.begin (f := RdYB 5 96 r A0 n0 c0 Y v b s) hR (RdB.lt hR)
  refine k_seq ?_
  refine k_region ?_
  refine s_run (w_none rfl) rfl (as_i rfl rfl) ?_
  refine l_nil ?_
  refine k_seq ?_
  refine k_region ?_
  refine s_run (w_none rfl) rfl (mv_p rfl rfl) ?_
  refine s_eff (e_callP (w_none rfl) rfl Tryd.func72 rfl rfl rfl ((number _ (H.get (f := RdYB 5 96 r A0 n0 c0 Y v b s)) (H.gatT hG hT) hT he).2 hn).2 ?_)
  rintro W ⟨⟨s', hp⟩, hf⟩
  replace H := H.mut (f := RdYB 5 96 r A0 n0 c0 Y v b s) (f' := RdYP 5 96 r A0 n0 c0 Y s') hf hp (fun _ h => h)
  exact ⟨rfl, rfl, ⟨_, H.get (f := RdYP 5 96 r A0 n0 c0 Y s')⟩, H.fr⟩

theorem cntB {A0 : Option Addr} {n0 c0 r : Nat} {Y : List UInt8 → Prop} {v : Value} {b : List UInt8} {s : RS} (w : World) {m : Int} (hR : (RdYB 5 96 r A0 n0 c0 Y v b s).p w) (hG : Gat w 0 formsC) (hT : ¬ RdT r A0 n0 c0 0) (he : s.2 = 0) (hn : (Pk.rInt s).2.2 = 0) (hm : m < ((Pk.rInt s).1 : Int)) : Calls Tryd.prog 86 [.pointer (some ⟨r, 0, none⟩), .int .i64 m].toArray w (Pan (why 3) (fun w' => (∃ s', (RdYP 5 96 r A0 n0 c0 Y s').p w') ∧ Fr (RdT r A0 n0 c0) w w')) := by
  refine k_enter (l := [_, _]) Tryd.func86 rfl rfl ?_
  have H := St.begin (f := RdYB 5 96 r A0 n0 c0 Y v b s) hR (RdB.lt hR)
  refine k_seq ?_
  refine k_region ?_
  refine s_run (w_none rfl) rfl (as_i rfl rfl) ?_
  refine l_nil ?_
  refine k_seq ?_
  refine k_region ?_
  refine s_run (w_none rfl) rfl (mv_p rfl rfl) ?_
  refine s_eff (e_call (w_none rfl) rfl rfl Tryd.func72 rfl rfl rfl ((number _ (H.get (f := RdYB 5 96 r A0 n0 c0 Y v b s)) (H.gatT hG hT) hT he).1 hn) ?_)
  rintro _ W ⟨rfl, hp, hf⟩
  replace H := H.mut (f := RdYB 5 96 r A0 n0 c0 Y v b s) (f' := RdYP 5 96 r A0 n0 c0 Y (Pk.rInt s).2) hf hp (fun _ h => h)
  clear hp hf
  refine s_run (w_none rfl) rfl (as_i rfl rfl) ?_
  refine l_nil ?_
  refine k_seq ?_
  refine k_region ?_
  refine s_run (w_none rfl) rfl (mv_i rfl rfl) ?_
  refine s_run (w_none rfl) rfl (mv_i rfl rfl) ?_
  refine s_run (w_none rfl) rfl (d_le rfl rfl rfl) ?_
  refine s_eff (e_callP (w_none rfl) rfl Tryd.func99 rfl rfl rfl (mustBad _ _ (by simp; omega)) ?_)
  intro W hb
  replace H := H.below hb
  exact ⟨rfl, rfl, ⟨_, H.get (f := RdYP 5 96 r A0 n0 c0 Y (Pk.rInt s).2)⟩, H.fr⟩

theorem cntC {A0 : Option Addr} {n0 c0 r : Nat} {Y : List UInt8 → Prop} {v : Value} {b : List UInt8} {s : RS} (w : World) {m : Int} (hR : (RdYB 5 96 r A0 n0 c0 Y v b s).p w) (hG : Gat w 0 formsC) (hT : ¬ RdT r A0 n0 c0 0) (he : s.2 = 0) (hn : (Pk.rInt s).2.2 = 0) (hm : ¬ m < ((Pk.rInt s).1 : Int)) : Calls Tryd.prog 86 [.pointer (some ⟨r, 0, none⟩), .int .i64 m].toArray w (Ret (fun v' w' => v' = .int .i64 ((Pk.rInt s).1 : Int) ∧ (RdYP 5 96 r A0 n0 c0 Y (Pk.rInt s).2).p w' ∧ Fr (RdT r A0 n0 c0) w w')) := by
  refine k_enter (l := [_, _]) Tryd.func86 rfl rfl ?_
  have H := St.begin (f := RdYB 5 96 r A0 n0 c0 Y v b s) hR (RdB.lt hR)
  refine k_seq ?_
  refine k_region ?_
  refine s_run (w_none rfl) rfl (as_i rfl rfl) ?_
  refine l_nil ?_
  refine k_seq ?_
  refine k_region ?_
  refine s_run (w_none rfl) rfl (mv_p rfl rfl) ?_
  refine s_eff (e_call (w_none rfl) rfl rfl Tryd.func72 rfl rfl rfl ((number _ (H.get (f := RdYB 5 96 r A0 n0 c0 Y v b s)) (H.gatT hG hT) hT he).1 hn) ?_)
  rintro _ W ⟨rfl, hp, hf⟩
  replace H := H.mut (f := RdYB 5 96 r A0 n0 c0 Y v b s) (f' := RdYP 5 96 r A0 n0 c0 Y (Pk.rInt s).2) hf hp (fun _ h => h)
  clear hp hf
  refine s_run (w_none rfl) rfl (as_i rfl rfl) ?_
  refine l_nil ?_
  refine k_seq ?_
  refine k_region ?_
  refine s_run (w_none rfl) rfl (mv_i rfl rfl) ?_
  refine s_run (w_none rfl) rfl (mv_i rfl rfl) ?_
  refine s_run (w_none rfl) rfl (d_le rfl rfl rfl) ?_
  refine s_eff (e_call (w_none rfl) rfl rfl Tryd.func99 rfl rfl rfl (mustOk _ _ (by simp; omega)) ?_)
  rintro _ W ⟨rfl, hb⟩
  replace H := H.below hb
  clear hb
  refine l_nil ?_
  refine k_seq ?_
  refine k_region ?_
  refine s_run (w_none rfl) rfl (mv_i rfl rfl) ?_
  refine s_run (w_none rfl) rfl (as_i rfl rfl) ?_
  refine l_nil ?_
  refine k_ret ?_
  repeat (first | refine r_then ?_ | refine r_blk ?_)
  exact q_ret (v := .int _ _) rfl rfl ⟨_, rfl, rfl, H.get (f := RdYP 5 96 r A0 n0 c0 Y (Pk.rInt s).2), H.fr⟩

theorem count {A0 : Option Addr} {n0 c0 r : Nat} {Y : List UInt8 → Prop} {v : Value} {b : List UInt8} {s : RS} (w : World) {m : Int} (hR : (RdYB 5 96 r A0 n0 c0 Y v b s).p w) (hG : Gat w 0 formsC) (hT : ¬ RdT r A0 n0 c0 0) (he : s.2 = 0) : (((Pk.rCount m s).2.2 = 0 → Calls Tryd.prog 86 [.pointer (some ⟨r, 0, none⟩), .int .i64 m].toArray w (Ret (fun v' w' => v' = .int .i64 ((Pk.rCount m s).1 : Int) ∧ (RdYP 5 96 r A0 n0 c0 Y (Pk.rCount m s).2).p w' ∧ Fr (RdT r A0 n0 c0) w w'))) ∧
    ((Pk.rCount m s).2.2 ≠ 0 → (Pk.rCount m s) = (0, ([], (Pk.rCount m s).2.2)) ∧ Calls Tryd.prog 86 [.pointer (some ⟨r, 0, none⟩), .int .i64 m].toArray w (Pan (why (Pk.rCount m s).2.2) (fun w' => (∃ s', (RdYP 5 96 r A0 n0 c0 Y s').p w') ∧ Fr (RdT r A0 n0 c0) w w')))) := by
  by_cases hn : (Pk.rInt s).2.2 = 0
  · by_cases hm : m < ((Pk.rInt s).1 : Int)
    · have e : Pk.rCount m s = (0, ([], 3)) := by unfold Pk.rCount; rw [if_pos ⟨hn, hm⟩]
      rw [e]
      exact ⟨fun h => absurd h (by decide), fun _ => ⟨rfl, cntB w hR hG hT he hn hm⟩⟩
    · have e : Pk.rCount m s = Pk.rInt s := by unfold Pk.rCount; rw [if_neg (fun h => hm h.2)]
      rw [e]
      exact ⟨fun _ => cntC w hR hG hT he hn hm, fun h => absurd hn h⟩
  · have e : Pk.rCount m s = Pk.rInt s := by unfold Pk.rCount; rw [if_neg (fun h => hn h.1)]
    rw [e]
    exact ⟨fun h => absurd h hn, fun _ => ⟨((number w hR hG hT he).2 hn).1, cntA w hR hG hT he hn⟩⟩

theorem oneCount {A0 : Option Addr} {n0 c0 r : Nat} {Y : List UInt8 → Prop} {v : Value} {b : List UInt8} {s : RS} (w : World) {gb gm : Nat} {m : Int} (hR : (RdYB 5 96 r A0 n0 c0 Y v b s).p w) (hG : Gat w 0 formsC) (hT : ¬ RdT r A0 n0 c0 0) (he : s.2 = 0) (hgb : Gat w gb [.pointer (some ⟨r, 0, none⟩)]) (hTb : ¬ RdT r A0 n0 c0 gb) (hgm : Gat w gm [.int .i64 m]) (hTm : ¬ RdT r A0 n0 c0 gm) (hn : (Pk.rCount m s).2.2 = 0) : Calls Tryd.prog 85 [.pointer (some ⟨gb, 0, none⟩), .pointer (some ⟨gm, 0, none⟩)].toArray w (Ret (fun v' w' => v' = .int .i64 ((Pk.rCount m s).1 : Int) ∧ (RdYP 5 96 r A0 n0 c0 Y (Pk.rCount m s).2).p w' ∧ Fr (RdT r A0 n0 c0) w w')) := by
  refine k_enter (l := [_, _]) Tryd.func85 rfl rfl ?_
  have H := St.begin (f := RdYB 5 96 r A0 n0 c0 Y v b s) hR (RdB.lt hR)
  refine k_seq ?_
  refine k_region ?_
  refine s_run (w_none rfl) rfl (as_i rfl rfl) ?_
  refine l_nil ?_
  refine k_seq ?_
  refine k_region ?_
  refine s_run (w_none rfl) rfl (d_ldG rfl ((H.gatT hgb hTb)) rfl ta27 rfl) ?_
  refine s_run (w_none rfl) rfl (d_ldG rfl ((H.gatT hgm hTm)) rfl ta3 rfl) ?_
  refine s_eff (e_call (w_none rfl) rfl rfl Tryd.func86 rfl rfl rfl ((count _ (H.get (f := RdYB 5 96 r A0 n0 c0 Y v b s)) (H.gatT hG hT) hT he).1 hn) ?_)
  rintro _ W ⟨rfl, hp, hf⟩
  replace H := H.mut (f := RdYB 5 96 r A0 n0 c0 Y v b s) (f' := RdYP 5 96 r A0 n0 c0 Y (Pk.rCount m s).2) hf hp (fun _ h => h)
  clear hp hf
  refine s_run (w_none rfl) rfl (as_i rfl rfl) ?_
  refine l_nil ?_
  refine k_ret ?_
  repeat (first | refine r_then ?_ | refine r_blk ?_)
  exact q_ret (v := .int _ _) rfl rfl ⟨_, rfl, rfl, H.get (f := RdYP 5 96 r A0 n0 c0 Y (Pk.rCount m s).2), H.fr⟩

theorem oneCountP {A0 : Option Addr} {n0 c0 r : Nat} {Y : List UInt8 → Prop} {v : Value} {b : List UInt8} {s : RS} (w : World) {gb gm : Nat} {m : Int} (hR : (RdYB 5 96 r A0 n0 c0 Y v b s).p w) (hG : Gat w 0 formsC) (hT : ¬ RdT r A0 n0 c0 0) (he : s.2 = 0) (hgb : Gat w gb [.pointer (some ⟨r, 0, none⟩)]) (hTb : ¬ RdT r A0 n0 c0 gb) (hgm : Gat w gm [.int .i64 m]) (hTm : ¬ RdT r A0 n0 c0 gm) (hn : (Pk.rCount m s).2.2 ≠ 0) : Calls Tryd.prog 85 [.pointer (some ⟨gb, 0, none⟩), .pointer (some ⟨gm, 0, none⟩)].toArray w (Pan (why (Pk.rCount m s).2.2) (fun w' => (∃ s', (RdYP 5 96 r A0 n0 c0 Y s').p w') ∧ Fr (RdT r A0 n0 c0) w w')) := by
  refine k_enter (l := [_, _]) Tryd.func85 rfl rfl ?_
  have H := St.begin (f := RdYB 5 96 r A0 n0 c0 Y v b s) hR (RdB.lt hR)
  refine k_seq ?_
  refine k_region ?_
  refine s_run (w_none rfl) rfl (as_i rfl rfl) ?_
  refine l_nil ?_
  refine k_seq ?_
  refine k_region ?_
  refine s_run (w_none rfl) rfl (d_ldG rfl ((H.gatT hgb hTb)) rfl ta27 rfl) ?_
  refine s_run (w_none rfl) rfl (d_ldG rfl ((H.gatT hgm hTm)) rfl ta3 rfl) ?_
  refine s_eff (e_callP (w_none rfl) rfl Tryd.func86 rfl rfl rfl ((count _ (H.get (f := RdYB 5 96 r A0 n0 c0 Y v b s)) (H.gatT hG hT) hT he).2 hn).2 ?_)
  rintro W ⟨⟨s', hp⟩, hf⟩
  replace H := H.mut (f := RdYB 5 96 r A0 n0 c0 Y v b s) (f' := RdYP 5 96 r A0 n0 c0 Y s') hf hp (fun _ h => h)
  exact ⟨rfl, rfl, ⟨_, H.get (f := RdYP 5 96 r A0 n0 c0 Y s')⟩, H.fr⟩

theorem oneBlobP {A0 : Option Addr} {n0 c0 r : Nat} {Y : List UInt8 → Prop} {v : Value} {b : List UInt8} {s : RS} (w : World) {gb gm : Nat} {m : Int} (hR : (RdYB 5 96 r A0 n0 c0 Y v b s).p w) (hG : Gat w 0 formsC) (hT : ¬ RdT r A0 n0 c0 0) (he : s.2 = 0) (hgb : Gat w gb [.pointer (some ⟨r, 0, none⟩)]) (hTb : ¬ RdT r A0 n0 c0 gb) (hgm : Gat w gm [.int .i64 m]) (hTm : ¬ RdT r A0 n0 c0 gm) (hn : (Pk.rCount m s).2.2 ≠ 0) : Calls Tryd.prog 88 [.pointer (some ⟨gb, 0, none⟩), .pointer (some ⟨gm, 0, none⟩)].toArray w (Pan (why (Pk.rCount m s).2.2) (fun w' => (∃ s', (RdYP 5 96 r A0 n0 c0 Y s').p w') ∧ Fr (RdT r A0 n0 c0) w w')) := by
  refine k_enter (l := [_, _]) Tryd.func88 rfl rfl ?_
  have H := St.begin (f := RdYB 5 96 r A0 n0 c0 Y v b s) hR (RdB.lt hR)
  refine k_seq ?_
  refine k_region ?_
  refine s_run (w_none rfl) rfl (as_s rfl rfl) ?_
  refine l_nil ?_
  refine k_seq ?_
  refine k_drawP 0 [(0, true), (1, true), (2, true), (3, false), (4, false), (5, true)] [] (by kernel_rfl) (by kernel_rfl) (by kernel_rfl) H (List.nil_sublist _) ?_
  clear H; intro W H
  refine c_run rfl (w_none rfl) rfl (fun W H => d_ldG rfl ((H.gatT hgb hTb)) rfl ta27 rfl) ?_
  refine c_run rfl (w_none rfl) rfl (fun W H => d_ldG rfl ((H.gatT hgb hTb)) rfl ta27 rfl) ?_
  refine c_run rfl (w_none rfl) rfl (fun W H => d_ldG rfl ((H.gatT hgm hTm)) rfl ta3 rfl) ?_
  refine c_eff rfl (e_callP (w_none rfl) rfl Tryd.func86 rfl rfl rfl ((count _ (H.get (f := RdYB 5 96 r A0 n0 c0 Y v b s)) (H.gatT hG hT) hT he).2 hn).2 ?_)
  rintro W ⟨⟨s', hp⟩, hf⟩
  replace H := H.mut (f := RdYB 5 96 r A0 n0 c0 Y v b s) (f' := RdYP 5 96 r A0 n0 c0 Y s') hf hp (fun _ h => h)
  exact p_lo (fun a hd _ => ⟨hd, rfl, ⟨_, H.get (f := RdYP 5 96 r A0 n0 c0 Y s')⟩, H.fr⟩)

theorem oneBlobQ {A0 : Option Addr} {n0 c0 r : Nat} {Y : List UInt8 → Prop} {v : Value} {b : List UInt8} {s : RS} (w : World) {gb gm : Nat} {m : Int} (hR : (RdYB 5 96 r A0 n0 c0 Y v b s).p w) (hG : Gat w 0 formsC) (hT : ¬ RdT r A0 n0 c0 0) (he : s.2 = 0) (hgb : Gat w gb [.pointer (some ⟨r, 0, none⟩)]) (hTb : ¬ RdT r A0 n0 c0 gb) (hgm : Gat w gm [.int .i64 m]) (hTm : ¬ RdT r A0 n0 c0 gm) (hn : (Pk.rCount m s).2.2 = 0) (hb : (Pk.rBlob m s).2.2 ≠ 0) : Calls Tryd.prog 88 [.pointer (some ⟨gb, 0, none⟩), .pointer (some ⟨gm, 0, none⟩)].toArray w (Pan (why 4) (fun w' => (∃ s', (RdYP 5 96 r A0 n0 c0 Y s').p w') ∧ Fr (RdT r A0 n0 c0) w w')) := by
  refine k_enter (l := [_, _]) Tryd.func88 rfl rfl ?_
  have H := St.begin (f := RdYB 5 96 r A0 n0 c0 Y v b s) hR (RdB.lt hR)
  refine k_seq ?_
  refine k_region ?_
  refine s_run (w_none rfl) rfl (as_s rfl rfl) ?_
  refine l_nil ?_
  refine k_seq ?_
  refine k_drawP 0 [(0, true), (1, true), (2, true), (3, false), (4, false), (5, true)] [] (by kernel_rfl) (by kernel_rfl) (by kernel_rfl) H (List.nil_sublist _) ?_
  clear H; intro W H
  refine c_run rfl (w_none rfl) rfl (fun W H => d_ldG rfl ((H.gatT hgb hTb)) rfl ta27 rfl) ?_
  refine c_run rfl (w_none rfl) rfl (fun W H => d_ldG rfl ((H.gatT hgb hTb)) rfl ta27 rfl) ?_
  refine c_run rfl (w_none rfl) rfl (fun W H => d_ldG rfl ((H.gatT hgm hTm)) rfl ta3 rfl) ?_
  refine c_eff rfl (e_call (w_none rfl) rfl rfl Tryd.func86 rfl rfl rfl ((count _ (H.get (f := RdYB 5 96 r A0 n0 c0 Y v b s)) (H.gatT hG hT) hT he).1 hn) ?_)
  rintro _ W ⟨rfl, hp, hf⟩
  replace H := H.mut (f := RdYB 5 96 r A0 n0 c0 Y v b s) (f' := RdYP 5 96 r A0 n0 c0 Y (Pk.rCount m s).2) hf hp (fun _ h => h)
  clear hp hf
  refine ⟨H.sub (by repeat (first | exact List.Sublist.refl _ | refine List.Sublist.cons_cons _ ?_ | refine List.Sublist.cons _ ?_)), ?_⟩
  refine c_eff rfl (e_callP (w_none rfl) rfl Tryd.func82 rfl rfl rfl (takeSE (l := (Pk.rBlob m s).1) (s' := (Pk.rBlob m s).2) _ (by rfl) (by rfl) (H.get (f := RdYP 5 96 r A0 n0 c0 Y (Pk.rCount m s).2)) hn hb) ?_)
  rintro W ⟨hp, hf⟩
  replace H := H.mut (f := RdYP 5 96 r A0 n0 c0 Y (Pk.rCount m s).2) (f' := RdYP 5 96 r A0 n0 c0 Y (Pk.rCount m s).2) hf hp (fun _ h => h)
  exact p_lo (fun a hd _ => ⟨hd, rfl, ⟨_, H.get (f := RdYP 5 96 r A0 n0 c0 Y (Pk.rCount m s).2)⟩, H.fr⟩)

theorem oneBlob {A0 : Option Addr} {n0 c0 r : Nat} {Y : List UInt8 → Prop} {v : Value} {b : List UInt8} {s : RS} (w : World) {gb gm : Nat} {m : Int} (hR : (RdYB 5 96 r A0 n0 c0 Y v b s).p w) (hG : Gat w 0 formsC) (hT : ¬ RdT r A0 n0 c0 0) (he : s.2 = 0) (hgb : Gat w gb [.pointer (some ⟨r, 0, none⟩)]) (hTb : ¬ RdT r A0 n0 c0 gb) (hgm : Gat w gm [.int .i64 m]) (hTm : ¬ RdT r A0 n0 c0 gm) (hn : (Pk.rCount m s).2.2 = 0) (hb : (Pk.rBlob m s).2.2 = 0) : Calls Tryd.prog 88 [.pointer (some ⟨gb, 0, none⟩), .pointer (some ⟨gm, 0, none⟩)].toArray w (Ret (fun v' w' => (RdYB 5 96 r A0 n0 c0 Y v' (Pk.rBlob m s).1 (Pk.rBlob m s).2).p w' ∧ Fr (RdT r A0 n0 c0) w w')) := by
  refine k_enter (l := [_, _]) Tryd.func88 rfl rfl ?_
  have H := St.begin (f := RdYB 5 96 r A0 n0 c0 Y v b s) hR (RdB.lt hR)
  refine k_seq ?_
  refine k_region ?_
  refine s_run (w_none rfl) rfl (as_s rfl rfl) ?_
  refine l_nil ?_
  refine k_seq ?_
  refine k_drawP 0 [(0, true), (1, true), (2, true), (3, false), (4, false), (5, true)] [] (by kernel_rfl) (by kernel_rfl) (by kernel_rfl) H (List.nil_sublist _) ?_
  clear H; intro W H
  refine c_run rfl (w_none rfl) rfl (fun W H => d_ldG rfl ((H.gatT hgb hTb)) rfl ta27 rfl) ?_
  refine c_run rfl (w_none rfl) rfl (fun W H => d_ldG rfl ((H.gatT hgb hTb)) rfl ta27 rfl) ?_
  refine c_run rfl (w_none rfl) rfl (fun W H => d_ldG rfl ((H.gatT hgm hTm)) rfl ta3 rfl) ?_
  refine c_eff rfl (e_call (w_none rfl) rfl rfl Tryd.func86 rfl rfl rfl ((count _ (H.get (f := RdYB 5 96 r A0 n0 c0 Y v b s)) (H.gatT hG hT) hT he).1 hn) ?_)
  rintro _ W ⟨rfl, hp, hf⟩
  replace H := H.mut (f := RdYB 5 96 r A0 n0 c0 Y v b s) (f' := RdYP 5 96 r A0 n0 c0 Y (Pk.rCount m s).2) hf hp (fun _ h => h)
  clear hp hf
  refine ⟨H.sub (by repeat (first | exact List.Sublist.refl _ | refine List.Sublist.cons_cons _ ?_ | refine List.Sublist.cons _ ?_)), ?_⟩
  refine c_eff rfl (e_call (w_none rfl) rfl rfl Tryd.func82 rfl rfl rfl (takeE (l := (Pk.rBlob m s).1) (s' := (Pk.rBlob m s).2) _ (by rfl) (by rfl) (H.get (f := RdYP 5 96 r A0 n0 c0 Y (Pk.rCount m s).2)) hn hb) ?_)
  rintro _ W ⟨hp1, hf1⟩
  obtain ⟨B1, d1, rfl⟩ := RdB.form hp1
  replace H := H.mut (f := RdYP 5 96 r A0 n0 c0 Y (Pk.rCount m s).2) (f' := RdYB 5 96 r A0 n0 c0 Y (.slice B1 (List.length (Pk.rBlob m s).1) d1) (Pk.rBlob m s).1 (Pk.rBlob m s).2) hf1 hp1 (fun _ h => h)
  clear hp1 hf1
  refine ⟨H.sub (by repeat (first | exact List.Sublist.refl _ | refine List.Sublist.cons_cons _ ?_ | refine List.Sublist.cons _ ?_)), ?_⟩
  refine c_run rfl (w_none rfl) rfl (fun W H => as_s rfl rfl) ?_
  refine c_nilP ?_
  refine k_ret ?_
  repeat (first | refine r_then ?_ | refine r_blk ?_)
  exact q_ret (v := .slice _ _ _) rfl rfl ⟨_, rfl, H.get (f := RdYB 5 96 r A0 n0 c0 Y (.slice B1 (List.length (Pk.rBlob m s).1) d1) (Pk.rBlob m s).1 (Pk.rBlob m s).2), H.fr⟩
end Go.Proofs.YtejaohlijaodjaaDoor
