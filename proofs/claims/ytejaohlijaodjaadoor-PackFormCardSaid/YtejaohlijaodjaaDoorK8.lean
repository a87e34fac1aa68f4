/- The program reads: chapter 3. -/
import Derived.Test.YtejaohlijaodjaaDoorVS
import Derived.Test.YtejaohlijaodjaaDoorK7
namespace Go.Proofs.YtejaohlijaodjaaDoor
open Go Go.RowKit
attribute [local irreducible] wpList

theorem rdBadInt {A0 : Option Addr} {n0 c0 r : Nat} {Y : List UInt8 → Prop} {s : RS} (w : World) (hR : (RdYP 5 96 r A0 n0 c0 Y s).p w) (hs : s.2 ≠ 0) {fo : FuncId} {pre cap : Array Value} : Calls Tryd.prog 71 [.pointer (some ⟨r, 0, none⟩), .func (.func fo) pre cap].toArray w (Ret (fun v' w' => v' = (.int .i64 0) ∧ (RdYP 5 96 r A0 n0 c0 Y ([], s.2)).p w' ∧ Fr (RdT r A0 n0 c0) w w')) := by
  have hne := RdB.ne hR
  obtain ⟨A, c, o, ys, hY, hL, hH, hn0, hc0, H0⟩ := RdB.two hR
  refine k_enterD (l := [_, _]) Tryd.func71 rfl rfl ?_
  have H := H0
  refine k_seq ?_
  refine k_region ?_
  refine s_eff (e_box (vs := [.pointer (some ⟨r, 0, none⟩)]) (w_none rfl) rfl rfl rfl rfl H ?_)
  clear H; intro g0 W H
  refine s_eff (e_alloc (w_none rfl) rfl rfl [.int .i64 0] tz3 H ?_)
  clear H; intro g2 W H
  refine l_nil ?_
  refine k_seq ?_
  refine k_region ?_
  refine s_run (w_none rfl) rfl (d_mkf rfl rfl rfl) ?_
  refine s_eff (e_defer (w_none rfl) rfl rfl rfl ?_)
  refine l_nil ?_
  refine k_seq ?_
  refine k_drawP 6 [(0, true), (1, true), (2, true), (3, true), (4, true), (5, true), (6, true), (7, true), (8, true), (9, false)] _ (by kernel_rfl) (by kernel_rfl) (by kernel_rfl) H (.refl _) ?_
  clear H; intro W H
  refine c_run rfl (w_none rfl) rfl (fun W H => d_ld rfl H rfl ta27 rfl) ?_
  refine c_run rfl (w_none rfl) rfl (fun W H => d_nil rfl rfl) ?_
  refine c_run rfl (w_none rfl) rfl (fun W H => d_fa rfl rfl tf96_1) ?_
  refine c_run rfl (w_none rfl) rfl (fun W H => d_ld rfl H rfl ta30 rfl) ?_
  refine c_run rfl (w_none rfl) rfl (fun W H => d_eq rfl rfl rfl) ?_
  refine c_run rfl (w_none rfl) rfl (fun W H => d_ld rfl H rfl ta27 rfl) ?_
  refine c_run rfl (w_none rfl) rfl (fun W H => d_nil rfl rfl) ?_
  refine c_run rfl (w_none rfl) rfl (fun W H => d_fa rfl rfl tf96_1) ?_
  refine c_run rfl (w_none rfl) rfl (fun W H => d_ld rfl H rfl ta30 rfl) ?_
  refine c_eff rfl (e_callP (w_none rfl) rfl Tryd.func99 rfl rfl rfl (mustBad _ _ (by simpa using hs)) ?_)
  intro W hb
  replace H := H.below hb
  replace H := RdB.close2 hY H hL
  refine p_lo (fun a hd hlo => ?_)
  have hap := List.pairwise_cons.1 H.apart
  have hap2 := List.pairwise_cons.1 hap.2
  have hT2 : ¬ RdT r A0 n0 c0 g2 := fun h => hap.1 _ (.head _) g2 h rfl
  have hT0 : ¬ RdT r A0 n0 c0 g0 := fun h => hap.1 _ (.tail _ (.head _)) g0 h rfl
  have h02 : ¬ g0 = g2 := fun h => hap2.1 _ (.head _) g2 rfl h.symm
  have hge : w.heap.size ≤ g2 := (H.own _ (.tail _ (.head _)) g2 rfl).1.resolve_left hT2
  exact q_dpan (g := g2) rfl hd (getD_lo hlo (by decide) rfl) Tryd.func98 rfl rfl rfl (recPInt W (H.get (f := RdYP 5 96 r A0 n0 c0 Y s)) hs (gat_of (H.blk (g := g0))) hT0 h02 (H.blk (g := g2)) rfl hT2) (fun W2 h => ⟨_, loads1 ta3 h.2.1, ⟨_, rfl, rfl, h.1, H.fr.trans h.2.2 (fun g hg hh => hh.elim (fun e => absurd hge (by omega)) id)⟩⟩)

theorem rdPanInt {A0 : Option Addr} {n0 c0 r : Nat} {Y : List UInt8 → Prop} {s : RS} (w : World) (hR : (RdYP 5 96 r A0 n0 c0 Y s).p w) (hs : s.2 = 0) {fo : FuncId} {fno : Func} {pre cap : Array Value} {lo : List Value} (hfo : Tryd.prog.funcs[fo]? = some fno) (hbo : fno.body.isNone = false) (hno : (fno.name == "runtime.NumGoroutine") = false) (hlo : pre.toList ++ cap.toList = lo) {k : Int} (hk : k ≠ 0) (hone : ∀ W, Fr (RdT r A0 n0 c0) w W → (RdYP 5 96 r A0 n0 c0 Y s).p W → Calls Tryd.prog fo lo.toArray W (Pan (why k) (fun w' => (∃ s', (RdYP 5 96 r A0 n0 c0 Y s').p w') ∧ Fr (RdT r A0 n0 c0) W w'))) : Calls Tryd.prog 71 [.pointer (some ⟨r, 0, none⟩), .func (.func fo) pre cap].toArray w (Ret (fun v' w' => v' = (.int .i64 0) ∧ (RdYP 5 96 r A0 n0 c0 Y ([], k)).p w' ∧ Fr (RdT r A0 n0 c0) w w')) := by
  have hne := RdB.ne hR
  obtain ⟨A, c, o, ys, hY, hL, hH, hn0, hc0, H0⟩ := RdB.two hR
  refine k_enterD (l := [_, _]) Tryd.func71 rfl rfl ?_
  have H := H0
  refine k_seq ?_
  refine k_region ?_
  refine s_eff (e_box (vs := [.pointer (some ⟨r, 0, none⟩)]) (w_none rfl) rfl rfl rfl rfl H ?_)
  clear H; intro g0 W H
  refine s_eff (e_alloc (w_none rfl) rfl rfl [.int .i64 0] tz3 H ?_)
  clear H; intro g2 W H
  refine l_nil ?_
  refine k_seq ?_
  refine k_region ?_
  refine s_run (w_none rfl) rfl (d_mkf rfl rfl rfl) ?_
  refine s_eff (e_defer (w_none rfl) rfl rfl rfl ?_)
  refine l_nil ?_
  refine k_seq ?_
  refine k_drawP 6 [(0, true), (1, true), (2, true), (3, true), (4, true), (5, true), (6, true), (7, true), (8, true), (9, false)] _ (by kernel_rfl) (by kernel_rfl) (by kernel_rfl) H (.refl _) ?_
  clear H; intro W H
  refine c_run rfl (w_none rfl) rfl (fun W H => d_ld rfl H rfl ta27 rfl) ?_
  refine c_run rfl (w_none rfl) rfl (fun W H => d_nil rfl rfl) ?_
  refine c_run rfl (w_none rfl) rfl (fun W H => d_fa rfl rfl tf96_1) ?_
  refine c_run rfl (w_none rfl) rfl (fun W H => d_ld rfl H rfl ta30 rfl) ?_
  refine c_run rfl (w_none rfl) rfl (fun W H => d_eq rfl rfl rfl) ?_
  refine c_run rfl (w_none rfl) rfl (fun W H => d_ld rfl H rfl ta27 rfl) ?_
  refine c_run rfl (w_none rfl) rfl (fun W H => d_nil rfl rfl) ?_
  refine c_run rfl (w_none rfl) rfl (fun W H => d_fa rfl rfl tf96_1) ?_
  refine c_run rfl (w_none rfl) rfl (fun W H => d_ld rfl H rfl ta30 rfl) ?_
  refine c_eff rfl (e_call (w_none rfl) rfl rfl Tryd.func99 rfl rfl rfl (mustOk _ _ (by simpa using hs)) ?_)
  rintro _ W ⟨rfl, hb⟩
  replace H := H.below hb
  clear hb
  refine ⟨H.sub (by repeat (first | exact List.Sublist.refl _ | refine List.Sublist.cons_cons _ ?_ | refine List.Sublist.cons _ ?_)), ?_⟩
  refine c_nilP ?_
  replace H := RdB.close2 hY H hL
  refine k_seq ?_
  refine k_region ?_
  refine s_run (w_none rfl) rfl (mv_f rfl rfl) ?_
  refine s_eff (e_callvP (w_none rfl) rfl rfl hfo hbo hno (by simpa using hlo) (hone W H.fr (H.get (f := RdYP 5 96 r A0 n0 c0 Y s))) ?_)
  rintro W ⟨⟨s', hp⟩, hf⟩
  replace H := H.mut (f := RdYP 5 96 r A0 n0 c0 Y s) (f' := RdYP 5 96 r A0 n0 c0 Y s') hf hp (fun _ h => h)
  have hap := List.pairwise_cons.1 H.apart
  have hap2 := List.pairwise_cons.1 hap.2
  have hT2 : ¬ RdT r A0 n0 c0 g2 := fun h => hap.1 _ (.head _) g2 h rfl
  have hT0 : ¬ RdT r A0 n0 c0 g0 := fun h => hap.1 _ (.tail _ (.head _)) g0 h rfl
  have h02 : ¬ g0 = g2 := fun h => hap2.1 _ (.head _) g2 rfl h.symm
  have hge : w.heap.size ≤ g2 := (H.own _ (.tail _ (.head _)) g2 rfl).1.resolve_left hT2
  exact q_dpan (g := g2) rfl rfl (by rw [st_getD]; rfl) Tryd.func98 rfl rfl rfl (recPInt W (H.get (f := RdYP 5 96 r A0 n0 c0 Y s')) hk (gat_of (H.blk (g := g0))) hT0 h02 (H.blk (g := g2)) rfl hT2) (fun W2 h => ⟨_, loads1 ta3 h.2.1, ⟨_, rfl, rfl, h.1, H.fr.trans h.2.2 (fun g hg hh => hh.elim (fun e => absurd hge (by omega)) id)⟩⟩)

theorem rdOkInt {A0 : Option Addr} {n0 c0 r : Nat} {Y : List UInt8 → Prop} {s s1 : RS} (w : World) (hR : (RdYP 5 96 r A0 n0 c0 Y s).p w) (hs : s.2 = 0) {fo : FuncId} {fno : Func} {pre cap : Array Value} {lo : List Value} (hfo : Tryd.prog.funcs[fo]? = some fno) (hbo : fno.body.isNone = false) (hno : (fno.name == "runtime.NumGoroutine") = false) (hlo : pre.toList ++ cap.toList = lo) {u : Nat} (hone : ∀ W, Fr (RdT r A0 n0 c0) w W → (RdYP 5 96 r A0 n0 c0 Y s).p W → Calls Tryd.prog fo lo.toArray W (Ret (fun v' w' => v' = .int .i64 (u : Int) ∧ (RdYP 5 96 r A0 n0 c0 Y s1).p w' ∧ Fr (RdT r A0 n0 c0) W w'))) : Calls Tryd.prog 71 [.pointer (some ⟨r, 0, none⟩), .func (.func fo) pre cap].toArray w (Ret (fun v' w' => v' = .int .i64 (u : Int) ∧ (RdYP 5 96 r A0 n0 c0 Y s1).p w' ∧ Fr (RdT r A0 n0 c0) w w')) := by
  have hne := RdB.ne hR
  obtain ⟨A, c, o, ys, hY, hL, hH, hn0, hc0, H0⟩ := RdB.two hR
  refine k_enterD (l := [_, _]) Tryd.func71 rfl rfl ?_
  have H := H0
  refine k_seq ?_
  refine k_region ?_
  refine s_eff (e_box (vs := [.pointer (some ⟨r, 0, none⟩)]) (w_none rfl) rfl rfl rfl rfl H ?_)
  clear H; intro g0 W H
  refine s_eff (e_alloc (w_none rfl) rfl rfl [.int .i64 0] tz3 H ?_)
  clear H; intro g2 W H
  refine l_nil ?_
  refine k_seq ?_
  refine k_region ?_
  refine s_run (w_none rfl) rfl (d_mkf rfl rfl rfl) ?_
  refine s_eff (e_defer (w_none rfl) rfl rfl rfl ?_)
  refine l_nil ?_
  refine k_seq ?_
  refine k_drawP 6 [(0, true), (1, true), (2, true), (3, true), (4, true), (5, true), (6, true), (7, true), (8, true), (9, false)] _ (by kernel_rfl) (by kernel_rfl) (by kernel_rfl) H (.refl _) ?_
  clear H; intro W H
  refine c_run rfl (w_none rfl) rfl (fun W H => d_ld rfl H rfl ta27 rfl) ?_
  refine c_run rfl (w_none rfl) rfl (fun W H => d_nil rfl rfl) ?_
  refine c_run rfl (w_none rfl) rfl (fun W H => d_fa rfl rfl tf96_1) ?_
  refine c_run rfl (w_none rfl) rfl (fun W H => d_ld rfl H rfl ta30 rfl) ?_
  refine c_run rfl (w_none rfl) rfl (fun W H => d_eq rfl rfl rfl) ?_
  refine c_run rfl (w_none rfl) rfl (fun W H => d_ld rfl H rfl ta27 rfl) ?_
  refine c_run rfl (w_none rfl) rfl (fun W H => d_nil rfl rfl) ?_
  refine c_run rfl (w_none rfl) rfl (fun W H => d_fa rfl rfl tf96_1) ?_
  refine c_run rfl (w_none rfl) rfl (fun W H => d_ld rfl H rfl ta30 rfl) ?_
  refine c_eff rfl (e_call (w_none rfl) rfl rfl Tryd.func99 rfl rfl rfl (mustOk _ _ (by simpa using hs)) ?_)
  rintro _ W ⟨rfl, hb⟩
  replace H := H.below hb
  clear hb
  refine ⟨H.sub (by repeat (first | exact List.Sublist.refl _ | refine List.Sublist.cons_cons _ ?_ | refine List.Sublist.cons _ ?_)), ?_⟩
  refine c_nilP ?_
  replace H := RdB.close2 hY H hL
  refine k_seq ?_
  refine k_region ?_
  refine s_run (w_none rfl) rfl (mv_f rfl rfl) ?_
  refine s_eff (e_callv (w_none rfl) rfl rfl rfl hfo hbo hno (by simpa using hlo) (hone W H.fr (H.get (f := RdYP 5 96 r A0 n0 c0 Y s))) ?_)
  rintro _ W ⟨rfl, hp, hf⟩
  replace H := H.mut (f := RdYP 5 96 r A0 n0 c0 Y s) (f' := RdYP 5 96 r A0 n0 c0 Y s1) hf hp (fun _ h => h)
  clear hp hf
  refine s_eff (e_sto (w_none rfl) rfl rfl rfl rfl rfl ts3 rfl H rfl ?_)
  clear H; intro W H
  refine l_nil ?_
  refine k_ret ?_
  repeat (first | refine r_then ?_ | refine r_blk ?_)
  exact q_dret (g := g2) rfl rfl Tryd.func98 rfl rfl rfl (recInt W (gat_of (H.blk (g := g0)))) (fun W2 hb => by
    replace H := H.below hb
    exact ⟨_, loads1 ta3 (H.blk (g := g2)), ⟨_, rfl, rfl, H.get (f := RdYP 5 96 r A0 n0 c0 Y s1), H.fr⟩⟩)

theorem rdBadHash {A0 : Option Addr} {n0 c0 r : Nat} {Y : List UInt8 → Prop} {s : RS} (w : World) (hR : (RdYP 5 96 r A0 n0 c0 Y s).p w) (hs : s.2 ≠ 0) {fo : FuncId} {pre cap : Array Value} : Calls Tryd.prog 80 [.pointer (some ⟨r, 0, none⟩), .func (.func fo) pre cap].toArray w (Ret (fun v' w' => v' = (.agg (List.replicate 32 (u8v 0)).toArray) ∧ (RdYP 5 96 r A0 n0 c0 Y ([], s.2)).p w' ∧ Fr (RdT r A0 n0 c0) w w')) := by
  have hne := RdB.ne hR
  obtain ⟨A, c, o, ys, hY, hL, hH, hn0, hc0, H0⟩ := RdB.two hR
  refine k_enterD (l := [_, _]) Tryd.func80 rfl rfl ?_
  have H := H0
  refine k_seq ?_
  refine k_region ?_
  refine s_eff (e_box (vs := [.pointer (some ⟨r, 0, none⟩)]) (w_none rfl) rfl rfl rfl rfl H ?_)
  clear H; intro g0 W H
  refine s_eff (e_alloc (w_none rfl) rfl rfl (List.replicate 32 (u8v 0)) tz36 H ?_)
  clear H; intro g2 W H
  refine l_nil ?_
  refine k_seq ?_
  refine k_region ?_
  refine s_run (w_none rfl) rfl (d_mkf rfl rfl rfl) ?_
  refine s_eff (e_defer (w_none rfl) rfl rfl rfl ?_)
  refine l_nil ?_
  refine k_seq ?_
  refine k_drawP 6 [(0, true), (1, true), (2, true), (3, true), (4, true), (5, true), (6, true), (7, true), (8, true), (9, false)] _ (by kernel_rfl) (by kernel_rfl) (by kernel_rfl) H (.refl _) ?_
  clear H; intro W H
  refine c_run rfl (w_none rfl) rfl (fun W H => d_ld rfl H rfl ta27 rfl) ?_
  refine c_run rfl (w_none rfl) rfl (fun W H => d_nil rfl rfl) ?_
  refine c_run rfl (w_none rfl) rfl (fun W H => d_fa rfl rfl tf96_1) ?_
  refine c_run rfl (w_none rfl) rfl (fun W H => d_ld rfl H rfl ta30 rfl) ?_
  refine c_run rfl (w_none rfl) rfl (fun W H => d_eq rfl rfl rfl) ?_
  refine c_run rfl (w_none rfl) rfl (fun W H => d_ld rfl H rfl ta27 rfl) ?_
  refine c_run rfl (w_none rfl) rfl (fun W H => d_nil rfl rfl) ?_
  refine c_run rfl (w_none rfl) rfl (fun W H => d_fa rfl rfl tf96_1) ?_
  refine c_run rfl (w_none rfl) rfl (fun W H => d_ld rfl H rfl ta30 rfl) ?_
  refine c_eff rfl (e_callP (w_none rfl) rfl Tryd.func99 rfl rfl rfl (mustBad _ _ (by simpa using hs)) ?_)
  intro W hb
  replace H := H.below hb
  replace H := RdB.close2 hY H hL
  refine p_lo (fun a hd hlo => ?_)
  have hap := List.pairwise_cons.1 H.apart
  have hap2 := List.pairwise_cons.1 hap.2
  have hT2 : ¬ RdT r A0 n0 c0 g2 := fun h => hap.1 _ (.head _) g2 h rfl
  have hT0 : ¬ RdT r A0 n0 c0 g0 := fun h => hap.1 _ (.tail _ (.head _)) g0 h rfl
  have h02 : ¬ g0 = g2 := fun h => hap2.1 _ (.head _) g2 rfl h.symm
  have hge : w.heap.size ≤ g2 := (H.own _ (.tail _ (.head _)) g2 rfl).1.resolve_left hT2
  exact q_dpan (g := g2) rfl hd (getD_lo hlo (by decide) rfl) Tryd.func104 rfl rfl rfl (recPHash W (H.get (f := RdYP 5 96 r A0 n0 c0 Y s)) hs (gat_of (H.blk (g := g0))) hT0 h02 (H.blk (g := g2)) (by rw [List.length_replicate]) hT2) (fun W2 h => ⟨_, loadsM ta36 (by rw [List.length_replicate]; exact ts36) h.2.1, ⟨_, rfl, rfl, h.1, H.fr.trans h.2.2 (fun g hg hh => hh.elim (fun e => absurd hge (by omega)) id)⟩⟩)

theorem rdPanHash {A0 : Option Addr} {n0 c0 r : Nat} {Y : List UInt8 → Prop} {s : RS} (w : World) (hR : (RdYP 5 96 r A0 n0 c0 Y s).p w) (hs : s.2 = 0) {fo : FuncId} {fno : Func} {pre cap : Array Value} {lo : List Value} (hfo : Tryd.prog.funcs[fo]? = some fno) (hbo : fno.body.isNone = false) (hno : (fno.name == "runtime.NumGoroutine") = false) (hlo : pre.toList ++ cap.toList = lo) {k : Int} (hk : k ≠ 0) (hone : ∀ W, Fr (RdT r A0 n0 c0) w W → (RdYP 5 96 r A0 n0 c0 Y s).p W → Calls Tryd.prog fo lo.toArray W (Pan (why k) (fun w' => (∃ s', (RdYP 5 96 r A0 n0 c0 Y s').p w') ∧ Fr (RdT r A0 n0 c0) W w'))) : Calls Tryd.prog 80 [.pointer (some ⟨r, 0, none⟩), .func (.func fo) pre cap].toArray w (Ret (fun v' w' => v' = (.agg (List.replicate 32 (u8v 0)).toArray) ∧ (RdYP 5 96 r A0 n0 c0 Y ([], k)).p w' ∧ Fr (RdT r A0 n0 c0) w w')) := by
  have hne := RdB.ne hR
  obtain ⟨A, c, o, ys, hY, hL, hH, hn0, hc0, H0⟩ := RdB.two hR
  refine k_enterD (l := [_, _]) Tryd.func80 rfl rfl ?_
  have H := H0
  refine k_seq ?_
  refine k_region ?_
  refine s_eff (e_box (vs := [.pointer (some ⟨r, 0, none⟩)]) (w_none rfl) rfl rfl rfl rfl H ?_)
  clear H; intro g0 W H
  refine s_eff (e_alloc (w_none rfl) rfl rfl (List.replicate 32 (u8v 0)) tz36 H ?_)
  clear H; intro g2 W H
  refine l_nil ?_
  refine k_seq ?_
  refine k_region ?_
  refine s_run (w_none rfl) rfl (d_mkf rfl rfl rfl) ?_
  refine s_eff (e_defer (w_none rfl) rfl rfl rfl ?_)
  refine l_nil ?_
  refine k_seq ?_
  refine k_drawP 6 [(0, true), (1, true), (2, true), (3, true), (4, true), (5, true), (6, true), (7, true), (8, true), (9, false)] _ (by kernel_rfl) (by kernel_rfl) (by kernel_rfl) H (.refl _) ?_
  clear H; intro W H
  refine c_run rfl (w_none rfl) rfl (fun W H => d_ld rfl H rfl ta27 rfl) ?_
  refine c_run rfl (w_none rfl) rfl (fun W H => d_nil rfl rfl) ?_
  refine c_run rfl (w_none rfl) rfl (fun W H => d_fa rfl rfl tf96_1) ?_
  refine c_run rfl (w_none rfl) rfl (fun W H => d_ld rfl H rfl ta30 rfl) ?_
  refine c_run rfl (w_none rfl) rfl (fun W H => d_eq rfl rfl rfl) ?_
  refine c_run rfl (w_none rfl) rfl (fun W H => d_ld rfl H rfl ta27 rfl) ?_
  refine c_run rfl (w_none rfl) rfl (fun W H => d_nil rfl rfl) ?_
  refine c_run rfl (w_none rfl) rfl (fun W H => d_fa rfl rfl tf96_1) ?_
  refine c_run rfl (w_none rfl) rfl (fun W H => d_ld rfl H rfl ta30 rfl) ?_
  refine c_eff rfl (e_call (w_none rfl) rfl rfl Tryd.func99 rfl rfl rfl (mustOk _ _ (by simpa using hs)) ?_)
  rintro _ W ⟨rfl, hb⟩
  replace H := H.below hb
  clear hb
  refine ⟨H.sub (by repeat (first | exact List.Sublist.refl _ | refine List.Sublist.cons_cons _ ?_ | refine List.Sublist.cons _ ?_)), ?_⟩
  refine c_nilP ?_
  replace H := RdB.close2 hY H hL
  refine k_seq ?_
  refine k_region ?_
  refine s_run (w_none rfl) rfl (mv_f rfl rfl) ?_
  refine s_eff (e_callvP (w_none rfl) rfl rfl hfo hbo hno (by simpa using hlo) (hone W H.fr (H.get (f := RdYP 5 96 r A0 n0 c0 Y s))) ?_)
  rintro W ⟨⟨s', hp⟩, hf⟩
  replace H := H.mut (f := RdYP 5 96 r A0 n0 c0 Y s) (f' := RdYP 5 96 r A0 n0 c0 Y s') hf hp (fun _ h => h)
  have hap := List.pairwise_cons.1 H.apart
  have hap2 := List.pairwise_cons.1 hap.2
  have hT2 : ¬ RdT r A0 n0 c0 g2 := fun h => hap.1 _ (.head _) g2 h rfl
  have hT0 : ¬ RdT r A0 n0 c0 g0 := fun h => hap.1 _ (.tail _ (.head _)) g0 h rfl
  have h02 : ¬ g0 = g2 := fun h => hap2.1 _ (.head _) g2 rfl h.symm
  have hge : w.heap.size ≤ g2 := (H.own _ (.tail _ (.head _)) g2 rfl).1.resolve_left hT2
  exact q_dpan (g := g2) rfl rfl (by rw [st_getD]; rfl) Tryd.func104 rfl rfl rfl (recPHash W (H.get (f := RdYP 5 96 r A0 n0 c0 Y s')) hk (gat_of (H.blk (g := g0))) hT0 h02 (H.blk (g := g2)) (by rw [List.length_replicate]) hT2) (fun W2 h => ⟨_, loadsM ta36 (by rw [List.length_replicate]; exact ts36) h.2.1, ⟨_, rfl, rfl, h.1, H.fr.trans h.2.2 (fun g hg hh => hh.elim (fun e => absurd hge (by omega)) id)⟩⟩)

theorem rdOkHash {A0 : Option Addr} {n0 c0 r : Nat} {Y : List UInt8 → Prop} {s s1 : RS} (w : World) (hR : (RdYP 5 96 r A0 n0 c0 Y s).p w) (hs : s.2 = 0) {fo : FuncId} {fno : Func} {pre cap : Array Value} {lo : List Value} (hfo : Tryd.prog.funcs[fo]? = some fno) (hbo : fno.body.isNone = false) (hno : (fno.name == "runtime.NumGoroutine") = false) (hlo : pre.toList ++ cap.toList = lo) {l : List UInt8} (hll : l.length = 32) (hone : ∀ W, Fr (RdT r A0 n0 c0) w W → (RdYP 5 96 r A0 n0 c0 Y s).p W → Calls Tryd.prog fo lo.toArray W (Ret (fun v' w' => v' = .agg (l.map u8v).toArray ∧ (RdYP 5 96 r A0 n0 c0 Y s1).p w' ∧ Fr (RdT r A0 n0 c0) W w'))) : Calls Tryd.prog 80 [.pointer (some ⟨r, 0, none⟩), .func (.func fo) pre cap].toArray w (Ret (fun v' w' => v' = .agg (l.map u8v).toArray ∧ (RdYP 5 96 r A0 n0 c0 Y s1).p w' ∧ Fr (RdT r A0 n0 c0) w w')) := by
  have hne := RdB.ne hR
  obtain ⟨A, c, o, ys, hY, hL, hH, hn0, hc0, H0⟩ := RdB.two hR
  refine k_enterD (l := [_, _]) Tryd.func80 rfl rfl ?_
  have H := H0
  refine k_seq ?_
  refine k_region ?_
  refine s_eff (e_box (vs := [.pointer (some ⟨r, 0, none⟩)]) (w_none rfl) rfl rfl rfl rfl H ?_)
  clear H; intro g0 W H
  refine s_eff (e_alloc (w_none rfl) rfl rfl (List.replicate 32 (u8v 0)) tz36 H ?_)
  clear H; intro g2 W H
  refine l_nil ?_
  refine k_seq ?_
  refine k_region ?_
  refine s_run (w_none rfl) rfl (d_mkf rfl rfl rfl) ?_
  refine s_eff (e_defer (w_none rfl) rfl rfl rfl ?_)
  refine l_nil ?_
  refine k_seq ?_
  refine k_drawP 6 [(0, true), (1, true), (2, true), (3, true), (4, true), (5, true), (6, true), (7, true), (8, true), (9, false)] _ (by kernel_rfl) (by kernel_rfl) (by kernel_rfl) H (.refl _) ?_
  clear H; intro W H
  refine c_run rfl (w_none rfl) rfl (fun W H => d_ld rfl H rfl ta27 rfl) ?_
  refine c_run rfl (w_none rfl) rfl (fun W H => d_nil rfl rfl) ?_
  refine c_run rfl (w_none rfl) rfl (fun W H => d_fa rfl rfl tf96_1) ?_
  refine c_run rfl (w_none rfl) rfl (fun W H => d_ld rfl H rfl ta30 rfl) ?_
  refine c_run rfl (w_none rfl) rfl (fun W H => d_eq rfl rfl rfl) ?_
  refine c_run rfl (w_none rfl) rfl (fun W H => d_ld rfl H rfl ta27 rfl) ?_
  refine c_run rfl (w_none rfl) rfl (fun W H => d_nil rfl rfl) ?_
  refine c_run rfl (w_none rfl) rfl (fun W H => d_fa rfl rfl tf96_1) ?_
  refine c_run rfl (w_none rfl) rfl (fun W H => d_ld rfl H rfl ta30 rfl) ?_
  refine c_eff rfl (e_call (w_none rfl) rfl rfl Tryd.func99 rfl rfl rfl (mustOk _ _ (by simpa using hs)) ?_)
  rintro _ W ⟨rfl, hb⟩
  replace H := H.below hb
  clear hb
  refine ⟨H.sub (by repeat (first | exact List.Sublist.refl _ | refine List.Sublist.cons_cons _ ?_ | refine List.Sublist.cons _ ?_)), ?_⟩
  refine c_nilP ?_
  replace H := RdB.close2 hY H hL
  refine k_seq ?_
  refine k_region ?_
  refine s_run (w_none rfl) rfl (mv_f rfl rfl) ?_
  refine s_eff (e_callv (w_none rfl) rfl rfl rfl hfo hbo hno (by simpa using hlo) (hone W H.fr (H.get (f := RdYP 5 96 r A0 n0 c0 Y s))) ?_)
  rintro _ W ⟨rfl, hp, hf⟩
  replace H := H.mut (f := RdYP 5 96 r A0 n0 c0 Y s) (f' := RdYP 5 96 r A0 n0 c0 Y s1) hf hp (fun _ h => h)
  clear hp hf
  refine s_eff (e_stoK (l.map u8v) (w_none rfl) rfl rfl rfl rfl rfl ts36 (by rw [List.length_map, hll]) (all_u8L _) H (by simp) (spl_all (by rw [List.length_map, List.length_replicate, hll])) ?_)
  clear H; intro W H
  refine l_nil ?_
  refine k_ret ?_
  repeat (first | refine r_then ?_ | refine r_blk ?_)
  exact q_dret (g := g2) rfl rfl Tryd.func104 rfl rfl rfl (recHash W (gat_of (H.blk (g := g0)))) (fun W2 hb => by
    replace H := H.below hb
    exact ⟨_, loadsM ta36 (by rw [List.length_map, hll]; exact ts36) (H.blk (g := g2)), ⟨_, rfl, rfl, H.get (f := RdYP 5 96 r A0 n0 c0 Y s1), H.fr⟩⟩)

theorem rdBadTag {A0 : Option Addr} {n0 c0 r : Nat} {Y : List UInt8 → Prop} {s : RS} (w : World) (hR : (RdYP 5 96 r A0 n0 c0 Y s).p w) (hs : s.2 ≠ 0) {fo : FuncId} {pre cap : Array Value} : Calls Tryd.prog 83 [.pointer (some ⟨r, 0, none⟩), .func (.func fo) pre cap].toArray w (Ret (fun v' w' => v' = (.agg (List.replicate 16 (u8v 0)).toArray) ∧ (RdYP 5 96 r A0 n0 c0 Y ([], s.2)).p w' ∧ Fr (RdT r A0 n0 c0) w w')) := by
  have hne := RdB.ne hR
  obtain ⟨A, c, o, ys, hY, hL, hH, hn0, hc0, H0⟩ := RdB.two hR
  refine k_enterD (l := [_, _]) Tryd.func83 rfl rfl ?_
  have H := H0
  refine k_seq ?_
  refine k_region ?_
  refine s_eff (e_box (vs := [.pointer (some ⟨r, 0, none⟩)]) (w_none rfl) rfl rfl rfl rfl H ?_)
  clear H; intro g0 W H
  refine s_eff (e_alloc (w_none rfl) rfl rfl (List.replicate 16 (u8v 0)) tz38 H ?_)
  clear H; intro g2 W H
  refine l_nil ?_
  refine k_seq ?_
  refine k_region ?_
  refine s_run (w_none rfl) rfl (d_mkf rfl rfl rfl) ?_
  refine s_eff (e_defer (w_none rfl) rfl rfl rfl ?_)
  refine l_nil ?_
  refine k_seq ?_
  refine k_drawP 6 [(0, true), (1, true), (2, true), (3, true), (4, true), (5, true), (6, true), (7, true), (8, true), (9, false)] _ (by kernel_rfl) (by kernel_rfl) (by kernel_rfl) H (.refl _) ?_
  clear H; intro W H
  refine c_run rfl (w_none rfl) rfl (fun W H => d_ld rfl H rfl ta27 rfl) ?_
  refine c_run rfl (w_none rfl) rfl (fun W H => d_nil rfl rfl) ?_
  refine c_run rfl (w_none rfl) rfl (fun W H => d_fa rfl rfl tf96_1) ?_
  refine c_run rfl (w_none rfl) rfl (fun W H => d_ld rfl H rfl ta30 rfl) ?_
  refine c_run rfl (w_none rfl) rfl (fun W H => d_eq rfl rfl rfl) ?_
  refine c_run rfl (w_none rfl) rfl (fun W H => d_ld rfl H rfl ta27 rfl) ?_
  refine c_run rfl (w_none rfl) rfl (fun W H => d_nil rfl rfl) ?_
  refine c_run rfl (w_none rfl) rfl (fun W H => d_fa rfl rfl tf96_1) ?_
  refine c_run rfl (w_none rfl) rfl (fun W H => d_ld rfl H rfl ta30 rfl) ?_
  refine c_eff rfl (e_callP (w_none rfl) rfl Tryd.func99 rfl rfl rfl (mustBad _ _ (by simpa using hs)) ?_)
  intro W hb
  replace H := H.below hb
  replace H := RdB.close2 hY H hL
  refine p_lo (fun a hd hlo => ?_)
  have hap := List.pairwise_cons.1 H.apart
  have hap2 := List.pairwise_cons.1 hap.2
  have hT2 : ¬ RdT r A0 n0 c0 g2 := fun h => hap.1 _ (.head _) g2 h rfl
  have hT0 : ¬ RdT r A0 n0 c0 g0 := fun h => hap.1 _ (.tail _ (.head _)) g0 h rfl
  have h02 : ¬ g0 = g2 := fun h => hap2.1 _ (.head _) g2 rfl h.symm
  have hge : w.heap.size ≤ g2 := (H.own _ (.tail _ (.head _)) g2 rfl).1.resolve_left hT2
  exact q_dpan (g := g2) rfl hd (getD_lo hlo (by decide) rfl) Tryd.func105 rfl rfl rfl (recPTag W (H.get (f := RdYP 5 96 r A0 n0 c0 Y s)) hs (gat_of (H.blk (g := g0))) hT0 h02 (H.blk (g := g2)) (by rw [List.length_replicate]) hT2) (fun W2 h => ⟨_, loadsM ta38 (by rw [List.length_replicate]; exact ts38) h.2.1, ⟨_, rfl, rfl, h.1, H.fr.trans h.2.2 (fun g hg hh => hh.elim (fun e => absurd hge (by omega)) id)⟩⟩)

theorem rdPanTag {A0 : Option Addr} {n0 c0 r : Nat} {Y : List UInt8 → Prop} {s : RS} (w : World) (hR : (RdYP 5 96 r A0 n0 c0 Y s).p w) (hs : s.2 = 0) {fo : FuncId} {fno : Func} {pre cap : Array Value} {lo : List Value} (hfo : Tryd.prog.funcs[fo]? = some fno) (hbo : fno.body.isNone = false) (hno : (fno.name == "runtime.NumGoroutine") = false) (hlo : pre.toList ++ cap.toList = lo) {k : Int} (hk : k ≠ 0) (hone : ∀ W, Fr (RdT r A0 n0 c0) w W → (RdYP 5 96 r A0 n0 c0 Y s).p W → Calls Tryd.prog fo lo.toArray W (Pan (why k) (fun w' => (∃ s', (RdYP 5 96 r A0 n0 c0 Y s').p w') ∧ Fr (RdT r A0 n0 c0) W w'))) : Calls Tryd.prog 83 [.pointer (some ⟨r, 0, none⟩), .func (.func fo) pre cap].toArray w (Ret (fun v' w' => v' = (.agg (List.replicate 16 (u8v 0)).toArray) ∧ (RdYP 5 96 r A0 n0 c0 Y ([], k)).p w' ∧ Fr (RdT r A0 n0 c0) w w')) := by
  have hne := RdB.ne hR
  obtain ⟨A, c, o, ys, hY, hL, hH, hn0, hc0, H0⟩ := RdB.two hR
  refine k_enterD (l := [_, _]) Tryd.func83 rfl rfl ?_
  have H := H0
  refine k_seq ?_
  refine k_region ?_
  refine s_eff (e_box (vs := [.pointer (some ⟨r, 0, none⟩)]) (w_none rfl) rfl rfl rfl rfl H ?_)
  clear H; intro g0 W H
  refine s_eff (e_alloc (w_none rfl) rfl rfl (List.replicate 16 (u8v 0)) tz38 H ?_)
  clear H; intro g2 W H
  refine l_nil ?_
  refine k_seq ?_
  refine k_region ?_
  refine s_run (w_none rfl) rfl (d_mkf rfl rfl rfl) ?_
  refine s_eff (e_defer (w_none rfl) rfl rfl rfl ?_)
  refine l_nil ?_
  refine k_seq ?_
  refine k_drawP 6 [(0, true), (1, true), (2, true), (3, true), (4, true), (5, true), (6, true), (7, true), (8, true), (9, false)] _ (by kernel_rfl) (by kernel_rfl) (by kernel_rfl) H (.refl _) ?_
  clear H; intro W H
  refine c_run rfl (w_none rfl) rfl (fun W H => d_ld rfl H rfl ta27 rfl) ?_
  refine c_run rfl (w_none rfl) rfl (fun W H => d_nil rfl rfl) ?_
  refine c_run rfl (w_none rfl) rfl (fun W H => d_fa rfl rfl tf96_1) ?_
  refine c_run rfl (w_none rfl) rfl (fun W H => d_ld rfl H rfl ta30 rfl) ?_
  refine c_run rfl (w_none rfl) rfl (fun W H => d_eq rfl rfl rfl) ?_
  refine c_run rfl (w_none rfl) rfl (fun W H => d_ld rfl H rfl ta27 rfl) ?_
  refine c_run rfl (w_none rfl) rfl (fun W H => d_nil rfl rfl) ?_
  refine c_run rfl (w_none rfl) rfl (fun W H => d_fa rfl rfl tf96_1) ?_
  refine c_run rfl (w_none rfl) rfl (fun W H => d_ld rfl H rfl ta30 rfl) ?_
  refine c_eff rfl (e_call (w_none rfl) rfl rfl Tryd.func99 rfl rfl rfl (mustOk _ _ (by simpa using hs)) ?_)
  rintro _ W ⟨rfl, hb⟩
  replace H := H.below hb
  clear hb
  refine ⟨H.sub (by repeat (first | exact List.Sublist.refl _ | refine List.Sublist.cons_cons _ ?_ | refine List.Sublist.cons _ ?_)), ?_⟩
  refine c_nilP ?_
  replace H := RdB.close2 hY H hL
  refine k_seq ?_
  refine k_region ?_
  refine s_run (w_none rfl) rfl (mv_f rfl rfl) ?_
  refine s_eff (e_callvP (w_none rfl) rfl rfl hfo hbo hno (by simpa using hlo) (hone W H.fr (H.get (f := RdYP 5 96 r A0 n0 c0 Y s))) ?_)
  rintro W ⟨⟨s', hp⟩, hf⟩
  replace H := H.mut (f := RdYP 5 96 r A0 n0 c0 Y s) (f' := RdYP 5 96 r A0 n0 c0 Y s') hf hp (fun _ h => h)
  have hap := List.pairwise_cons.1 H.apart
  have hap2 := List.pairwise_cons.1 hap.2
  have hT2 : ¬ RdT r A0 n0 c0 g2 := fun h => hap.1 _ (.head _) g2 h rfl
  have hT0 : ¬ RdT r A0 n0 c0 g0 := fun h => hap.1 _ (.tail _ (.head _)) g0 h rfl
  have h02 : ¬ g0 = g2 := fun h => hap2.1 _ (.head _) g2 rfl h.symm
  have hge : w.heap.size ≤ g2 := (H.own _ (.tail _ (.head _)) g2 rfl).1.resolve_left hT2
  exact q_dpan (g := g2) rfl rfl (by rw [st_getD]; rfl) Tryd.func105 rfl rfl rfl (recPTag W (H.get (f := RdYP 5 96 r A0 n0 c0 Y s')) hk (gat_of (H.blk (g := g0))) hT0 h02 (H.blk (g := g2)) (by rw [List.length_replicate]) hT2) (fun W2 h => ⟨_, loadsM ta38 (by rw [List.length_replicate]; exact ts38) h.2.1, ⟨_, rfl, rfl, h.1, H.fr.trans h.2.2 (fun g hg hh => hh.elim (fun e => absurd hge (by omega)) id)⟩⟩)

theorem rdOkTag {A0 : Option Addr} {n0 c0 r : Nat} {Y : List UInt8 → Prop} {s s1 : RS} (w : World) (hR : (RdYP 5 96 r A0 n0 c0 Y s).p w) (hs : s.2 = 0) {fo : FuncId} {fno : Func} {pre cap : Array Value} {lo : List Value} (hfo : Tryd.prog.funcs[fo]? = some fno) (hbo : fno.body.isNone = false) (hno : (fno.name == "runtime.NumGoroutine") = false) (hlo : pre.toList ++ cap.toList = lo) {l : List UInt8} (hll : l.length = 16) (hone : ∀ W, Fr (RdT r A0 n0 c0) w W → (RdYP 5 96 r A0 n0 c0 Y s).p W → Calls Tryd.prog fo lo.toArray W (Ret (fun v' w' => v' = .agg (l.map u8v).toArray ∧ (RdYP 5 96 r A0 n0 c0 Y s1).p w' ∧ Fr (RdT r A0 n0 c0) W w'))) : Calls Tryd.prog 83 [.pointer (some ⟨r, 0, none⟩), .func (.func fo) pre cap].toArray w (Ret (fun v' w' => v' = .agg (l.map u8v).toArray ∧ (RdYP 5 96 r A0 n0 c0 Y s1).p w' ∧ Fr (RdT r A0 n0 c0) w w')) := by
  have hne := RdB.ne hR
  obtain ⟨A, c, o, ys, hY, hL, hH, hn0, hc0, H0⟩ := RdB.two hR
  refine k_enterD (l := [_, _]) Tryd.func83 rfl rfl ?_
  have H := H0
  refine k_seq ?_
  refine k_region ?_
  refine s_eff (e_box (vs := [.pointer (some ⟨r, 0, none⟩)]) (w_none rfl) rfl rfl rfl rfl H ?_)
  clear H; intro g0 W H
  refine s_eff (e_alloc (w_none rfl) rfl rfl (List.replicate 16 (u8v 0)) tz38 H ?_)
  clear H; intro g2 W H
  refine l_nil ?_
  refine k_seq ?_
  refine k_region ?_
  refine s_run (w_none rfl) rfl (d_mkf rfl rfl rfl) ?_
  refine s_eff (e_defer (w_none rfl) rfl rfl rfl ?_)
  refine l_nil ?_
  refine k_seq ?_
  refine k_drawP 6 [(0, true), (1, true), (2, true), (3, true), (4, true), (5, true), (6, true), (7, true), (8, true), (9, false)] _ (by kernel_rfl) (by kernel_rfl) (by kernel_rfl) H (.refl _) ?_
  clear H; intro W H
  refine c_run rfl (w_none rfl) rfl (fun W H => d_ld rfl H rfl ta27 rfl) ?_
  refine c_run rfl (w_none rfl) rfl (fun W H => d_nil rfl rfl) ?_
  refine c_run rfl (w_none rfl) rfl (fun W H => d_fa rfl rfl tf96_1) ?_
  refine c_run rfl (w_none rfl) rfl (fun W H => d_ld rfl H rfl ta30 rfl) ?_
  refine c_run rfl (w_none rfl) rfl (fun W H => d_eq rfl rfl rfl) ?_
  refine c_run rfl (w_none rfl) rfl (fun W H => d_ld rfl H rfl ta27 rfl) ?_
  refine c_run rfl (w_none rfl) rfl (fun W H => d_nil rfl rfl) ?_
  refine c_run rfl (w_none rfl) rfl (fun W H => d_fa rfl rfl tf96_1) ?_
  refine c_run rfl (w_none rfl) rfl (fun W H => d_ld rfl H rfl ta30 rfl) ?_
  refine c_eff rfl (e_call (w_none rfl) rfl rfl Tryd.func99 rfl rfl rfl (mustOk _ _ (by simpa using hs)) ?_)
  rintro _ W ⟨rfl, hb⟩
  replace H := H.below hb
  clear hb
  refine ⟨H.sub (by repeat (first | exact List.Sublist.refl _ | refine List.Sublist.cons_cons _ ?_ | refine List.Sublist.cons _ ?_)), ?_⟩
  refine c_nilP ?_
  replace H := RdB.close2 hY H hL
  refine k_seq ?_
  refine k_region ?_
  refine s_run (w_none rfl) rfl (mv_f rfl rfl) ?_
  refine s_eff (e_callv (w_none rfl) rfl rfl rfl hfo hbo hno (by simpa using hlo) (hone W H.fr (H.get (f := RdYP 5 96 r A0 n0 c0 Y s))) ?_)
  rintro _ W ⟨rfl, hp, hf⟩
  replace H := H.mut (f := RdYP 5 96 r A0 n0 c0 Y s) (f' := RdYP 5 96 r A0 n0 c0 Y s1) hf hp (fun _ h => h)
  clear hp hf
  refine s_eff (e_stoK (l.map u8v) (w_none rfl) rfl rfl rfl rfl rfl ts38 (by rw [List.length_map, hll]) (all_u8L _) H (by simp) (spl_all (by rw [List.length_map, List.length_replicate, hll])) ?_)
  clear H; intro W H
  refine l_nil ?_
  refine k_ret ?_
  repeat (first | refine r_then ?_ | refine r_blk ?_)
  exact q_dret (g := g2) rfl rfl Tryd.func105 rfl rfl rfl (recTag W (gat_of (H.blk (g := g0)))) (fun W2 hb => by
    replace H := H.below hb
    exact ⟨_, loadsM ta38 (by rw [List.length_map, hll]; exact ts38) (H.blk (g := g2)), ⟨_, rfl, rfl, H.get (f := RdYP 5 96 r A0 n0 c0 Y s1), H.fr⟩⟩)

theorem rdBadBlob {A0 : Option Addr} {n0 c0 r : Nat} {Y : List UInt8 → Prop} {s : RS} (w : World) (hR : (RdYP 5 96 r A0 n0 c0 Y s).p w) (hs : s.2 ≠ 0) {fo : FuncId} {pre cap : Array Value} : Calls Tryd.prog 87 [.pointer (some ⟨r, 0, none⟩), .func (.func fo) pre cap].toArray w (Ret (fun v' w' => v' = (.slice none 0 0) ∧ (RdYP 5 96 r A0 n0 c0 Y ([], s.2)).p w' ∧ Fr (RdT r A0 n0 c0) w w')) := by
  have hne := RdB.ne hR
  obtain ⟨A, c, o, ys, hY, hL, hH, hn0, hc0, H0⟩ := RdB.two hR
  refine k_enterD (l := [_, _]) Tryd.func87 rfl rfl ?_
  have H := H0
  refine k_seq ?_
  refine k_region ?_
  refine s_eff (e_box (vs := [.pointer (some ⟨r, 0, none⟩)]) (w_none rfl) rfl rfl rfl rfl H ?_)
  clear H; intro g0 W H
  refine s_eff (e_alloc (w_none rfl) rfl rfl [.slice none 0 0] tz23 H ?_)
  clear H; intro g2 W H
  refine l_nil ?_
  refine k_seq ?_
  refine k_region ?_
  refine s_run (w_none rfl) rfl (d_mkf rfl rfl rfl) ?_
  refine s_eff (e_defer (w_none rfl) rfl rfl rfl ?_)
  refine l_nil ?_
  refine k_seq ?_
  refine k_drawP 6 [(0, true), (1, true), (2, true), (3, true), (4, true), (5, true), (6, true), (7, true), (8, true), (9, false)] _ (by kernel_rfl) (by kernel_rfl) (by kernel_rfl) H (.refl _) ?_
  clear H; intro W H
  refine c_run rfl (w_none rfl) rfl (fun W H => d_ld rfl H rfl ta27 rfl) ?_
  refine c_run rfl (w_none rfl) rfl (fun W H => d_nil rfl rfl) ?_
  refine c_run rfl (w_none rfl) rfl (fun W H => d_fa rfl rfl tf96_1) ?_
  refine c_run rfl (w_none rfl) rfl (fun W H => d_ld rfl H rfl ta30 rfl) ?_
  refine c_run rfl (w_none rfl) rfl (fun W H => d_eq rfl rfl rfl) ?_
  refine c_run rfl (w_none rfl) rfl (fun W H => d_ld rfl H rfl ta27 rfl) ?_
  refine c_run rfl (w_none rfl) rfl (fun W H => d_nil rfl rfl) ?_
  refine c_run rfl (w_none rfl) rfl (fun W H => d_fa rfl rfl tf96_1) ?_
  refine c_run rfl (w_none rfl) rfl (fun W H => d_ld rfl H rfl ta30 rfl) ?_
  refine c_eff rfl (e_callP (w_none rfl) rfl Tryd.func99 rfl rfl rfl (mustBad _ _ (by simpa using hs)) ?_)
  intro W hb
  replace H := H.below hb
  replace H := RdB.close2 hY H hL
  refine p_lo (fun a hd hlo => ?_)
  have hap := List.pairwise_cons.1 H.apart
  have hap2 := List.pairwise_cons.1 hap.2
  have hT2 : ¬ RdT r A0 n0 c0 g2 := fun h => hap.1 _ (.head _) g2 h rfl
  have hT0 : ¬ RdT r A0 n0 c0 g0 := fun h => hap.1 _ (.tail _ (.head _)) g0 h rfl
  have h02 : ¬ g0 = g2 := fun h => hap2.1 _ (.head _) g2 rfl h.symm
  have hge : w.heap.size ≤ g2 := (H.own _ (.tail _ (.head _)) g2 rfl).1.resolve_left hT2
  exact q_dpan (g := g2) rfl hd (getD_lo hlo (by decide) rfl) Tryd.func106 rfl rfl rfl (recPBlob W (H.get (f := RdYP 5 96 r A0 n0 c0 Y s)) hs (gat_of (H.blk (g := g0))) hT0 h02 (H.blk (g := g2)) rfl hT2) (fun W2 h => ⟨_, loads1 ta23 h.2.1, ⟨_, rfl, rfl, h.1, H.fr.trans h.2.2 (fun g hg hh => hh.elim (fun e => absurd hge (by omega)) id)⟩⟩)

theorem rdPanBlob {A0 : Option Addr} {n0 c0 r : Nat} {Y : List UInt8 → Prop} {s : RS} (w : World) (hR : (RdYP 5 96 r A0 n0 c0 Y s).p w) (hs : s.2 = 0) {fo : FuncId} {fno : Func} {pre cap : Array Value} {lo : List Value} (hfo : Tryd.prog.funcs[fo]? = some fno) (hbo : fno.body.isNone = false) (hno : (fno.name == "runtime.NumGoroutine") = false) (hlo : pre.toList ++ cap.toList = lo) {k : Int} (hk : k ≠ 0) (hone : ∀ W, Fr (RdT r A0 n0 c0) w W → (RdYP 5 96 r A0 n0 c0 Y s).p W → Calls Tryd.prog fo lo.toArray W (Pan (why k) (fun w' => (∃ s', (RdYP 5 96 r A0 n0 c0 Y s').p w') ∧ Fr (RdT r A0 n0 c0) W w'))) : Calls Tryd.prog 87 [.pointer (some ⟨r, 0, none⟩), .func (.func fo) pre cap].toArray w (Ret (fun v' w' => v' = (.slice none 0 0) ∧ (RdYP 5 96 r A0 n0 c0 Y ([], k)).p w' ∧ Fr (RdT r A0 n0 c0) w w')) := by
  have hne := RdB.ne hR
  obtain ⟨A, c, o, ys, hY, hL, hH, hn0, hc0, H0⟩ := RdB.two hR
  refine k_enterD (l := [_, _]) Tryd.func87 rfl rfl ?_
  have H := H0
  refine k_seq ?_
  refine k_region ?_
  refine s_eff (e_box (vs := [.pointer (some ⟨r, 0, none⟩)]) (w_none rfl) rfl rfl rfl rfl H ?_)
  clear H; intro g0 W H
  refine s_eff (e_alloc (w_none rfl) rfl rfl [.slice none 0 0] tz23 H ?_)
  clear H; intro g2 W H
  refine l_nil ?_
  refine k_seq ?_
  refine k_region ?_
  refine s_run (w_none rfl) rfl (d_mkf rfl rfl rfl) ?_
  refine s_eff (e_defer (w_none rfl) rfl rfl rfl ?_)
  refine l_nil ?_
  refine k_seq ?_
  refine k_drawP 6 [(0, true), (1, true), (2, true), (3, true), (4, true), (5, true), (6, true), (7, true), (8, true), (9, false)] _ (by kernel_rfl) (by kernel_rfl) (by kernel_rfl) H (.refl _) ?_
  clear H; intro W H
  refine c_run rfl (w_none rfl) rfl (fun W H => d_ld rfl H rfl ta27 rfl) ?_
  refine c_run rfl (w_none rfl) rfl (fun W H => d_nil rfl rfl) ?_
  refine c_run rfl (w_none rfl) rfl (fun W H => d_fa rfl rfl tf96_1) ?_
  refine c_run rfl (w_none rfl) rfl (fun W H => d_ld rfl H rfl ta30 rfl) ?_
  refine c_run rfl (w_none rfl) rfl (fun W H => d_eq rfl rfl rfl) ?_
  refine c_run rfl (w_none rfl) rfl (fun W H => d_ld rfl H rfl ta27 rfl) ?_
  refine c_run rfl (w_none rfl) rfl (fun W H => d_nil rfl rfl) ?_
  refine c_run rfl (w_none rfl) rfl (fun W H => d_fa rfl rfl tf96_1) ?_
  refine c_run rfl (w_none rfl) rfl (fun W H => d_ld rfl H rfl ta30 rfl) ?_
  refine c_eff rfl (e_call (w_none rfl) rfl rfl Tryd.func99 rfl rfl rfl (mustOk _ _ (by simpa using hs)) ?_)
  rintro _ W ⟨rfl, hb⟩
  replace H := H.below hb
  clear hb
  refine ⟨H.sub (by repeat (first | exact List.Sublist.refl _ | refine List.Sublist.cons_cons _ ?_ | refine List.Sublist.cons _ ?_)), ?_⟩
  refine c_nilP ?_
  replace H := RdB.close2 hY H hL
  refine k_seq ?_
  refine k_region ?_
  refine s_run (w_none rfl) rfl (mv_f rfl rfl) ?_
  refine s_eff (e_callvP (w_none rfl) rfl rfl hfo hbo hno (by simpa using hlo) (hone W H.fr (H.get (f := RdYP 5 96 r A0 n0 c0 Y s))) ?_)
  rintro W ⟨⟨s', hp⟩, hf⟩
  replace H := H.mut (f := RdYP 5 96 r A0 n0 c0 Y s) (f' := RdYP 5 96 r A0 n0 c0 Y s') hf hp (fun _ h => h)
  have hap := List.pairwise_cons.1 H.apart
  have hap2 := List.pairwise_cons.1 hap.2
  have hT2 : ¬ RdT r A0 n0 c0 g2 := fun h => hap.1 _ (.head _) g2 h rfl
  have hT0 : ¬ RdT r A0 n0 c0 g0 := fun h => hap.1 _ (.tail _ (.head _)) g0 h rfl
  have h02 : ¬ g0 = g2 := fun h => hap2.1 _ (.head _) g2 rfl h.symm
  have hge : w.heap.size ≤ g2 := (H.own _ (.tail _ (.head _)) g2 rfl).1.resolve_left hT2
  exact q_dpan (g := g2) rfl rfl (by rw [st_getD]; rfl) Tryd.func106 rfl rfl rfl (recPBlob W (H.get (f := RdYP 5 96 r A0 n0 c0 Y s')) hk (gat_of (H.blk (g := g0))) hT0 h02 (H.blk (g := g2)) rfl hT2) (fun W2 h => ⟨_, loads1 ta23 h.2.1, ⟨_, rfl, rfl, h.1, H.fr.trans h.2.2 (fun g hg hh => hh.elim (fun e => absurd hge (by omega)) id)⟩⟩)

theorem rdOkBlob {A0 : Option Addr} {n0 c0 r : Nat} {Y : List UInt8 → Prop} {s s1 : RS} (w : World) (hR : (RdYP 5 96 r A0 n0 c0 Y s).p w) (hs : s.2 = 0) {fo : FuncId} {fno : Func} {pre cap : Array Value} {lo : List Value} (hfo : Tryd.prog.funcs[fo]? = some fno) (hbo : fno.body.isNone = false) (hno : (fno.name == "runtime.NumGoroutine") = false) (hlo : pre.toList ++ cap.toList = lo) {l : List UInt8} (hone : ∀ W, Fr (RdT r A0 n0 c0) w W → (RdYP 5 96 r A0 n0 c0 Y s).p W → Calls Tryd.prog fo lo.toArray W (Ret (fun v' w' => (RdYB 5 96 r A0 n0 c0 Y v' l s1).p w' ∧ Fr (RdT r A0 n0 c0) W w'))) : Calls Tryd.prog 87 [.pointer (some ⟨r, 0, none⟩), .func (.func fo) pre cap].toArray w (Ret (fun v' w' => (RdYB 5 96 r A0 n0 c0 Y v' l s1).p w' ∧ Fr (RdT r A0 n0 c0) w w')) := by
  have hne := RdB.ne hR
  obtain ⟨A, c, o, ys, hY, hL, hH, hn0, hc0, H0⟩ := RdB.two hR
  refine k_enterD (l := [_, _]) Tryd.func87 rfl rfl ?_
  have H := H0
  refine k_seq ?_
  refine k_region ?_
  refine s_eff (e_box (vs := [.pointer (some ⟨r, 0, none⟩)]) (w_none rfl) rfl rfl rfl rfl H ?_)
  clear H; intro g0 W H
  refine s_eff (e_alloc (w_none rfl) rfl rfl [.slice none 0 0] tz23 H ?_)
  clear H; intro g2 W H
  refine l_nil ?_
  refine k_seq ?_
  refine k_region ?_
  refine s_run (w_none rfl) rfl (d_mkf rfl rfl rfl) ?_
  refine s_eff (e_defer (w_none rfl) rfl rfl rfl ?_)
  refine l_nil ?_
  refine k_seq ?_
  refine k_drawP 6 [(0, true), (1, true), (2, true), (3, true), (4, true), (5, true), (6, true), (7, true), (8, true), (9, false)] _ (by kernel_rfl) (by kernel_rfl) (by kernel_rfl) H (.refl _) ?_
  clear H; intro W H
  refine c_run rfl (w_none rfl) rfl (fun W H => d_ld rfl H rfl ta27 rfl) ?_
  refine c_run rfl (w_none rfl) rfl (fun W H => d_nil rfl rfl) ?_
  refine c_run rfl (w_none rfl) rfl (fun W H => d_fa rfl rfl tf96_1) ?_
  refine c_run rfl (w_none rfl) rfl (fun W H => d_ld rfl H rfl ta30 rfl) ?_
  refine c_run rfl (w_none rfl) rfl (fun W H => d_eq rfl rfl rfl) ?_
  refine c_run rfl (w_none rfl) rfl (fun W H => d_ld rfl H rfl ta27 rfl) ?_
  refine c_run rfl (w_none rfl) rfl (fun W H => d_nil rfl rfl) ?_
  refine c_run rfl (w_none rfl) rfl (fun W H => d_fa rfl rfl tf96_1) ?_
  refine c_run rfl (w_none rfl) rfl (fun W H => d_ld rfl H rfl ta30 rfl) ?_
  refine c_eff rfl (e_call (w_none rfl) rfl rfl Tryd.func99 rfl rfl rfl (mustOk _ _ (by simpa using hs)) ?_)
  rintro _ W ⟨rfl, hb⟩
  replace H := H.below hb
  clear hb
  refine ⟨H.sub (by repeat (first | exact List.Sublist.refl _ | refine List.Sublist.cons_cons _ ?_ | refine List.Sublist.cons _ ?_)), ?_⟩
  refine c_nilP ?_
  replace H := RdB.close2 hY H hL
  refine k_seq ?_
  refine k_region ?_
  refine s_run (w_none rfl) rfl (mv_f rfl rfl) ?_
  refine s_eff (e_callv (w_none rfl) rfl rfl rfl hfo hbo hno (by simpa using hlo) (hone W H.fr (H.get (f := RdYP 5 96 r A0 n0 c0 Y s))) ?_)
  rintro _ W ⟨hp, hf⟩
  obtain ⟨B1, d1, rfl⟩ := RdB.form hp
  replace H := H.mut (f := RdYP 5 96 r A0 n0 c0 Y s) (f' := RdYB 5 96 r A0 n0 c0 Y (.slice B1 l.length d1) l s1) hf hp (fun _ h => h)
  clear hp hf
  refine s_eff (e_sto (w_none rfl) rfl rfl rfl rfl rfl ts23 rfl H rfl ?_)
  clear H; intro W H
  refine l_nil ?_
  refine k_ret ?_
  repeat (first | refine r_then ?_ | refine r_blk ?_)
  exact q_dret (g := g2) rfl rfl Tryd.func106 rfl rfl rfl (recBlob W (gat_of (H.blk (g := g0)))) (fun W2 hb => by
    replace H := H.below hb
    exact ⟨_, loads1 ta23 (H.blk (g := g2)), ⟨_, rfl, H.get (f := RdYB 5 96 r A0 n0 c0 Y (.slice B1 l.length d1) l s1), H.fr⟩⟩)
end Go.Proofs.YtejaohlijaodjaaDoor
