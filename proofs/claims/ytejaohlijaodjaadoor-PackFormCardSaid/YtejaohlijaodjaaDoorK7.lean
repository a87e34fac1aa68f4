/- The program reads, and recovers: chapter 3. -/
import Derived.Test.YtejaohlijaodjaaDoorK6
namespace Go.Proofs.YtejaohlijaodjaaDoor
open Go Go.RowKit
attribute [local irreducible] wpList

theorem tu20 : Tryd.prog.underlying 20 = some (.interface #[]) := by kernel_rfl
theorem ti20 : Tryd.prog.isIface 20 = true := by kernel_rfl
theorem tn125 : (Tryd.prog.underlying 125).map (fun d => match d with | .interface _ => false | _ => true) = some true := by kernel_rfl
theorem recInt {gb go : Nat} {y : Value} (w : World) (hgb : Gat w gb [y]) : CallsD Tryd.prog 98 [.pointer (some ⟨gb, 0, none⟩), .pointer (some ⟨go, 0, none⟩)].toArray .returning w (fun e u' w' => (∃ v, e = .returned v) ∧ u' = .returning ∧ Below w.heap.size w w') := by
  refine k_enterR (l := [_, _]) (z := .nilIface) (u' := .returning) Tryd.func98 rfl rfl rfl rfl rfl rfl rfl rfl rfl rec_ret ?_
  have H := St.start nT w
  refine k_seq ?_
  refine k_region ?_
  refine s_run (w_none rfl) rfl (mv_ni rfl rfl) ?_
  refine s_run (w_none rfl) rfl (d_nenn rfl rfl rfl rfl tu20) ?_
  refine l_nil ?_
  refine k_condF rfl (by first | (simp; done) | (simp; omega)) ?_
  refine k_skip ?_
  refine k_nil ?_
  exact q_end0 rfl ⟨⟨_, rfl⟩, rfl, H.under⟩

theorem recPInt {A0 : Option Addr} {n0 c0 r : Nat} {Y : List UInt8 → Prop} {s : RS} {gb go : Nat} {k : Int} {old : List Value} (w : World) (hR : (RdYP 5 96 r A0 n0 c0 Y s).p w) (hk : k ≠ 0) (hgb : Gat w gb [.pointer (some ⟨r, 0, none⟩)]) (hTb : ¬ RdT r A0 n0 c0 gb) (hbo : ¬ gb = go) (ho : w.heap[go]? = some (.cells old.toArray 3 (0, 0))) (hlo : old.length = 1) (hTo : ¬ RdT r A0 n0 c0 go) :
    CallsD Tryd.prog 98 [.pointer (some ⟨gb, 0, none⟩), .pointer (some ⟨go, 0, none⟩)].toArray (.panicking [{ v := why k, recovered := false }]) w (fun e u' w' => (∃ v, e = .returned v) ∧ u' = .panicking [{ v := why k, recovered := true }] ∧ (RdYP 5 96 r A0 n0 c0 Y ([], k)).p w' ∧ w'.heap[go]? = some (.cells ([.int .i64 0]).toArray 3 (0, 0)) ∧ Fr (fun g => g = go ∨ RdT r A0 n0 c0 g) w w') := by
  have hTb2 : ¬ (fun g => g = go ∨ RdT r A0 n0 c0 g) gb := fun h => h.elim hbo hTb
  have hne := RdB.ne hR
  obtain ⟨A, c, o, ys, hY, hL, hH, hn0, hc0, H0⟩ := RdB.two hR
  have H1 := H0.old (f := Fact.blk go old 3) ho (fun g hg => by cases hg; exact blk_lt ho) (fun x hx g hg hxg => by
    cases hg
    simp only [List.mem_cons, List.not_mem_nil, or_false] at hx
    rcases hx with rfl | rfl
    · exact hTo (.inl hxg)
    · exact hTo (.inr hxg))
  refine k_enterR (l := [_, _]) (z := why k) (u' := .panicking [{ v := why k, recovered := true }]) Tryd.func98 rfl rfl rfl rfl rfl rfl rfl rfl rfl rec_pan ?_
  have H := H1
  refine k_seq ?_
  refine k_region ?_
  refine s_run (w_none rfl) rfl (mv_if rfl rfl) ?_
  refine s_run (w_none rfl) rfl (d_neni rfl rfl rfl ti20) ?_
  refine l_nil ?_
  refine k_condT rfl (by first | (simp; done) | (simp; omega)) ?_
  refine k_seq ?_
  refine k_region ?_
  refine s_run (w_none rfl) rfl (mv_if rfl rfl) ?_
  refine s_run (w_none rfl) rfl (d_assertB rfl rfl tn125) ?_
  refine s_run (w_none rfl) rfl (mv_t rfl rfl) ?_
  refine s_run (w_none rfl) rfl (d_extract rfl rfl rfl) ?_
  refine s_run (w_none rfl) rfl (d_extract rfl rfl rfl) ?_
  refine s_eff (e_alloc (w_none rfl) rfl rfl [.int .i64 0] tz125 H ?_)
  clear H; intro g3 W H
  refine s_eff (e_sto (w_none rfl) rfl rfl rfl rfl rfl ts125 rfl H rfl ?_)
  clear H; intro W H
  refine s_run (w_none rfl) rfl (as_b rfl rfl) ?_
  refine l_nil ?_
  refine k_seq ?_
  refine k_seq ?_
  refine k_region ?_
  refine s_run (w_none rfl) rfl (mv_b rfl rfl) ?_
  refine s_run (w_none rfl) rfl (d_not rfl rfl) ?_
  refine l_nil ?_
  refine k_condF rfl (by first | (simp; done) | (simp; omega)) ?_
  refine k_skip ?_
  refine k_seq ?_
  refine k_region ?_
  refine s_run (w_none rfl) rfl (as_i rfl rfl) ?_
  refine l_nil ?_
  refine k_region ?_
  refine s_run (w_none rfl) rfl (d_ldG rfl ((H.gatT hgb hTb2)) rfl ta27 rfl) ?_
  refine s_run (w_none rfl) rfl (d_ldG rfl ((H.gatT hgb hTb2)) rfl ta27 rfl) ?_
  refine s_run (w_none rfl) rfl (d_fa rfl rfl tf125_0) ?_
  refine s_run (w_none rfl) rfl (d_ld rfl H rfl ta30 rfl) ?_
  refine s_run (w_none rfl) rfl (mv_i rfl rfl) ?_
  refine s_run (w_none rfl) rfl (d_nil rfl rfl) ?_
  refine s_run (w_none rfl) rfl (d_fa rfl rfl tf96_1) ?_
  refine s_eff (e_sto (w_none rfl) rfl rfl rfl rfl rfl ts30 rfl H rfl ?_)
  clear H; intro W H
  refine s_run (w_none rfl) rfl (d_nil rfl rfl) ?_
  refine s_run (w_none rfl) rfl (d_fa rfl rfl tf96_0) ?_
  refine s_eff (e_sto (w_none rfl) rfl rfl rfl rfl rfl ts23 rfl H rfl ?_)
  clear H; intro W H
  refine s_eff (e_stoK ([.int .i64 0]) (w_none rfl) rfl rfl rfl rfl rfl ts3 rfl rfl H (by rw [hlo]; exact Nat.le_refl _) (spl_all (by rw [hlo]; rfl)) ?_)
  clear H; intro W H
  refine l_nil ?_
  refine k_nil ?_
  exact q_end0 rfl ⟨⟨_, rfl⟩, rfl, RdB.of (s := ([], k)) (o := o) (ys := ys) hY H hne rfl rfl (hL.bad hk) held_nil, H.get (f := Fact.blk go [.int .i64 0] 3), H.fr⟩

theorem recHash {gb go : Nat} {y : Value} (w : World) (hgb : Gat w gb [y]) : CallsD Tryd.prog 104 [.pointer (some ⟨gb, 0, none⟩), .pointer (some ⟨go, 0, none⟩)].toArray .returning w (fun e u' w' => (∃ v, e = .returned v) ∧ u' = .returning ∧ Below w.heap.size w w') := by
  refine k_enterR (l := [_, _]) (z := .nilIface) (u' := .returning) Tryd.func104 rfl rfl rfl rfl rfl rfl rfl rfl rfl rec_ret ?_
  have H := St.start nT w
  refine k_seq ?_
  refine k_region ?_
  refine s_run (w_none rfl) rfl (mv_ni rfl rfl) ?_
  refine s_run (w_none rfl) rfl (d_nenn rfl rfl rfl rfl tu20) ?_
  refine l_nil ?_
  refine k_condF rfl (by first | (simp; done) | (simp; omega)) ?_
  refine k_skip ?_
  refine k_nil ?_
  exact q_end0 rfl ⟨⟨_, rfl⟩, rfl, H.under⟩

theorem recPHash {A0 : Option Addr} {n0 c0 r : Nat} {Y : List UInt8 → Prop} {s : RS} {gb go : Nat} {k : Int} {old : List Value} (w : World) (hR : (RdYP 5 96 r A0 n0 c0 Y s).p w) (hk : k ≠ 0) (hgb : Gat w gb [.pointer (some ⟨r, 0, none⟩)]) (hTb : ¬ RdT r A0 n0 c0 gb) (hbo : ¬ gb = go) (ho : w.heap[go]? = some (.cells old.toArray 36 (0, 0))) (hlo : old.length = 32) (hTo : ¬ RdT r A0 n0 c0 go) :
    CallsD Tryd.prog 104 [.pointer (some ⟨gb, 0, none⟩), .pointer (some ⟨go, 0, none⟩)].toArray (.panicking [{ v := why k, recovered := false }]) w (fun e u' w' => (∃ v, e = .returned v) ∧ u' = .panicking [{ v := why k, recovered := true }] ∧ (RdYP 5 96 r A0 n0 c0 Y ([], k)).p w' ∧ w'.heap[go]? = some (.cells ((List.replicate 32 (u8v 0))).toArray 36 (0, 0)) ∧ Fr (fun g => g = go ∨ RdT r A0 n0 c0 g) w w') := by
  have hTb2 : ¬ (fun g => g = go ∨ RdT r A0 n0 c0 g) gb := fun h => h.elim hbo hTb
  have hne := RdB.ne hR
  obtain ⟨A, c, o, ys, hY, hL, hH, hn0, hc0, H0⟩ := RdB.two hR
  have H1 := H0.old (f := Fact.blk go old 36) ho (fun g hg => by cases hg; exact blk_lt ho) (fun x hx g hg hxg => by
    cases hg
    simp only [List.mem_cons, List.not_mem_nil, or_false] at hx
    rcases hx with rfl | rfl
    · exact hTo (.inl hxg)
    · exact hTo (.inr hxg))
  refine k_enterR (l := [_, _]) (z := why k) (u' := .panicking [{ v := why k, recovered := true }]) Tryd.func104 rfl rfl rfl rfl rfl rfl rfl rfl rfl rec_pan ?_
  have H := H1
  refine k_seq ?_
  refine k_region ?_
  refine s_run (w_none rfl) rfl (mv_if rfl rfl) ?_
  refine s_run (w_none rfl) rfl (d_neni rfl rfl rfl ti20) ?_
  refine l_nil ?_
  refine k_condT rfl (by first | (simp; done) | (simp; omega)) ?_
  refine k_seq ?_
  refine k_region ?_
  refine s_run (w_none rfl) rfl (mv_if rfl rfl) ?_
  refine s_run (w_none rfl) rfl (d_assertB rfl rfl tn125) ?_
  refine s_run (w_none rfl) rfl (mv_t rfl rfl) ?_
  refine s_run (w_none rfl) rfl (d_extract rfl rfl rfl) ?_
  refine s_run (w_none rfl) rfl (d_extract rfl rfl rfl) ?_
  refine s_eff (e_alloc (w_none rfl) rfl rfl [.int .i64 0] tz125 H ?_)
  clear H; intro g3 W H
  refine s_eff (e_sto (w_none rfl) rfl rfl rfl rfl rfl ts125 rfl H rfl ?_)
  clear H; intro W H
  refine s_run (w_none rfl) rfl (as_b rfl rfl) ?_
  refine l_nil ?_
  refine k_seq ?_
  refine k_seq ?_
  refine k_region ?_
  refine s_run (w_none rfl) rfl (mv_b rfl rfl) ?_
  refine s_run (w_none rfl) rfl (d_not rfl rfl) ?_
  refine l_nil ?_
  refine k_condF rfl (by first | (simp; done) | (simp; omega)) ?_
  refine k_skip ?_
  refine k_seq ?_
  refine k_region ?_
  refine s_eff (e_alloc (w_none rfl) rfl rfl (List.replicate 32 (u8v 0)) tz36 H ?_)
  clear H; intro g5 W H
  refine l_nil ?_
  refine k_draw [(0, true), (1, true), (2, true), (3, true), (4, true), (5, true), (6, true), (7, false), (8, true), (9, true), (10, false), (11, false)] [Fact.blk g5 (List.replicate 32 (u8v 0)) 36, Fact.blk g3 [.int .i64 k] 125] (by kernel_rfl) (by kernel_rfl) H (by repeat (first | exact List.Sublist.refl _ | exact List.nil_sublist _ | refine List.Sublist.cons_cons _ ?_ | refine List.Sublist.cons _ ?_)) ?_
  clear H; intro W H
  refine c_run rfl (w_none rfl) rfl (fun W H => d_ldG rfl ((H.gatT hgb hTb2)) rfl ta27 rfl) ?_
  refine c_run rfl (w_none rfl) rfl (fun W H => d_ldG rfl ((H.gatT hgb hTb2)) rfl ta27 rfl) ?_
  refine c_run rfl (w_none rfl) rfl (fun W H => d_fa rfl rfl tf125_0) ?_
  refine c_run rfl (w_none rfl) rfl (fun W H => d_ld rfl H rfl ta30 rfl) ?_
  refine c_run rfl (w_none rfl) rfl (fun W H => d_ldm0 rfl H rfl ta36 ts36 (by rw [List.length_replicate])) ?_
  refine c_run rfl (w_none rfl) rfl (fun W H => d_nil rfl rfl) ?_
  refine c_run rfl (w_none rfl) rfl (fun W H => d_fa rfl rfl tf96_1) ?_
  refine c_eff rfl (e_sto (w_none rfl) rfl rfl rfl rfl rfl ts30 rfl H rfl ?_)
  clear H; intro W H
  refine ⟨H.sub (by repeat (first | exact List.Sublist.refl _ | refine List.Sublist.cons_cons _ ?_ | refine List.Sublist.cons _ ?_)), ?_⟩
  refine c_run rfl (w_none rfl) rfl (fun W H => d_nil rfl rfl) ?_
  refine c_run rfl (w_none rfl) rfl (fun W H => d_fa rfl rfl tf96_0) ?_
  refine c_eff rfl (e_sto (w_none rfl) rfl rfl rfl rfl rfl ts23 rfl H rfl ?_)
  clear H; intro W H
  refine ⟨H.sub (by repeat (first | exact List.Sublist.refl _ | refine List.Sublist.cons_cons _ ?_ | refine List.Sublist.cons _ ?_)), ?_⟩
  refine c_eff rfl (e_stoK ((List.replicate 32 (u8v 0))) (w_none rfl) rfl rfl rfl rfl rfl ts36 (by rw [List.length_replicate]) (by rw [List.all_replicate]; rfl) H (by rw [hlo]; simp) (spl_all (by rw [hlo]; simp)) ?_)
  clear H; intro W H
  refine ⟨H.sub (by repeat (first | exact List.Sublist.refl _ | refine List.Sublist.cons_cons _ ?_ | refine List.Sublist.cons _ ?_)), ?_⟩
  refine c_nil ?_
  refine k_nil ?_
  exact q_end0 rfl ⟨⟨_, rfl⟩, rfl, RdB.of (s := ([], k)) (o := o) (ys := ys) hY H hne rfl rfl (hL.bad hk) held_nil, H.get (f := Fact.blk go (List.replicate 32 (u8v 0)) 36), H.fr⟩

theorem recTag {gb go : Nat} {y : Value} (w : World) (hgb : Gat w gb [y]) : CallsD Tryd.prog 105 [.pointer (some ⟨gb, 0, none⟩), .pointer (some ⟨go, 0, none⟩)].toArray .returning w (fun e u' w' => (∃ v, e = .returned v) ∧ u' = .returning ∧ Below w.heap.size w w') := by
  refine k_enterR (l := [_, _]) (z := .nilIface) (u' := .returning) Tryd.func105 rfl rfl rfl rfl rfl rfl rfl rfl rfl rec_ret ?_
  have H := St.start nT w
  refine k_seq ?_
  refine k_region ?_
  refine s_run (w_none rfl) rfl (mv_ni rfl rfl) ?_
  refine s_run (w_none rfl) rfl (d_nenn rfl rfl rfl rfl tu20) ?_
  refine l_nil ?_
  refine k_condF rfl (by first | (simp; done) | (simp; omega)) ?_
  refine k_skip ?_
  refine k_nil ?_
  exact q_end0 rfl ⟨⟨_, rfl⟩, rfl, H.under⟩

theorem recPTag {A0 : Option Addr} {n0 c0 r : Nat} {Y : List UInt8 → Prop} {s : RS} {gb go : Nat} {k : Int} {old : List Value} (w : World) (hR : (RdYP 5 96 r A0 n0 c0 Y s).p w) (hk : k ≠ 0) (hgb : Gat w gb [.pointer (some ⟨r, 0, none⟩)]) (hTb : ¬ RdT r A0 n0 c0 gb) (hbo : ¬ gb = go) (ho : w.heap[go]? = some (.cells old.toArray 38 (0, 0))) (hlo : old.length = 16) (hTo : ¬ RdT r A0 n0 c0 go) :
    CallsD Tryd.prog 105 [.pointer (some ⟨gb, 0, none⟩), .pointer (some ⟨go, 0, none⟩)].toArray (.panicking [{ v := why k, recovered := false }]) w (fun e u' w' => (∃ v, e = .returned v) ∧ u' = .panicking [{ v := why k, recovered := true }] ∧ (RdYP 5 96 r A0 n0 c0 Y ([], k)).p w' ∧ w'.heap[go]? = some (.cells ((List.replicate 16 (u8v 0))).toArray 38 (0, 0)) ∧ Fr (fun g => g = go ∨ RdT r A0 n0 c0 g) w w') := by
  have hTb2 : ¬ (fun g => g = go ∨ RdT r A0 n0 c0 g) gb := fun h => h.elim hbo hTb
  have hne := RdB.ne hR
  obtain ⟨A, c, o, ys, hY, hL, hH, hn0, hc0, H0⟩ := RdB.two hR
  have H1 := H0.old (f := Fact.blk go old 38) ho (fun g hg => by cases hg; exact blk_lt ho) (fun x hx g hg hxg => by
    cases hg
    simp only [List.mem_cons, List.not_mem_nil, or_false] at hx
    rcases hx with rfl | rfl
    · exact hTo (.inl hxg)
    · exact hTo (.inr hxg))
  refine k_enterR (l := [_, _]) (z := why k) (u' := .panicking [{ v := why k, recovered := true }]) Tryd.func105 rfl rfl rfl rfl rfl rfl rfl rfl rfl rec_pan ?_
  have H := H1
  refine k_seq ?_
  refine k_region ?_
  refine s_run (w_none rfl) rfl (mv_if rfl rfl) ?_
  refine s_run (w_none rfl) rfl (d_neni rfl rfl rfl ti20) ?_
  refine l_nil ?_
  refine k_condT rfl (by first | (simp; done) | (simp; omega)) ?_
  refine k_seq ?_
  refine k_region ?_
  refine s_run (w_none rfl) rfl (mv_if rfl rfl) ?_
  refine s_run (w_none rfl) rfl (d_assertB rfl rfl tn125) ?_
  refine s_run (w_none rfl) rfl (mv_t rfl rfl) ?_
  refine s_run (w_none rfl) rfl (d_extract rfl rfl rfl) ?_
  refine s_run (w_none rfl) rfl (d_extract rfl rfl rfl) ?_
  refine s_eff (e_alloc (w_none rfl) rfl rfl [.int .i64 0] tz125 H ?_)
  clear H; intro g3 W H
  refine s_eff (e_sto (w_none rfl) rfl rfl rfl rfl rfl ts125 rfl H rfl ?_)
  clear H; intro W H
  refine s_run (w_none rfl) rfl (as_b rfl rfl) ?_
  refine l_nil ?_
  refine k_seq ?_
  refine k_seq ?_
  refine k_region ?_
  refine s_run (w_none rfl) rfl (mv_b rfl rfl) ?_
  refine s_run (w_none rfl) rfl (d_not rfl rfl) ?_
  refine l_nil ?_
  refine k_condF rfl (by first | (simp; done) | (simp; omega)) ?_
  refine k_skip ?_
  refine k_seq ?_
  refine k_region ?_
  refine s_eff (e_alloc (w_none rfl) rfl rfl (List.replicate 16 (u8v 0)) tz38 H ?_)
  clear H; intro g5 W H
  refine l_nil ?_
  refine k_draw [(0, true), (1, true), (2, true), (3, true), (4, true), (5, true), (6, true), (7, false), (8, true), (9, true), (10, false), (11, false)] [Fact.blk g5 (List.replicate 16 (u8v 0)) 38, Fact.blk g3 [.int .i64 k] 125] (by kernel_rfl) (by kernel_rfl) H (by repeat (first | exact List.Sublist.refl _ | exact List.nil_sublist _ | refine List.Sublist.cons_cons _ ?_ | refine List.Sublist.cons _ ?_)) ?_
  clear H; intro W H
  refine c_run rfl (w_none rfl) rfl (fun W H => d_ldG rfl ((H.gatT hgb hTb2)) rfl ta27 rfl) ?_
  refine c_run rfl (w_none rfl) rfl (fun W H => d_ldG rfl ((H.gatT hgb hTb2)) rfl ta27 rfl) ?_
  refine c_run rfl (w_none rfl) rfl (fun W H => d_fa rfl rfl tf125_0) ?_
  refine c_run rfl (w_none rfl) rfl (fun W H => d_ld rfl H rfl ta30 rfl) ?_
  refine c_run rfl (w_none rfl) rfl (fun W H => d_ldm0 rfl H rfl ta38 ts38 (by rw [List.length_replicate])) ?_
  refine c_run rfl (w_none rfl) rfl (fun W H => d_nil rfl rfl) ?_
  refine c_run rfl (w_none rfl) rfl (fun W H => d_fa rfl rfl tf96_1) ?_
  refine c_eff rfl (e_sto (w_none rfl) rfl rfl rfl rfl rfl ts30 rfl H rfl ?_)
  clear H; intro W H
  refine ⟨H.sub (by repeat (first | exact List.Sublist.refl _ | refine List.Sublist.cons_cons _ ?_ | refine List.Sublist.cons _ ?_)), ?_⟩
  refine c_run rfl (w_none rfl) rfl (fun W H => d_nil rfl rfl) ?_
  refine c_run rfl (w_none rfl) rfl (fun W H => d_fa rfl rfl tf96_0) ?_
  refine c_eff rfl (e_sto (w_none rfl) rfl rfl rfl rfl rfl ts23 rfl H rfl ?_)
  clear H; intro W H
  refine ⟨H.sub (by repeat (first | exact List.Sublist.refl _ | refine List.Sublist.cons_cons _ ?_ | refine List.Sublist.cons _ ?_)), ?_⟩
  refine c_eff rfl (e_stoK ((List.replicate 16 (u8v 0))) (w_none rfl) rfl rfl rfl rfl rfl ts38 (by rw [List.length_replicate]) (by rw [List.all_replicate]; rfl) H (by rw [hlo]; simp) (spl_all (by rw [hlo]; simp)) ?_)
  clear H; intro W H
  refine ⟨H.sub (by repeat (first | exact List.Sublist.refl _ | refine List.Sublist.cons_cons _ ?_ | refine List.Sublist.cons _ ?_)), ?_⟩
  refine c_nil ?_
  refine k_nil ?_
  exact q_end0 rfl ⟨⟨_, rfl⟩, rfl, RdB.of (s := ([], k)) (o := o) (ys := ys) hY H hne rfl rfl (hL.bad hk) held_nil, H.get (f := Fact.blk go (List.replicate 16 (u8v 0)) 38), H.fr⟩

theorem recBlob {gb go : Nat} {y : Value} (w : World) (hgb : Gat w gb [y]) : CallsD Tryd.prog 106 [.pointer (some ⟨gb, 0, none⟩), .pointer (some ⟨go, 0, none⟩)].toArray .returning w (fun e u' w' => (∃ v, e = .returned v) ∧ u' = .returning ∧ Below w.heap.size w w') := by
  refine k_enterR (l := [_, _]) (z := .nilIface) (u' := .returning) Tryd.func106 rfl rfl rfl rfl rfl rfl rfl rfl rfl rec_ret ?_
  have H := St.start nT w
  refine k_seq ?_
  refine k_region ?_
  refine s_run (w_none rfl) rfl (mv_ni rfl rfl) ?_
  refine s_run (w_none rfl) rfl (d_nenn rfl rfl rfl rfl tu20) ?_
  refine l_nil ?_
  refine k_condF rfl (by first | (simp; done) | (simp; omega)) ?_
  refine k_skip ?_
  refine k_nil ?_
  exact q_end0 rfl ⟨⟨_, rfl⟩, rfl, H.under⟩

theorem recPBlob {A0 : Option Addr} {n0 c0 r : Nat} {Y : List UInt8 → Prop} {s : RS} {gb go : Nat} {k : Int} {old : List Value} (w : World) (hR : (RdYP 5 96 r A0 n0 c0 Y s).p w) (hk : k ≠ 0) (hgb : Gat w gb [.pointer (some ⟨r, 0, none⟩)]) (hTb : ¬ RdT r A0 n0 c0 gb) (hbo : ¬ gb = go) (ho : w.heap[go]? = some (.cells old.toArray 23 (0, 0))) (hlo : old.length = 1) (hTo : ¬ RdT r A0 n0 c0 go) :
    CallsD Tryd.prog 106 [.pointer (some ⟨gb, 0, none⟩), .pointer (some ⟨go, 0, none⟩)].toArray (.panicking [{ v := why k, recovered := false }]) w (fun e u' w' => (∃ v, e = .returned v) ∧ u' = .panicking [{ v := why k, recovered := true }] ∧ (RdYP 5 96 r A0 n0 c0 Y ([], k)).p w' ∧ w'.heap[go]? = some (.cells ([.slice none 0 0]).toArray 23 (0, 0)) ∧ Fr (fun g => g = go ∨ RdT r A0 n0 c0 g) w w') := by
  have hTb2 : ¬ (fun g => g = go ∨ RdT r A0 n0 c0 g) gb := fun h => h.elim hbo hTb
  have hne := RdB.ne hR
  obtain ⟨A, c, o, ys, hY, hL, hH, hn0, hc0, H0⟩ := RdB.two hR
  have H1 := H0.old (f := Fact.blk go old 23) ho (fun g hg => by cases hg; exact blk_lt ho) (fun x hx g hg hxg => by
    cases hg
    simp only [List.mem_cons, List.not_mem_nil, or_false] at hx
    rcases hx with rfl | rfl
    · exact hTo (.inl hxg)
    · exact hTo (.inr hxg))
  refine k_enterR (l := [_, _]) (z := why k) (u' := .panicking [{ v := why k, recovered := true }]) Tryd.func106 rfl rfl rfl rfl rfl rfl rfl rfl rfl rec_pan ?_
  have H := H1
  refine k_seq ?_
  refine k_region ?_
  refine s_run (w_none rfl) rfl (mv_if rfl rfl) ?_
  refine s_run (w_none rfl) rfl (d_neni rfl rfl rfl ti20) ?_
  refine l_nil ?_
  refine k_condT rfl (by first | (simp; done) | (simp; omega)) ?_
  refine k_seq ?_
  refine k_region ?_
  refine s_run (w_none rfl) rfl (mv_if rfl rfl) ?_
  refine s_run (w_none rfl) rfl (d_assertB rfl rfl tn125) ?_
  refine s_run (w_none rfl) rfl (mv_t rfl rfl) ?_
  refine s_run (w_none rfl) rfl (d_extract rfl rfl rfl) ?_
  refine s_run (w_none rfl) rfl (d_extract rfl rfl rfl) ?_
  refine s_eff (e_alloc (w_none rfl) rfl rfl [.int .i64 0] tz125 H ?_)
  clear H; intro g3 W H
  refine s_eff (e_sto (w_none rfl) rfl rfl rfl rfl rfl ts125 rfl H rfl ?_)
  clear H; intro W H
  refine s_run (w_none rfl) rfl (as_b rfl rfl) ?_
  refine l_nil ?_
  refine k_seq ?_
  refine k_seq ?_
  refine k_region ?_
  refine s_run (w_none rfl) rfl (mv_b rfl rfl) ?_
  refine s_run (w_none rfl) rfl (d_not rfl rfl) ?_
  refine l_nil ?_
  refine k_condF rfl (by first | (simp; done) | (simp; omega)) ?_
  refine k_skip ?_
  refine k_seq ?_
  refine k_region ?_
  refine s_run (w_none rfl) rfl (as_s rfl rfl) ?_
  refine l_nil ?_
  refine k_region ?_
  refine s_run (w_none rfl) rfl (d_ldG rfl ((H.gatT hgb hTb2)) rfl ta27 rfl) ?_
  refine s_run (w_none rfl) rfl (d_ldG rfl ((H.gatT hgb hTb2)) rfl ta27 rfl) ?_
  refine s_run (w_none rfl) rfl (d_fa rfl rfl tf125_0) ?_
  refine s_run (w_none rfl) rfl (d_ld rfl H rfl ta30 rfl) ?_
  refine s_run (w_none rfl) rfl (mv_s rfl rfl) ?_
  refine s_run (w_none rfl) rfl (d_nil rfl rfl) ?_
  refine s_run (w_none rfl) rfl (d_fa rfl rfl tf96_1) ?_
  refine s_eff (e_sto (w_none rfl) rfl rfl rfl rfl rfl ts30 rfl H rfl ?_)
  clear H; intro W H
  refine s_run (w_none rfl) rfl (d_nil rfl rfl) ?_
  refine s_run (w_none rfl) rfl (d_fa rfl rfl tf96_0) ?_
  refine s_eff (e_sto (w_none rfl) rfl rfl rfl rfl rfl ts23 rfl H rfl ?_)
  clear H; intro W H
  refine s_eff (e_stoK ([.slice none 0 0]) (w_none rfl) rfl rfl rfl rfl rfl ts23 rfl rfl H (by rw [hlo]; exact Nat.le_refl _) (spl_all (by rw [hlo]; rfl)) ?_)
  clear H; intro W H
  refine l_nil ?_
  refine k_nil ?_
  exact q_end0 rfl ⟨⟨_, rfl⟩, rfl, RdB.of (s := ([], k)) (o := o) (ys := ys) hY H hne rfl rfl (hL.bad hk) held_nil, H.get (f := Fact.blk go [.slice none 0 0] 23), H.fr⟩
end Go.Proofs.YtejaohlijaodjaaDoor
