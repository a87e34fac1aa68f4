/- The methods of the program's reader: chapter 3. -/
import Derived.Test.YtejaohlijaodjaaDoorK8
namespace Go.Proofs.YtejaohlijaodjaaDoor
open Go Go.RowKit
attribute [local irreducible] wpList

theorem oneHashP {A0 : Option Addr} {n0 c0 r : Nat} {Y : List UInt8 → Prop} {s : RS} {gb : Nat} (w : World) (hR : (RdYP 5 96 r A0 n0 c0 Y s).p w) (hgb : Gat w gb [.pointer (some ⟨r, 0, none⟩)]) (hTb : ¬ RdT r A0 n0 c0 gb) (he : s.2 = 0) (hn : (Pk.next 32 s).2.2 ≠ 0) : Calls Tryd.prog 81 [.pointer (some ⟨gb, 0, none⟩)].toArray w (Pan (why 4) (fun w' => (∃ s', (RdYP 5 96 r A0 n0 c0 Y s').p w') ∧ Fr (RdT r A0 n0 c0) w w')) := by
  refine k_enter (l := [_]) Tryd.func81 rfl rfl ?_
  have H := St.begin (f := RdYP 5 96 r A0 n0 c0 Y s) hR (RdB.lt hR)
  refine k_seq ?_
  refine k_region ?_
  refine s_eff (e_alloc (w_none rfl) rfl rfl [.int .u8 0, .int .u8 0, .int .u8 0, .int .u8 0, .int .u8 0, .int .u8 0, .int .u8 0, .int .u8 0, .int .u8 0, .int .u8 0, .int .u8 0, .int .u8 0, .int .u8 0, .int .u8 0, .int .u8 0, .int .u8 0, .int .u8 0, .int .u8 0, .int .u8 0, .int .u8 0, .int .u8 0, .int .u8 0, .int .u8 0, .int .u8 0, .int .u8 0, .int .u8 0, .int .u8 0, .int .u8 0, .int .u8 0, .int .u8 0, .int .u8 0, .int .u8 0] tz36 H ?_)
  clear H; intro g1 W H
  refine l_nil ?_
  refine k_seq ?_
  refine k_region ?_
  refine s_run (w_none rfl) rfl (d_ldG rfl ((H.gatT hgb hTb)) rfl ta27 rfl) ?_
  refine s_eff (e_callP (w_none rfl) rfl Tryd.func82 rfl rfl rfl (takeSE (l := (Pk.next 32 s).1) (s' := (Pk.next 32 s).2) _ (by rfl) (by rfl) (H.get (f := RdYP 5 96 r A0 n0 c0 Y s)) he hn) ?_)
  rintro W ⟨hp, hf⟩
  replace H := H.mut (f := RdYP 5 96 r A0 n0 c0 Y s) (f' := RdYP 5 96 r A0 n0 c0 Y s) hf hp (fun _ h => h)
  exact ⟨rfl, rfl, ⟨_, H.get (f := RdYP 5 96 r A0 n0 c0 Y s)⟩, H.fr⟩

theorem oneHash {A0 : Option Addr} {n0 c0 r : Nat} {Y : List UInt8 → Prop} {s : RS} {gb : Nat} (w : World) (hR : (RdYP 5 96 r A0 n0 c0 Y s).p w) (hgb : Gat w gb [.pointer (some ⟨r, 0, none⟩)]) (hTb : ¬ RdT r A0 n0 c0 gb) (he : s.2 = 0) (hn : (Pk.next 32 s).2.2 = 0) : Calls Tryd.prog 81 [.pointer (some ⟨gb, 0, none⟩)].toArray w (Ret (fun v' w' => v' = .agg ((Pk.next 32 s).1.map u8v).toArray ∧ (RdYP 5 96 r A0 n0 c0 Y (Pk.next 32 s).2).p w' ∧ Fr (RdT r A0 n0 c0) w w')) := by
  have hln : (Pk.next 32 s).1.length = 32 := (Pk.next_eq (n := 32) (s := s) rfl).1 hn
  refine k_enter (l := [_]) Tryd.func81 rfl rfl ?_
  have H := St.begin (f := RdYP 5 96 r A0 n0 c0 Y s) hR (RdB.lt hR)
  refine k_seq ?_
  refine k_region ?_
  refine s_eff (e_alloc (w_none rfl) rfl rfl (List.replicate 32 (u8v 0)) tz36 H ?_)
  clear H; intro g1 W H
  refine l_nil ?_
  refine k_seq ?_
  refine k_region ?_
  refine s_run (w_none rfl) rfl (d_ldG rfl ((H.gatT hgb hTb)) rfl ta27 rfl) ?_
  refine s_eff (e_call (w_none rfl) rfl rfl Tryd.func82 rfl rfl rfl (takeE (l := (Pk.next 32 s).1) (s' := (Pk.next 32 s).2) _ (by rfl) (by rfl) (H.get (f := RdYP 5 96 r A0 n0 c0 Y s)) he hn) ?_)
  rintro _ W ⟨hp1, hf1⟩
  obtain ⟨B1, d1, rfl⟩ := RdB.form hp1
  replace H := H.mut (f := RdYP 5 96 r A0 n0 c0 Y s) (f' := RdYB 5 96 r A0 n0 c0 Y (.slice B1 (List.length (Pk.next 32 s).1) d1) (Pk.next 32 s).1 (Pk.next 32 s).2) hf1 hp1 (fun _ h => h)
  clear hp1 hf1
  refine s_run (w_none rfl) rfl (d_s2a rfl rfl tu36 (by omega)) ?_
  refine s_run (w_none rfl) rfl (d_ldmA rfl (RdB.rd (H.get (f := RdYB 5 96 r A0 n0 c0 Y (.slice B1 (List.length (Pk.next 32 s).1) d1) (Pk.next 32 s).1 (Pk.next 32 s).2))) rfl ta36 (by rw [hln]; exact ts36) (by omega)) ?_
  refine s_eff (e_stoK ((Pk.next 32 s).1.map u8v) (w_none rfl) rfl rfl rfl rfl rfl ts36 (by rw [List.length_map, hln]) (all_u8L _) H (by simp) (spl_all (by rw [List.length_map, List.length_replicate, hln])) ?_)
  clear H; intro W H
  refine l_nil ?_
  refine k_ret ?_
  repeat (first | refine r_then ?_ | refine r_blk ?_)
  exact q_retc (g := g1) (t' := 36) rfl H rfl ta36 (by rw [List.length_map, hln]; exact ts36) ⟨_, rfl, rfl, RdB.toP (H.get (f := RdYB 5 96 r A0 n0 c0 Y (.slice B1 (List.length (Pk.next 32 s).1) d1) (Pk.next 32 s).1 (Pk.next 32 s).2)), H.fr⟩

theorem rdHash {A0 : Option Addr} {n0 c0 r : Nat} {Y : List UInt8 → Prop} {s : RS} {gb : Nat} (w : World) (hR : (RdYP 5 96 r A0 n0 c0 Y s).p w) (hgb : Gat w gb [.pointer (some ⟨r, 0, none⟩)]) (hTb : ¬ RdT r A0 n0 c0 gb) (hok : Pk.Ok s) : Calls Tryd.prog 80 [.pointer (some ⟨r, 0, none⟩), .func (.func 81) #[] [.pointer (some ⟨gb, 0, none⟩)].toArray].toArray w (Ret (fun v' w' => v' = .agg ((Pk.rBytes 32 s).1.map u8v).toArray ∧ (RdYP 5 96 r A0 n0 c0 Y (Pk.rBytes 32 s).2).p w' ∧ Fr (RdT r A0 n0 c0) w w')) := by
  by_cases he : s.2 = 0
  · by_cases hn : (Pk.next 32 s).2.2 = 0
    · have hln : (Pk.next 32 s).1.length = 32 := (Pk.next_eq (n := 32) (s := s) rfl).1 hn
      have e : (Pk.rBytes 32 s).1 = (Pk.next 32 s).1 := by unfold Pk.rBytes Pk.full; rw [hln]; simp
      rw [e]
      exact rdOkHash w hR he Tryd.func81 rfl rfl rfl hln (fun W hf hp => oneHash W hp (hgb.frT hf hTb) hTb he hn)
    · have h2 := (Pk.next_s (n := 32) (s := s) rfl he).2 hn
      have e : Pk.rBytes 32 s = (List.replicate 32 0, ([], 4)) := by unfold Pk.rBytes; rw [Pk.next_short he h2.1]; rfl
      rw [e, List.map_replicate]
      exact rdPanHash w hR he Tryd.func81 rfl rfl rfl (by decide) (fun W hf hp => oneHashP W hp (hgb.frT hf hTb) hTb he hn)
  · have e : Pk.rBytes 32 s = (List.replicate 32 0, ([], s.2)) := by unfold Pk.rBytes; rw [Pk.next_bad he, Pk.full]; simp only [List.nil_append, List.length_nil, Nat.sub_zero]; rw [← hok.1 he]
    rw [e, List.map_replicate]
    exact rdBadHash w hR he

theorem prgHash {A0 : Option Addr} {n0 c0 r : Nat} {Y : List UInt8 → Prop} {s : RS} (w : World) (hR : (RdYP 5 96 r A0 n0 c0 Y s).p w) (hok : Pk.Ok s) : Calls Tryd.prog 45 [.pointer (some ⟨r, 0, none⟩)].toArray w (Ret (fun v' w' => v' = .agg ((Pk.rBytes 32 s).1.map u8v).toArray ∧ (RdYP 5 96 r A0 n0 c0 Y (Pk.rBytes 32 s).2).p w' ∧ Fr (RdT r A0 n0 c0) w w')) := by
  have hlb : (Pk.rBytes 32 s).1.length = 32 := Pk.len_full Pk.next_len
  refine k_enter (l := [_]) Tryd.func45 rfl rfl ?_
  have H := St.begin (f := RdYP 5 96 r A0 n0 c0 Y s) hR (RdB.lt hR)
  refine k_seq ?_
  refine k_region ?_
  refine s_eff (e_box (vs := [.pointer (some ⟨r, 0, none⟩)]) (w_none rfl) rfl rfl rfl rfl H ?_)
  clear H; intro g0 W H
  refine s_eff (e_alloc (w_none rfl) rfl rfl (List.replicate 32 (u8v 0)) tz36 H ?_)
  clear H; intro g1 W H
  refine l_nil ?_
  refine k_seq ?_
  refine k_region ?_
  refine s_run (w_none rfl) rfl (d_ld rfl H rfl ta27 rfl) ?_
  refine s_run (w_none rfl) rfl (d_mkf rfl rfl rfl) ?_
  refine s_eff (e_call (w_none rfl) rfl rfl Tryd.func80 rfl rfl rfl (rdHash _ (H.get (f := RdYP 5 96 r A0 n0 c0 Y s)) (gat_of (H.blk (g := g0))) ((List.pairwise_cons.1 (List.pairwise_cons.1 H.apart).2).1 _ (.head _) g0 rfl) hok) ?_)
  rintro _ W ⟨rfl, hp, hf⟩
  replace H := H.mut (f := RdYP 5 96 r A0 n0 c0 Y s) (f' := RdYP 5 96 r A0 n0 c0 Y (Pk.rBytes 32 s).2) hf hp (fun _ h => h)
  clear hp hf
  refine s_eff (e_stoK ((Pk.rBytes 32 s).1.map u8v) (w_none rfl) rfl rfl rfl rfl rfl ts36 (by rw [List.length_map, hlb]) (all_u8L _) H (by simp) (spl_all (by rw [List.length_map, List.length_replicate, hlb])) ?_)
  clear H; intro W H
  refine l_nil ?_
  refine k_ret ?_
  repeat (first | refine r_then ?_ | refine r_blk ?_)
  exact q_retc (g := g1) (t' := 36) rfl H rfl ta36 (by rw [List.length_map, hlb]; exact ts36) ⟨_, rfl, rfl, H.get (f := RdYP 5 96 r A0 n0 c0 Y (Pk.rBytes 32 s).2), H.fr⟩

theorem oneTagP {A0 : Option Addr} {n0 c0 r : Nat} {Y : List UInt8 → Prop} {s : RS} {gb : Nat} (w : World) (hR : (RdYP 5 96 r A0 n0 c0 Y s).p w) (hgb : Gat w gb [.pointer (some ⟨r, 0, none⟩)]) (hTb : ¬ RdT r A0 n0 c0 gb) (he : s.2 = 0) (hn : (Pk.next 16 s).2.2 ≠ 0) : Calls Tryd.prog 84 [.pointer (some ⟨gb, 0, none⟩)].toArray w (Pan (why 4) (fun w' => (∃ s', (RdYP 5 96 r A0 n0 c0 Y s').p w') ∧ Fr (RdT r A0 n0 c0) w w')) := by
  refine k_enter (l := [_]) Tryd.func84 rfl rfl ?_
  have H := St.begin (f := RdYP 5 96 r A0 n0 c0 Y s) hR (RdB.lt hR)
  refine k_seq ?_
  refine k_region ?_
  refine s_eff (e_alloc (w_none rfl) rfl rfl [.int .u8 0, .int .u8 0, .int .u8 0, .int .u8 0, .int .u8 0, .int .u8 0, .int .u8 0, .int .u8 0, .int .u8 0, .int .u8 0, .int .u8 0, .int .u8 0, .int .u8 0, .int .u8 0, .int .u8 0, .int .u8 0] tz38 H ?_)
  clear H; intro g1 W H
  refine l_nil ?_
  refine k_seq ?_
  refine k_region ?_
  refine s_run (w_none rfl) rfl (d_ldG rfl ((H.gatT hgb hTb)) rfl ta27 rfl) ?_
  refine s_eff (e_callP (w_none rfl) rfl Tryd.func82 rfl rfl rfl (takeSE (l := (Pk.next 16 s).1) (s' := (Pk.next 16 s).2) _ (by rfl) (by rfl) (H.get (f := RdYP 5 96 r A0 n0 c0 Y s)) he hn) ?_)
  rintro W ⟨hp, hf⟩
  replace H := H.mut (f := RdYP 5 96 r A0 n0 c0 Y s) (f' := RdYP 5 96 r A0 n0 c0 Y s) hf hp (fun _ h => h)
  exact ⟨rfl, rfl, ⟨_, H.get (f := RdYP 5 96 r A0 n0 c0 Y s)⟩, H.fr⟩

theorem oneTag {A0 : Option Addr} {n0 c0 r : Nat} {Y : List UInt8 → Prop} {s : RS} {gb : Nat} (w : World) (hR : (RdYP 5 96 r A0 n0 c0 Y s).p w) (hgb : Gat w gb [.pointer (some ⟨r, 0, none⟩)]) (hTb : ¬ RdT r A0 n0 c0 gb) (he : s.2 = 0) (hn : (Pk.next 16 s).2.2 = 0) : Calls Tryd.prog 84 [.pointer (some ⟨gb, 0, none⟩)].toArray w (Ret (fun v' w' => v' = .agg ((Pk.next 16 s).1.map u8v).toArray ∧ (RdYP 5 96 r A0 n0 c0 Y (Pk.next 16 s).2).p w' ∧ Fr (RdT r A0 n0 c0) w w')) := by
  have hln : (Pk.next 16 s).1.length = 16 := (Pk.next_eq (n := 16) (s := s) rfl).1 hn
  refine k_enter (l := [_]) Tryd.func84 rfl rfl ?_
  have H := St.begin (f := RdYP 5 96 r A0 n0 c0 Y s) hR (RdB.lt hR)
  refine k_seq ?_
  refine k_region ?_
  refine s_eff (e_alloc (w_none rfl) rfl rfl (List.replicate 16 (u8v 0)) tz38 H ?_)
  clear H; intro g1 W H
  refine l_nil ?_
  refine k_seq ?_
  refine k_region ?_
  refine s_run (w_none rfl) rfl (d_ldG rfl ((H.gatT hgb hTb)) rfl ta27 rfl) ?_
  refine s_eff (e_call (w_none rfl) rfl rfl Tryd.func82 rfl rfl rfl (takeE (l := (Pk.next 16 s).1) (s' := (Pk.next 16 s).2) _ (by rfl) (by rfl) (H.get (f := RdYP 5 96 r A0 n0 c0 Y s)) he hn) ?_)
  rintro _ W ⟨hp1, hf1⟩
  obtain ⟨B1, d1, rfl⟩ := RdB.form hp1
  replace H := H.mut (f := RdYP 5 96 r A0 n0 c0 Y s) (f' := RdYB 5 96 r A0 n0 c0 Y (.slice B1 (List.length (Pk.next 16 s).1) d1) (Pk.next 16 s).1 (Pk.next 16 s).2) hf1 hp1 (fun _ h => h)
  clear hp1 hf1
  refine s_run (w_none rfl) rfl (d_s2a rfl rfl tu38 (by omega)) ?_
  refine s_run (w_none rfl) rfl (d_ldmA rfl (RdB.rd (H.get (f := RdYB 5 96 r A0 n0 c0 Y (.slice B1 (List.length (Pk.next 16 s).1) d1) (Pk.next 16 s).1 (Pk.next 16 s).2))) rfl ta38 (by rw [hln]; exact ts38) (by omega)) ?_
  refine s_eff (e_stoK ((Pk.next 16 s).1.map u8v) (w_none rfl) rfl rfl rfl rfl rfl ts38 (by rw [List.length_map, hln]) (all_u8L _) H (by simp) (spl_all (by rw [List.length_map, List.length_replicate, hln])) ?_)
  clear H; intro W H
  refine l_nil ?_
  refine k_ret ?_
  repeat (first | refine r_then ?_ | refine r_blk ?_)
  exact q_retc (g := g1) (t' := 38) rfl H rfl ta38 (by rw [List.length_map, hln]; exact ts38) ⟨_, rfl, rfl, RdB.toP (H.get (f := RdYB 5 96 r A0 n0 c0 Y (.slice B1 (List.length (Pk.next 16 s).1) d1) (Pk.next 16 s).1 (Pk.next 16 s).2)), H.fr⟩

theorem rdTag {A0 : Option Addr} {n0 c0 r : Nat} {Y : List UInt8 → Prop} {s : RS} {gb : Nat} (w : World) (hR : (RdYP 5 96 r A0 n0 c0 Y s).p w) (hgb : Gat w gb [.pointer (some ⟨r, 0, none⟩)]) (hTb : ¬ RdT r A0 n0 c0 gb) (hok : Pk.Ok s) : Calls Tryd.prog 83 [.pointer (some ⟨r, 0, none⟩), .func (.func 84) #[] [.pointer (some ⟨gb, 0, none⟩)].toArray].toArray w (Ret (fun v' w' => v' = .agg ((Pk.rBytes 16 s).1.map u8v).toArray ∧ (RdYP 5 96 r A0 n0 c0 Y (Pk.rBytes 16 s).2).p w' ∧ Fr (RdT r A0 n0 c0) w w')) := by
  by_cases he : s.2 = 0
  · by_cases hn : (Pk.next 16 s).2.2 = 0
    · have hln : (Pk.next 16 s).1.length = 16 := (Pk.next_eq (n := 16) (s := s) rfl).1 hn
      have e : (Pk.rBytes 16 s).1 = (Pk.next 16 s).1 := by unfold Pk.rBytes Pk.full; rw [hln]; simp
      rw [e]
      exact rdOkTag w hR he Tryd.func84 rfl rfl rfl hln (fun W hf hp => oneTag W hp (hgb.frT hf hTb) hTb he hn)
    · have h2 := (Pk.next_s (n := 16) (s := s) rfl he).2 hn
      have e : Pk.rBytes 16 s = (List.replicate 16 0, ([], 4)) := by unfold Pk.rBytes; rw [Pk.next_short he h2.1]; rfl
      rw [e, List.map_replicate]
      exact rdPanTag w hR he Tryd.func84 rfl rfl rfl (by decide) (fun W hf hp => oneTagP W hp (hgb.frT hf hTb) hTb he hn)
  · have e : Pk.rBytes 16 s = (List.replicate 16 0, ([], s.2)) := by unfold Pk.rBytes; rw [Pk.next_bad he, Pk.full]; simp only [List.nil_append, List.length_nil, Nat.sub_zero]; rw [← hok.1 he]
    rw [e, List.map_replicate]
    exact rdBadTag w hR he

theorem prgTag {A0 : Option Addr} {n0 c0 r : Nat} {Y : List UInt8 → Prop} {s : RS} (w : World) (hR : (RdYP 5 96 r A0 n0 c0 Y s).p w) (hok : Pk.Ok s) : Calls Tryd.prog 46 [.pointer (some ⟨r, 0, none⟩)].toArray w (Ret (fun v' w' => v' = .agg ((Pk.rBytes 16 s).1.map u8v).toArray ∧ (RdYP 5 96 r A0 n0 c0 Y (Pk.rBytes 16 s).2).p w' ∧ Fr (RdT r A0 n0 c0) w w')) := by
  have hlb : (Pk.rBytes 16 s).1.length = 16 := Pk.len_full Pk.next_len
  refine k_enter (l := [_]) Tryd.func46 rfl rfl ?_
  have H := St.begin (f := RdYP 5 96 r A0 n0 c0 Y s) hR (RdB.lt hR)
  refine k_seq ?_
  refine k_region ?_
  refine s_eff (e_box (vs := [.pointer (some ⟨r, 0, none⟩)]) (w_none rfl) rfl rfl rfl rfl H ?_)
  clear H; intro g0 W H
  refine s_eff (e_alloc (w_none rfl) rfl rfl (List.replicate 16 (u8v 0)) tz38 H ?_)
  clear H; intro g1 W H
  refine l_nil ?_
  refine k_seq ?_
  refine k_region ?_
  refine s_run (w_none rfl) rfl (d_ld rfl H rfl ta27 rfl) ?_
  refine s_run (w_none rfl) rfl (d_mkf rfl rfl rfl) ?_
  refine s_eff (e_call (w_none rfl) rfl rfl Tryd.func83 rfl rfl rfl (rdTag _ (H.get (f := RdYP 5 96 r A0 n0 c0 Y s)) (gat_of (H.blk (g := g0))) ((List.pairwise_cons.1 (List.pairwise_cons.1 H.apart).2).1 _ (.head _) g0 rfl) hok) ?_)
  rintro _ W ⟨rfl, hp, hf⟩
  replace H := H.mut (f := RdYP 5 96 r A0 n0 c0 Y s) (f' := RdYP 5 96 r A0 n0 c0 Y (Pk.rBytes 16 s).2) hf hp (fun _ h => h)
  clear hp hf
  refine s_eff (e_stoK ((Pk.rBytes 16 s).1.map u8v) (w_none rfl) rfl rfl rfl rfl rfl ts38 (by rw [List.length_map, hlb]) (all_u8L _) H (by simp) (spl_all (by rw [List.length_map, List.length_replicate, hlb])) ?_)
  clear H; intro W H
  refine l_nil ?_
  refine k_ret ?_
  repeat (first | refine r_then ?_ | refine r_blk ?_)
  exact q_retc (g := g1) (t' := 38) rfl H rfl ta38 (by rw [List.length_map, hlb]; exact ts38) ⟨_, rfl, rfl, H.get (f := RdYP 5 96 r A0 n0 c0 Y (Pk.rBytes 16 s).2), H.fr⟩

theorem rInt_bad0 {s : RS} (hok : Pk.Ok s) (he : s.2 ≠ 0) : Pk.rInt s = (0, ([], s.2)) := by
  have h0 := hok.1 he
  unfold Pk.rInt
  rw [Pk.next_bad he]
  rcases s with ⟨s1, s2⟩
  simp only at h0
  subst h0
  rfl
theorem rCount_bad0 {s : RS} {m : Int} (hok : Pk.Ok s) (he : s.2 ≠ 0) : Pk.rCount m s = (0, ([], s.2)) := by
  unfold Pk.rCount
  rw [rInt_bad0 hok he, if_neg (fun h => he h.1)]
theorem rBlob_bad0 {s : RS} {m : Int} (h : (Pk.rCount m s).2.2 ≠ 0) : Pk.rBlob m s = ([], (Pk.rCount m s).2) := by
  unfold Pk.rBlob
  rw [Pk.next_bad h]
theorem rdInt {A0 : Option Addr} {n0 c0 r : Nat} {Y : List UInt8 → Prop} {s : RS} (w : World) (hR : (RdYP 5 96 r A0 n0 c0 Y s).p w) (hok : Pk.Ok s) (hG : Gat w 0 formsC) (hT : ¬ RdT r A0 n0 c0 0) : Calls Tryd.prog 71 [.pointer (some ⟨r, 0, none⟩), .func (.func 72) [.pointer (some ⟨r, 0, none⟩)].toArray #[]].toArray w (Ret (fun v' w' => v' = .int .i64 ((Pk.rInt s).1 : Int) ∧ (RdYP 5 96 r A0 n0 c0 Y (Pk.rInt s).2).p w' ∧ Fr (RdT r A0 n0 c0) w w')) := by
  by_cases he : s.2 = 0
  · by_cases hn : (Pk.rInt s).2.2 = 0
    · exact rdOkInt w hR he Tryd.func72 rfl rfl rfl (fun W hf hp => (number W hp (hG.frT hf hT) hT he).1 hn)
    · have e := (number w hR hG hT he).2 hn
      have e1 : Pk.rInt s = (0, ([], (Pk.rInt s).2.2)) := e.1
      have h := rdPanInt w hR he Tryd.func72 rfl rfl (lo := [.pointer (some ⟨r, 0, none⟩)]) (pre := [.pointer (some ⟨r, 0, none⟩)].toArray) (cap := #[]) rfl hn (fun W hf hp => ((number W hp (hG.frT hf hT) hT he).2 hn).2)
      rw [e1]
      exact h
  · have e := rInt_bad0 hok he
    rw [e]
    exact rdBadInt w hR he

theorem prgInt {A0 : Option Addr} {n0 c0 r : Nat} {Y : List UInt8 → Prop} {s : RS} (w : World) (hR : (RdYP 5 96 r A0 n0 c0 Y s).p w) (hok : Pk.Ok s) (hG : Gat w 0 formsC) (hT : ¬ RdT r A0 n0 c0 0) : Calls Tryd.prog 20 [.pointer (some ⟨r, 0, none⟩)].toArray w (Ret (fun v' w' => v' = .int .i64 ((Pk.rInt s).1 : Int) ∧ (RdYP 5 96 r A0 n0 c0 Y (Pk.rInt s).2).p w' ∧ Fr (RdT r A0 n0 c0) w w')) := by
  refine k_enter (l := [_]) Tryd.func20 rfl rfl ?_
  have H := St.begin (f := RdYP 5 96 r A0 n0 c0 Y s) hR (RdB.lt hR)
  refine k_seq ?_
  refine k_region ?_
  refine s_run (w_none rfl) rfl (as_i rfl rfl) ?_
  refine l_nil ?_
  refine k_seq ?_
  refine k_region ?_
  refine s_run (w_none rfl) rfl (mv_p rfl rfl) ?_
  refine s_run (w_none rfl) rfl (mv_p rfl rfl) ?_
  refine s_run (w_none rfl) rfl (d_mkf rfl rfl rfl) ?_
  refine s_eff (e_call (w_none rfl) rfl rfl Tryd.func71 rfl rfl rfl (rdInt _ (H.get (f := RdYP 5 96 r A0 n0 c0 Y s)) hok (H.gatT hG hT) hT) ?_)
  rintro _ W ⟨rfl, hp, hf⟩
  replace H := H.mut (f := RdYP 5 96 r A0 n0 c0 Y s) (f' := RdYP 5 96 r A0 n0 c0 Y (Pk.rInt s).2) hf hp (fun _ h => h)
  clear hp hf
  refine s_run (w_none rfl) rfl (as_i rfl rfl) ?_
  refine l_nil ?_
  refine k_ret ?_
  repeat (first | refine r_then ?_ | refine r_blk ?_)
  exact q_ret (v := .int _ _) rfl rfl ⟨_, rfl, rfl, H.get (f := RdYP 5 96 r A0 n0 c0 Y (Pk.rInt s).2), H.fr⟩

theorem rdCount {A0 : Option Addr} {n0 c0 r : Nat} {Y : List UInt8 → Prop} {s : RS} {gb gm : Nat} {m : Int} (w : World) (hR : (RdYP 5 96 r A0 n0 c0 Y s).p w) (hok : Pk.Ok s) (hG : Gat w 0 formsC) (hT : ¬ RdT r A0 n0 c0 0) (hgb : Gat w gb [.pointer (some ⟨r, 0, none⟩)]) (hTb : ¬ RdT r A0 n0 c0 gb) (hgm : Gat w gm [.int .i64 m]) (hTm : ¬ RdT r A0 n0 c0 gm) : Calls Tryd.prog 71 [.pointer (some ⟨r, 0, none⟩), .func (.func 85) #[] [.pointer (some ⟨gb, 0, none⟩), .pointer (some ⟨gm, 0, none⟩)].toArray].toArray w (Ret (fun v' w' => v' = .int .i64 ((Pk.rCount m s).1 : Int) ∧ (RdYP 5 96 r A0 n0 c0 Y (Pk.rCount m s).2).p w' ∧ Fr (RdT r A0 n0 c0) w w')) := by
  by_cases he : s.2 = 0
  · by_cases hn : (Pk.rCount m s).2.2 = 0
    · exact rdOkInt w hR he Tryd.func85 rfl rfl rfl (fun W hf hp => oneCount W hp (hG.frT hf hT) hT he (hgb.frT hf hTb) hTb (hgm.frT hf hTm) hTm hn)
    · have e1 : Pk.rCount m s = (0, ([], (Pk.rCount m s).2.2)) := ((count w hR hG hT he).2 hn).1
      have h := rdPanInt w hR he Tryd.func85 rfl rfl (lo := [.pointer (some ⟨gb, 0, none⟩), .pointer (some ⟨gm, 0, none⟩)]) (pre := #[]) (cap := [.pointer (some ⟨gb, 0, none⟩), .pointer (some ⟨gm, 0, none⟩)].toArray) rfl hn (fun W hf hp => oneCountP W hp (hG.frT hf hT) hT he (hgb.frT hf hTb) hTb (hgm.frT hf hTm) hTm hn)
      rw [e1]
      exact h
  · have e := rCount_bad0 (m := m) hok he
    rw [e]
    exact rdBadInt w hR he
theorem rdBlob {A0 : Option Addr} {n0 c0 r : Nat} {Y : List UInt8 → Prop} {s : RS} {gb gm : Nat} {m : Int} (w : World) (hR : (RdYP 5 96 r A0 n0 c0 Y s).p w) (hok : Pk.Ok s) (hG : Gat w 0 formsC) (hT : ¬ RdT r A0 n0 c0 0) (hgb : Gat w gb [.pointer (some ⟨r, 0, none⟩)]) (hTb : ¬ RdT r A0 n0 c0 gb) (hgm : Gat w gm [.int .i64 m]) (hTm : ¬ RdT r A0 n0 c0 gm) : Calls Tryd.prog 87 [.pointer (some ⟨r, 0, none⟩), .func (.func 88) #[] [.pointer (some ⟨gb, 0, none⟩), .pointer (some ⟨gm, 0, none⟩)].toArray].toArray w (Ret (fun v' w' => (RdYB 5 96 r A0 n0 c0 Y v' (Pk.rBlob m s).1 (Pk.rBlob m s).2).p w' ∧ Fr (RdT r A0 n0 c0) w w')) := by
  by_cases he : s.2 = 0
  · by_cases hn : (Pk.rCount m s).2.2 = 0
    · by_cases hb : (Pk.rBlob m s).2.2 = 0
      · exact rdOkBlob w hR he Tryd.func88 rfl rfl rfl (fun W hf hp => oneBlob W hp (hG.frT hf hT) hT he (hgb.frT hf hTb) hTb (hgm.frT hf hTm) hTm hn hb)
      · have h2 := ((Pk.next_s (n := (Pk.rCount m s).1) (s := (Pk.rCount m s).2) rfl hn).2 hb)
        have e1 : Pk.rBlob m s = ([], ([], 4)) := by unfold Pk.rBlob; rw [Pk.next_short hn h2.1]
        have h := rdPanBlob w hR he Tryd.func88 rfl rfl (lo := [.pointer (some ⟨gb, 0, none⟩), .pointer (some ⟨gm, 0, none⟩)]) (pre := #[]) (cap := [.pointer (some ⟨gb, 0, none⟩), .pointer (some ⟨gm, 0, none⟩)].toArray) (k := 4) rfl (by decide) (fun W hf hp => oneBlobQ W hp (hG.frT hf hT) hT he (hgb.frT hf hTb) hTb (hgm.frT hf hTm) hTm hn hb)
        rw [e1]
        exact Calls.mono h (fun e w' h => by obtain ⟨v, h1, rfl, h2⟩ := h; exact ⟨_, h1, h2⟩)
    · have e1 : Pk.rCount m s = (0, ([], (Pk.rCount m s).2.2)) := ((count w hR hG hT he).2 hn).1
      have h := rdPanBlob w hR he Tryd.func88 rfl rfl (lo := [.pointer (some ⟨gb, 0, none⟩), .pointer (some ⟨gm, 0, none⟩)]) (pre := #[]) (cap := [.pointer (some ⟨gb, 0, none⟩), .pointer (some ⟨gm, 0, none⟩)].toArray) rfl hn (fun W hf hp => oneBlobP W hp (hG.frT hf hT) hT he (hgb.frT hf hTb) hTb (hgm.frT hf hTm) hTm hn)
      rw [rBlob_bad0 hn, e1]
      exact Calls.mono h (fun e w' h => by obtain ⟨v, h1, rfl, h2⟩ := h; exact ⟨_, h1, h2⟩)
  · have e := rCount_bad0 (m := m) hok he
    have e2 : Pk.rBlob m s = ([], ([], s.2)) := by rw [rBlob_bad0 (by rw [e]; exact he), e]
    rw [e2]
    exact Calls.mono (rdBadBlob w hR he) (fun e w' h => by obtain ⟨v, h1, rfl, h2⟩ := h; exact ⟨_, h1, h2⟩)

theorem prgCount {A0 : Option Addr} {n0 c0 r : Nat} {Y : List UInt8 → Prop} {s : RS} {m : Int} (w : World) (hR : (RdYP 5 96 r A0 n0 c0 Y s).p w) (hok : Pk.Ok s) (hG : Gat w 0 formsC) (hT : ¬ RdT r A0 n0 c0 0) : Calls Tryd.prog 47 [.pointer (some ⟨r, 0, none⟩), .int .i64 m].toArray w (Ret (fun v' w' => v' = .int .i64 ((Pk.rCount m s).1 : Int) ∧ (RdYP 5 96 r A0 n0 c0 Y (Pk.rCount m s).2).p w' ∧ Fr (RdT r A0 n0 c0) w w')) := by
  refine k_enter (l := [_, _]) Tryd.func47 rfl rfl ?_
  have H := St.begin (f := RdYP 5 96 r A0 n0 c0 Y s) hR (RdB.lt hR)
  refine k_seq ?_
  refine k_region ?_
  refine s_eff (e_box (vs := [.pointer (some ⟨r, 0, none⟩)]) (w_none rfl) rfl rfl rfl rfl H ?_)
  clear H; intro g0 W H
  refine s_eff (e_box (vs := [.int .i64 m]) (w_none rfl) rfl rfl rfl rfl H ?_)
  clear H; intro gm W H
  refine s_run (w_none rfl) rfl (as_i rfl rfl) ?_
  refine l_nil ?_
  refine k_seq ?_
  refine k_region ?_
  refine s_run (w_none rfl) rfl (d_ld rfl H rfl ta27 rfl) ?_
  refine s_run (w_none rfl) rfl (d_mkf rfl rfl rfl) ?_
  refine s_eff (e_call (w_none rfl) rfl rfl Tryd.func71 rfl rfl rfl (rdCount _ (H.get (f := RdYP 5 96 r A0 n0 c0 Y s)) hok (H.gatT hG hT) hT (gat_of (H.blk (g := g0))) ((List.pairwise_cons.1 (List.pairwise_cons.1 H.apart).2).1 _ (.head _) g0 rfl) (gat_of (H.blk (g := gm))) ((List.pairwise_cons.1 H.apart).1 _ (.tail _ (.head _)) gm rfl)) ?_)
  rintro _ W ⟨rfl, hp, hf⟩
  replace H := H.mut (f := RdYP 5 96 r A0 n0 c0 Y s) (f' := RdYP 5 96 r A0 n0 c0 Y (Pk.rCount m s).2) hf hp (fun _ h => h)
  clear hp hf
  refine s_run (w_none rfl) rfl (as_i rfl rfl) ?_
  refine l_nil ?_
  refine k_ret ?_
  repeat (first | refine r_then ?_ | refine r_blk ?_)
  exact q_ret (v := .int _ _) rfl rfl ⟨_, rfl, rfl, H.get (f := RdYP 5 96 r A0 n0 c0 Y (Pk.rCount m s).2), H.fr⟩

theorem prgBlob {A0 : Option Addr} {n0 c0 r : Nat} {Y : List UInt8 → Prop} {s : RS} {m : Int} (w : World) (hR : (RdYP 5 96 r A0 n0 c0 Y s).p w) (hok : Pk.Ok s) (hG : Gat w 0 formsC) (hT : ¬ RdT r A0 n0 c0 0) : Calls Tryd.prog 48 [.pointer (some ⟨r, 0, none⟩), .int .i64 m].toArray w (Ret (fun v' w' => (RdYB 5 96 r A0 n0 c0 Y v' (Pk.rBlob m s).1 (Pk.rBlob m s).2).p w' ∧ Fr (RdT r A0 n0 c0) w w')) := by
  refine k_enter (l := [_, _]) Tryd.func48 rfl rfl ?_
  have H := St.begin (f := RdYP 5 96 r A0 n0 c0 Y s) hR (RdB.lt hR)
  refine k_seq ?_
  refine k_region ?_
  refine s_eff (e_box (vs := [.pointer (some ⟨r, 0, none⟩)]) (w_none rfl) rfl rfl rfl rfl H ?_)
  clear H; intro g0 W H
  refine s_eff (e_box (vs := [.int .i64 m]) (w_none rfl) rfl rfl rfl rfl H ?_)
  clear H; intro gm W H
  refine s_run (w_none rfl) rfl (as_s rfl rfl) ?_
  refine l_nil ?_
  refine k_seq ?_
  refine k_region ?_
  refine s_run (w_none rfl) rfl (d_ld rfl H rfl ta27 rfl) ?_
  refine s_run (w_none rfl) rfl (d_mkf rfl rfl rfl) ?_
  refine s_eff (e_call (w_none rfl) rfl rfl Tryd.func87 rfl rfl rfl (rdBlob _ (H.get (f := RdYP 5 96 r A0 n0 c0 Y s)) hok (H.gatT hG hT) hT (gat_of (H.blk (g := g0))) ((List.pairwise_cons.1 (List.pairwise_cons.1 H.apart).2).1 _ (.head _) g0 rfl) (gat_of (H.blk (g := gm))) ((List.pairwise_cons.1 H.apart).1 _ (.tail _ (.head _)) gm rfl)) ?_)
  rintro _ W ⟨hp1, hf1⟩
  obtain ⟨B1, d1, rfl⟩ := RdB.form hp1
  replace H := H.mut (f := RdYP 5 96 r A0 n0 c0 Y s) (f' := RdYB 5 96 r A0 n0 c0 Y (.slice B1 (List.length (Pk.rBlob m s).1) d1) (Pk.rBlob m s).1 (Pk.rBlob m s).2) hf1 hp1 (fun _ h => h)
  clear hp1 hf1
  refine s_run (w_none rfl) rfl (as_s rfl rfl) ?_
  refine l_nil ?_
  refine k_ret ?_
  repeat (first | refine r_then ?_ | refine r_blk ?_)
  exact q_ret (v := .slice _ _ _) rfl rfl ⟨_, rfl, H.get (f := RdYB 5 96 r A0 n0 c0 Y (.slice B1 (List.length (Pk.rBlob m s).1) d1) (Pk.rBlob m s).1 (Pk.rBlob m s).2), H.fr⟩
end Go.Proofs.YtejaohlijaodjaaDoor
