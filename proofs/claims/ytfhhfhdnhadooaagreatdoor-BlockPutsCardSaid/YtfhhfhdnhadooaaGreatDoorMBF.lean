/- Texts of this claim, laid together: K5A, K5B. -/
import Derived.Test.YtfhhfhdnhadooaaGreatDoorMBR
import Derived.Test.YtfhhfhdnhadooaaGreatDoorMR
import Derived.Test.YtfhhfhdnhadooaaGreatDoorMBZ
import Derived.Test.YtfhhfhdnhadooaaGreatDoorMRG
set_option linter.unusedVariables false
set_option linter.unusedSimpArgs false

namespace Go.Proofs.YtfhhfhdnhadooaaGreatDoor
open Go Go.RowKit
attribute [local irreducible] wpList

set_option maxHeartbeats 4000000 in
theorem nodeR (a b : H32) (w : World) : Calls Tryz.prog 105 [.agg (a.1.map u8v).toArray, .agg (b.1.map u8v).toArray].toArray w (Ret (Is w (.agg ((BTG Bk.tNode (a.1 ++ b.1)).map u8v).toArray))) := by
 refine k_enter (l := [_, _]) Tryz.func105 rfl rfl ?_
 have H := St.start nT w
 have ha := a.2
 have hbl := b.2
 refine k_seq (k_region (s_eff (e_box (vs := (a.1.map u8v)) (w_none rfl) rfl rfl rfl rfl H ?_)))
 clear H; intro ga W H
 refine s_eff (e_box (vs := (b.1.map u8v)) (w_none rfl) rfl rfl rfl rfl H ?_)
 clear H; intro gb W H
 refine s_eff (e_alloc (w_none rfl) rfl rfl (List.replicate 32 (u8v 0)) tz24 H ?_)
 clear H; intro g2 W H
 refine l_nil (k_seq (k_draw [(0, true), (2, true), (1, false), (3, false), (4, false), (5, false)] [Fact.blk gb (b.1.map u8v) 24, Fact.blk ga (a.1.map u8v) 24] (by kernel_rfl) (by kernel_rfl) H (.cons _ (.refl _)) ?_))
 clear H; intro W H
 refine cR rfl rfl rfl (fun W H => d_ldm0 (g := ga) rfl H rfl ta24 ts24 (len_h a)) (cR rfl rfl rfl (fun W H => d_ldm0 (g := gb) rfl H rfl ta24 ts24 (len_h b)) (c_eff rfl (e_call (w_none rfl) rfl rfl Tryz.func89 rfl rfl rfl (refHash (b := []) (h := a.1) _ (Bs.nil (S := nT)) (by decide) ha) ?_)))
 rintro _ W ⟨A1, c1, rfl, hc1, hd1, hn⟩
 replace H := H.new hn
 clear hn
 refine ⟨H.sub (by repeat (first | exact .refl _ | exact List.nil_sublist _ | refine .cons_cons _ ?_ | refine .cons _ ?_)), ?_⟩
 refine c_eff rfl (e_call (w_none rfl) rfl rfl Tryz.func89 rfl rfl rfl (refHash (b := [] ++ a.1) (h := b.1) _ (H.rowbs (A := A1) rfl) (by rw [List.nil_append]; omega) hbl) ?_)
 rintro _ W ⟨A2, c2, rfl, hc2, hd2, hn⟩
 replace H := H.new hn
 clear hn
 refine ⟨H.sub (by repeat (first | exact .refl _ | exact List.nil_sublist _ | refine .cons_cons _ ?_ | refine .cons _ ?_)), ?_⟩
 refine c_eff rfl (e_call (w_none rfl) rfl rfl Tryz.func55 rfl rfl rfl (taggedRB (s := tNodeB) _ (H.rowbs (A := A2) (l := [] ++ a.1 ++ b.1) rfl) (by decide) (by rw [List.nil_append, List.length_append, ha, hbl]; decide)) ?_)
 rintro _ W ⟨rfl, hb⟩
 replace H := H.below hb
 clear hb
 refine ⟨H.sub (by repeat (first | exact .refl _ | exact List.nil_sublist _ | refine .cons_cons _ ?_ | refine .cons _ ?_)), ?_⟩
 refine c_eff rfl (e_stoK ((Old.Bl.tagged tNodeB.data.toList (a.1 ++ b.1)).map u8v) (w_none rfl) rfl rfl rfl rfl rfl ts24 (by rw [List.length_map]; exact Old.Bl.len_tagged _ _) (all_u8L _) H (by decide) (spl_all (by rw [List.length_map, List.length_replicate]; exact Old.Bl.len_tagged _ _)) ?_)
 clear H; intro W H
 refine ⟨H.sub (by repeat (first | exact .refl _ | exact List.nil_sublist _ | refine .cons_cons _ ?_ | refine .cons _ ?_)), ?_⟩
 refine c_nil (k_ret ?_)
 repeat (first | refine r_then ?_ | refine r_blk ?_)
 exact q_retc rfl (c := (Old.Bl.tagged tNodeB.data.toList (a.1 ++ b.1)).map u8v) (g := g2) H rfl ta24 (by rw [List.length_map, Old.Bl.len_tagged]; exact ts24) ⟨_, rfl, rfl, H.under⟩

set_option maxHeartbeats 4000000 in
theorem upR {S : Nat → Prop} {A : Option Addr} {c : Nat} {l : List H32} (w : World) (hr0 : Rd w S 32 A l.length (hsC l)) (hlc : l.length ≤ c ∧ c ≤ 9223372036854775807) (hn : l.length ≤ 1000000) : Calls Tryz.prog 53 [.slice A l.length c].toArray w (Ret (Is w (.agg ((Bk.root BTG (l.map (·.1))).map u8v).toArray))) := by
 have hl0 : l.length ≤ 1000000 := hn
 refine k_enter (l := [_]) Tryz.func53 rfl rfl ?_
 have H := St.start nT w
 refine k_seq (k_region (s_eff (e_alloc (w_none rfl) rfl rfl (List.replicate 32 (u8v 0)) tz24 H ?_)))
 clear H; intro g2 W H
 refine l_nil (k_seq (k_seq (k_region (sMs rfl rfl rfl rfl (sR rfl rfl (d_len rfl rfl tu68) (sR rfl rfl (d_eq rfl rfl rfl) (l_nil (k_cond rfl (fun hc7 => ?_) (fun hc7 => ?_)))))))))
 ·have h0 : l = [] := by have := eq_of_beq hc7; exact List.eq_nil_of_length_eq_zero (by omega)
  refine k_seq (k_region (sR rfl rfl (d_build (vs := (List.replicate 32 (0 : UInt8)).map u8v) rfl (by kernel_rfl)) ?_))
  refine s_eff (e_stoK ((List.replicate 32 (0 : UInt8)).map u8v) (w_none rfl) rfl rfl rfl rfl rfl ts24 (by simp) (all_u8L _) H (by decide) (spl_all (by simp)) ?_)
  clear H; intro W H
  refine l_nil (k_ret ?_)
  repeat (first | refine r_then ?_ | refine r_blk ?_)
  subst h0
  exact q_retc rfl (c := (List.replicate 32 (0 : UInt8)).map u8v) (g := g2) H rfl ta24 ts24 ⟨_, rfl, rfl, H.under⟩
 ·have h0 : l.length ≠ 0 := fun e => by rw [e] at hc7; cases hc7
  refine k_skip (k_seq (k_block (k_loop 9 [0, 3, 4] (fun mm sl W => ∃ r : List H32, ∃ A4 : Option Addr, ∃ c4 : Nat, r.length = mm ∧ sl = [(0, .slice A4 r.length c4)] ∧ (r.length ≤ c4 ∧ c4 ≤ 9223372036854775807) ∧ (Bk.root BTG (r.map (fun h : H32 => h.1)) = Bk.root BTG (l.map (fun h : H32 => h.1))) ∧ (r.length ≤ 1000000 ∧ 0 < r.length) ∧ ((Rd w S 32 A4 r.length (hsC r) ∧ St nT w W [Fact.blk g2 (List.replicate 32 (u8v 0)) 24]) ∨ St nT w W [Fact.row 24 32 (.slice A4 r.length c4) r.length (hsC r), Fact.blk g2 (List.replicate 32 (u8v 0)) 24])) _ _ ⟨l, A, c, rfl, rfl, hlc, rfl, ⟨hl0, by omega⟩, (.inl ⟨hr0, H⟩)⟩ ⟨rfl, trivial⟩ (fun mm sl ρv W hJ => ?_))))
  clear H; obtain ⟨r, A4, c4, rfl, rfl, hr4, hrt, hrn, H⟩ := hJ
  refine k_one (k_seq (k_seq ?_))
  rcases H with ⟨hr, H⟩ | H
  ·obtain ⟨g4, o4, rfl, -⟩ := hr.2 (by omega)
   refine k_region (sMs rfl rfl rfl rfl (sR rfl rfl (d_len rfl rfl tu68) (sR rfl rfl (d_gt rfl rfl rfl) (l_nil (k_cond rfl (fun hc11 => ?_) (fun hc11 => ?_))))))
   ·have hgt : 2 ≤ r.length := by simp at hc11; omega
    refine k_skip (k_block (k_seq (k_region (sAs rfl rfl rfl rfl (l_nil (k_seq (k_seq (k_region (sAi rfl rfl rfl rfl (l_nil ?_))))))))))
    refine k_block (k_loop 12 [3, 4] (fun mm sl W => ∃ k : Nat, ∃ A5 : Option Addr, ∃ c5 : Nat, r.length + 1 - 2 * k = mm ∧ sl = [(4, .int .i64 (2 * (k : Int))), (3, .slice A5 k c5)] ∧ (2 * k ≤ r.length + 1) ∧ (k ≤ c5 ∧ c5 ≤ 9223372036854775807) ∧ St nT w W [Fact.row 24 32 (.slice A5 k c5) k (hsC (upk r k)), Fact.blk g2 (List.replicate 32 (u8v 0)) 24]) _ _ ⟨0, none, 0, rfl, rfl, by omega, ⟨Nat.le_refl _, by omega⟩, (H.nilrow 24 32)⟩ ⟨rfl, rfl, trivial⟩ (fun mm sl ρv W hJ => ?_))
    clear H; obtain ⟨k, A5, c5, rfl, rfl, hk, hd5, H⟩ := hJ
    refine k_one (k_seq (k_seq (k_region (sMi rfl rfl rfl rfl (sMs rfl rfl rfl rfl (sR rfl rfl (d_len rfl rfl tu68) (sR rfl rfl (d_lt rfl rfl rfl) (l_nil (k_cond rfl (fun hc15 => ?_) (fun hc15 => ?_))))))))))
    ·have hlt : 2 * k < r.length := by simp at hc15; omega
     refine k_skip (k_seq (k_block (k_seq (k_region (sMi rfl rfl rfl rfl (sR rfl rfl (d_add rfl rfl rfl (by omega)) (sMs rfl rfl rfl rfl (sR rfl rfl (d_len rfl rfl tu68) (sR rfl rfl (d_lt rfl rfl rfl) (l_nil ?_))))))))))
     refine k_cond rfl (fun hc22 => ?_) (fun hc22 => ?_)
     ·have h2 : 2 * k + 1 < r.length := by simp at hc22; omega
      refine k_draw [(0, true), (1, true), (2, true), (3, true), (4, true), (5, true), (6, true), (7, true), (8, true), (9, true), (10, false), (11, false), (12, false), (13, true)] [] (by kernel_rfl) (by kernel_rfl) H (List.nil_sublist _) ?_
      clear H; intro W H
      refine cR rfl rfl rfl (fun W H => mv_s rfl rfl) (cR rfl rfl rfl (fun W H => mv_s rfl rfl) (cR rfl rfl rfl (fun W H => mv_i rfl rfl) (cR rfl rfl rfl (fun W H => d_iaG (q := 2 * k) rfl (hr.keep (fun g hg _ => H.under.block g hg)) rfl rfl (by omega) (by omega) tu68 ts24) ?_)))
      refine cR rfl rfl rfl (fun W H => d_ldEM (off := 0) (j := 32) (q := 2 * k) rfl (hr.keep (fun g hg _ => H.under.block g hg)) (by omega) (hs_get (by omega)) (sub_all (len_h _)) rfl rfl (by omega) ta24 ts24) ?_
      refine cR rfl rfl rfl (fun W H => mv_s rfl rfl) (cR rfl rfl rfl (fun W H => mv_i rfl rfl) (cR rfl rfl rfl (fun W H => d_add rfl rfl rfl (by omega)) (cR rfl rfl rfl (fun W H => d_iaG (q := 2 * k + 1) rfl (hr.keep (fun g hg _ => H.under.block g hg)) rfl rfl (by omega) (by omega) tu68 ts24) ?_)))
      refine cR rfl rfl rfl (fun W H => d_ldEM (off := 0) (j := 32) (q := 2 * k + 1) rfl (hr.keep (fun g hg _ => H.under.block g hg)) (by omega) (hs_get (by omega)) (sub_all (len_h _)) rfl rfl (by omega) ta24 ts24) ?_
      refine c_eff rfl (e_call (w_none rfl) rfl rfl Tryz.func105 rfl rfl rfl (nodeR (r.getD (2 * k) z32H) (r.getD (2 * k + 1) z32H) _) ?_)
      rintro _ W ⟨rfl, hb⟩
      replace H := H.below hb
      clear hb
      refine ⟨H.sub (by repeat (first | exact .refl _ | exact List.nil_sublist _ | refine .cons_cons _ ?_ | refine .cons _ ?_)), ?_⟩
      rw [← upH_twoB h2]
      refine c_eff rfl (e_bsl (xs := [.tmp 33]) (vals := [.agg ((upH r k).1.map u8v).toArray]) (vs := ((upH r k).1.map u8v)) (w_none rfl) rfl rfl rfl rfl rfl rfl tu68 ts24 ty24 rfl (by simp [agg_cells, (upH r k).2]) (by simp [agg_cells]) H ?_)
      clear H; intro g9_11 W H
      refine ⟨H.sub (by repeat (first | exact .refl _ | exact List.nil_sublist _ | refine .cons_cons _ ?_ | refine .cons _ ?_)), ?_⟩
      refine c_eff rfl (e_app (w_none rfl) rfl rfl tu68 tx24 rfl rfl rfl H (rd_blk (m := 1) H.blk (len_h _)) (all_u8L _) (by omega) rfl ?_)
      clear H; intro A1 c1 W hc1 hd1 H
      replace H := H.drop
      refine ⟨H.sub (by repeat (first | exact .refl _ | exact List.nil_sublist _ | refine .cons_cons _ ?_ | refine .cons _ ?_)), ?_⟩
      refine cR rfl rfl rfl (fun W H => as_s rfl rfl) (c_nil (k_nil (b_end (k_region (sMi rfl rfl rfl rfl (sR rfl rfl (d_add rfl rfl rfl (by omega)) (sAi rfl rfl rfl rfl (l_nil (k_nil (k_next ?_))))))))))
      refine ⟨_, _, _, ?_, rfl, ?_, ?_, ⟨k + 1, A1, c1, rfl, rfl, by omega, ⟨hc1, hd1⟩, by rw [upk_snoc, hs_snoc]; exact H⟩⟩
      ·omega
      ·repeat (first | (with_reducible refine .updl _ .ovr ?_); exact rfl | (with_reducible refine .updl _ (.ovr2 ?_ ?_) ?_); rotate_left; exact rfl; exact rfl | (with_reducible refine .upd ?_ ?_); rotate_left; exact rfl)
      ·refine ⟨?_, ?_, trivial⟩
       ·exact vi (by omega)
       ·exact rfl
     ·have h2 : ¬ 2 * k + 1 < r.length := by simp at hc22; omega
      refine k_region (sMs rfl rfl rfl rfl (sMs rfl rfl rfl rfl (sMi rfl rfl rfl rfl (sR rfl rfl (d_iaG (q := 2 * k) rfl (hr.keep (fun g hg _ => H.under.block g hg)) rfl rfl (by omega) (by omega) tu68 ts24) ?_))))
      refine sR rfl rfl (d_ldEM (off := 0) (j := 32) (q := 2 * k) (cs := ((upH r k).1.map u8v)) rfl (hr.keep (fun g hg _ => H.under.block g hg)) (by omega) (hs_get (by omega)) (by rw [upH_one h2]; exact sub_all (len_h _)) rfl rfl (by omega) ta24 ts24) ?_
      refine s_eff (e_bsl (xs := [.tmp 40]) (vals := [.agg ((upH r k).1.map u8v).toArray]) (vs := ((upH r k).1.map u8v)) (w_none rfl) rfl rfl rfl rfl rfl rfl tu68 ts24 ty24 rfl (by simp [agg_cells, (upH r k).2]) (by simp [agg_cells]) H ?_)
      clear H; intro g10_5 W H
      refine s_eff (e_app (w_none rfl) rfl rfl tu68 tx24 rfl rfl rfl H (rd_blk (m := 1) H.blk (len_h _)) (all_u8L _) (by omega) rfl ?_)
      clear H; intro A1 c1 W hc1 hd1 H
      replace H := H.drop
      refine sAs rfl rfl rfl rfl (l_nil (k_nil (b_end (k_region (sMi rfl rfl rfl rfl (sR rfl rfl (d_add rfl rfl rfl (by omega)) (sAi rfl rfl rfl rfl (l_nil (k_nil (k_next ?_))))))))))
      refine ⟨_, _, _, ?_, rfl, ?_, ?_, ⟨k + 1, A1, c1, rfl, rfl, by omega, ⟨hc1, hd1⟩, by rw [upk_snoc, hs_snoc]; exact H⟩⟩
      ·omega
      ·repeat (first | (with_reducible refine .updl _ .ovr ?_); exact rfl | (with_reducible refine .updl _ (.ovr2 ?_ ?_) ?_); rotate_left; exact rfl; exact rfl | (with_reducible refine .upd ?_ ?_); rotate_left; exact rfl)
      ·refine ⟨?_, ?_, trivial⟩
       ·exact vi (by omega)
       ·exact rfl
    ·have hge : ¬ 2 * k < r.length := by simp at hc15; omega
     refine k_exit (x_then (x_then ?_))
     refine x_hit (k_region (sMs rfl rfl rfl rfl (sAs rfl rfl rfl rfl (l_nil (k_nil (b_end (k_nil (k_next ?_))))))))
     have eP := upk_all (r := r) (k := k) (by omega)
     have eL : (pairsH r).length = k := by rw [len_pairsH]; omega
     have H9 : St nT w W [Fact.row 24 32 (.slice A5 (pairsH r).length c5) (pairsH r).length (hsC (pairsH r)), Fact.blk g2 (List.replicate 32 (u8v 0)) 24] := by rw [eL, eP]; exact H.sub (L' := [_, _]) (by repeat (first | exact .refl _ | exact List.nil_sublist _ | refine .cons_cons _ ?_ | refine .cons _ ?_))
     refine ⟨_, _, _, ?_, rfl, ?_, ?_, ⟨pairsH r, A5, c5, rfl, rfl, ⟨by omega, hd5.2⟩, (by rw [← hrt]; exact (root_pairsH hgt).symm), ⟨by omega, by omega⟩, (.inr H9)⟩⟩
     ·rw [len_pairsH]; omega
     ·repeat (first | (with_reducible refine .updl _ .ovr ?_); exact rfl | (with_reducible refine .updl _ (.ovr2 ?_ ?_) ?_); rotate_left; exact rfl; exact rfl | (with_reducible refine .upd ?_ ?_); rotate_left; exact rfl)
     ·refine ⟨?_, trivial⟩
      ·exact sl_eq eL.symm
   ·have hle : r.length = 1 := by simp at hc11; omega
    refine k_exit (x_then (x_then ?_))
    refine x_hit (k_seq (k_region (sMs rfl rfl rfl rfl (sR rfl rfl (d_iaG (q := 0) rfl (hr.keep (fun g hg _ => H.under.block g hg)) rfl rfl (by omega) (by omega) tu68 ts24) ?_))))
    refine sR rfl rfl (d_ldEM (off := 0) (j := 32) (q := 0) rfl (hr.keep (fun g hg _ => H.under.block g hg)) (by omega) (hs_get (by omega)) (sub_all (len_h _)) rfl rfl (by omega) ta24 ts24) ?_
    refine s_eff (e_stoK ((r.getD 0 z32H).1.map u8v) (w_none rfl) rfl rfl rfl rfl rfl ts24 (by rw [List.length_map]; exact (r.getD 0 z32H).2) (all_u8L _) H (by decide) (spl_all (by rw [List.length_map, List.length_replicate]; exact (r.getD 0 z32H).2)) ?_)
    clear H; intro W H
    refine l_nil (k_ret ?_)
    repeat (first | refine r_then ?_ | refine r_blk ?_)
    have hw : (r.getD 0 z32H).1 = Bk.root BTG (l.map (·.1)) := (root_one hle).symm.trans hrt
    rw [← hw]
    exact q_retc rfl (c := (r.getD 0 z32H).1.map u8v) (g := g2) H rfl ta24 (by rw [len_h]; exact ts24) ⟨_, rfl, rfl, H.under⟩
  ·obtain ⟨g4, rfl⟩ := row_own (H.holds _ (.head _)) (by omega)
   refine k_region (sMs rfl rfl rfl rfl (sR rfl rfl (d_len rfl rfl tu68) (sR rfl rfl (d_gt rfl rfl rfl) (l_nil (k_cond rfl (fun hc11 => ?_) (fun hc11 => ?_))))))
   ·have hgt : 2 ≤ r.length := by simp at hc11; omega
    refine k_skip (k_block (k_seq (k_region (sAs rfl rfl rfl rfl (l_nil (k_seq (k_seq (k_region (sAi rfl rfl rfl rfl (l_nil ?_))))))))))
    refine k_block (k_loop 12 [3, 4] (fun mm sl W => ∃ k : Nat, ∃ A5 : Option Addr, ∃ c5 : Nat, r.length + 1 - 2 * k = mm ∧ sl = [(4, .int .i64 (2 * (k : Int))), (3, .slice A5 k c5)] ∧ (2 * k ≤ r.length + 1) ∧ (k ≤ c5 ∧ c5 ≤ 9223372036854775807) ∧ St nT w W [Fact.row 24 32 (.slice A5 k c5) k (hsC (upk r k)), Fact.row 24 32 (.slice (some ⟨g4, 0, none⟩) r.length c4) r.length (hsC r), Fact.blk g2 (List.replicate 32 (u8v 0)) 24]) _ _ ⟨0, none, 0, rfl, rfl, by omega, ⟨Nat.le_refl _, by omega⟩, (H.nilrow 24 32)⟩ ⟨rfl, rfl, trivial⟩ (fun mm sl ρv W hJ => ?_))
    clear H; obtain ⟨k, A5, c5, rfl, rfl, hk, hd5, H⟩ := hJ
    refine k_one (k_seq (k_seq (k_region (sMi rfl rfl rfl rfl (sMs rfl rfl rfl rfl (sR rfl rfl (d_len rfl rfl tu68) (sR rfl rfl (d_lt rfl rfl rfl) (l_nil (k_cond rfl (fun hc15 => ?_) (fun hc15 => ?_))))))))))
    ·have hlt : 2 * k < r.length := by simp at hc15; omega
     refine k_skip (k_seq (k_block (k_seq (k_region (sMi rfl rfl rfl rfl (sR rfl rfl (d_add rfl rfl rfl (by omega)) (sMs rfl rfl rfl rfl (sR rfl rfl (d_len rfl rfl tu68) (sR rfl rfl (d_lt rfl rfl rfl) (l_nil ?_))))))))))
     refine k_cond rfl (fun hc22 => ?_) (fun hc22 => ?_)
     ·have h2 : 2 * k + 1 < r.length := by simp at hc22; omega
      refine k_draw [(0, true), (1, true), (2, true), (3, true), (4, true), (5, true), (6, true), (7, true), (8, true), (9, true), (10, false), (11, false), (12, false), (13, true)] [Fact.row 24 32 (.slice (some ⟨g4, 0, none⟩) r.length c4) r.length (hsC r)] (by kernel_rfl) (by kernel_rfl) H (by repeat (first | exact .refl _ | exact List.nil_sublist _ | refine .cons_cons _ ?_ | refine .cons _ ?_)) ?_
      clear H; intro W H
      refine cR rfl rfl rfl (fun W H => mv_s rfl rfl) (cR rfl rfl rfl (fun W H => mv_s rfl rfl) (cR rfl rfl rfl (fun W H => mv_i rfl rfl) (cR rfl rfl rfl (fun W H => d_iaG (q := 2 * k) rfl (H.rowrd (A := some ⟨g4, 0, none⟩) (s := 32) (m := r.length) (c := c4) (xs := hsC r)) rfl rfl (by omega) (by omega) tu68 ts24) (cR rfl rfl rfl (fun W H => d_ldEM (off := 0) (j := 32) (q := 2 * k) rfl (H.rowrd (A := some ⟨g4, 0, none⟩) (s := 32) (m := r.length) (c := c4) (xs := hsC r)) (by omega) (hs_get (by omega)) (sub_all (len_h _)) rfl rfl (by omega) ta24 ts24) (cR rfl rfl rfl (fun W H => mv_s rfl rfl) (cR rfl rfl rfl (fun W H => mv_i rfl rfl) (cR rfl rfl rfl (fun W H => d_add rfl rfl rfl (by omega)) (cR rfl rfl rfl (fun W H => d_iaG (q := 2 * k + 1) rfl (H.rowrd (A := some ⟨g4, 0, none⟩) (s := 32) (m := r.length) (c := c4) (xs := hsC r)) rfl rfl (by omega) (by omega) tu68 ts24) (cR rfl rfl rfl (fun W H => d_ldEM (off := 0) (j := 32) (q := 2 * k + 1) rfl (H.rowrd (A := some ⟨g4, 0, none⟩) (s := 32) (m := r.length) (c := c4) (xs := hsC r)) (by omega) (hs_get (by omega)) (sub_all (len_h _)) rfl rfl (by omega) ta24 ts24) (c_eff rfl (e_call (w_none rfl) rfl rfl Tryz.func105 rfl rfl rfl (nodeR (r.getD (2 * k) z32H) (r.getD (2 * k + 1) z32H) _) ?_)))))))))))
      rintro _ W ⟨rfl, hb⟩
      replace H := H.below hb
      clear hb
      refine ⟨H.sub (by repeat (first | exact .refl _ | exact List.nil_sublist _ | refine .cons_cons _ ?_ | refine .cons _ ?_)), ?_⟩
      rw [← upH_twoB h2]
      refine c_eff rfl (e_bsl (xs := [.tmp 33]) (vals := [.agg ((upH r k).1.map u8v).toArray]) (vs := ((upH r k).1.map u8v)) (w_none rfl) rfl rfl rfl rfl rfl rfl tu68 ts24 ty24 rfl (by simp [agg_cells, (upH r k).2]) (by simp [agg_cells]) H ?_)
      clear H; intro g9_11 W H
      refine ⟨H.sub (by repeat (first | exact .refl _ | exact List.nil_sublist _ | refine .cons_cons _ ?_ | refine .cons _ ?_)), ?_⟩
      refine c_eff rfl (e_app (w_none rfl) rfl rfl tu68 tx24 rfl rfl rfl H (rd_blk (m := 1) H.blk (len_h _)) (all_u8L _) (by omega) rfl ?_)
      clear H; intro A1 c1 W hc1 hd1 H
      replace H := H.drop
      refine ⟨H.sub (by repeat (first | exact .refl _ | exact List.nil_sublist _ | refine .cons_cons _ ?_ | refine .cons _ ?_)), ?_⟩
      refine cR rfl rfl rfl (fun W H => as_s rfl rfl) (c_nil (k_nil (b_end (k_region (sMi rfl rfl rfl rfl (sR rfl rfl (d_add rfl rfl rfl (by omega)) (sAi rfl rfl rfl rfl (l_nil (k_nil (k_next ?_))))))))))
      refine ⟨_, _, _, ?_, rfl, ?_, ?_, ⟨k + 1, A1, c1, rfl, rfl, by omega, ⟨hc1, hd1⟩, by rw [upk_snoc, hs_snoc]; exact H⟩⟩
      ·omega
      ·repeat (first | (with_reducible refine .updl _ .ovr ?_); exact rfl | (with_reducible refine .updl _ (.ovr2 ?_ ?_) ?_); rotate_left; exact rfl; exact rfl | (with_reducible refine .upd ?_ ?_); rotate_left; exact rfl)
      ·refine ⟨?_, ?_, trivial⟩
       ·exact vi (by omega)
       ·exact rfl
     ·have h2 : ¬ 2 * k + 1 < r.length := by simp at hc22; omega
      refine k_region (sMs rfl rfl rfl rfl (sMs rfl rfl rfl rfl (sMi rfl rfl rfl rfl (sR rfl rfl (d_iaG (q := 2 * k) rfl (H.rowrd (A := some ⟨g4, 0, none⟩) (s := 32) (m := r.length) (c := c4) (xs := hsC r)) rfl rfl (by omega) (by omega) tu68 ts24) (sR rfl rfl (d_ldEM (off := 0) (j := 32) (q := 2 * k) (cs := ((upH r k).1.map u8v)) rfl (H.rowrd (A := some ⟨g4, 0, none⟩) (s := 32) (m := r.length) (c := c4) (xs := hsC r)) (by omega) (hs_get (by omega)) (by rw [upH_one h2]; exact sub_all (len_h _)) rfl rfl (by omega) ta24 ts24) ?_)))))
      refine s_eff (e_bsl (xs := [.tmp 40]) (vals := [.agg ((upH r k).1.map u8v).toArray]) (vs := ((upH r k).1.map u8v)) (w_none rfl) rfl rfl rfl rfl rfl rfl tu68 ts24 ty24 rfl (by simp [agg_cells, (upH r k).2]) (by simp [agg_cells]) H ?_)
      clear H; intro g10_5 W H
      refine s_eff (e_app (w_none rfl) rfl rfl tu68 tx24 rfl rfl rfl H (rd_blk (m := 1) H.blk (len_h _)) (all_u8L _) (by omega) rfl ?_)
      clear H; intro A1 c1 W hc1 hd1 H
      replace H := H.drop
      refine sAs rfl rfl rfl rfl (l_nil (k_nil (b_end (k_region (sMi rfl rfl rfl rfl (sR rfl rfl (d_add rfl rfl rfl (by omega)) (sAi rfl rfl rfl rfl (l_nil (k_nil (k_next ?_))))))))))
      refine ⟨_, _, _, ?_, rfl, ?_, ?_, ⟨k + 1, A1, c1, rfl, rfl, by omega, ⟨hc1, hd1⟩, by rw [upk_snoc, hs_snoc]; exact H⟩⟩
      ·omega
      ·repeat (first | (with_reducible refine .updl _ .ovr ?_); exact rfl | (with_reducible refine .updl _ (.ovr2 ?_ ?_) ?_); rotate_left; exact rfl; exact rfl | (with_reducible refine .upd ?_ ?_); rotate_left; exact rfl)
      ·refine ⟨?_, ?_, trivial⟩
       ·exact vi (by omega)
       ·exact rfl
    ·have hge : ¬ 2 * k < r.length := by simp at hc15; omega
     refine k_exit (x_then (x_then ?_))
     refine x_hit (k_region (sMs rfl rfl rfl rfl (sAs rfl rfl rfl rfl (l_nil (k_nil (b_end (k_nil (k_next ?_))))))))
     have eP := upk_all (r := r) (k := k) (by omega)
     have eL : (pairsH r).length = k := by rw [len_pairsH]; omega
     have H9 : St nT w W [Fact.row 24 32 (.slice A5 (pairsH r).length c5) (pairsH r).length (hsC (pairsH r)), Fact.blk g2 (List.replicate 32 (u8v 0)) 24] := by rw [eL, eP]; exact H.sub (L' := [_, _]) (by repeat (first | exact .refl _ | exact List.nil_sublist _ | refine .cons_cons _ ?_ | refine .cons _ ?_))
     refine ⟨_, _, _, ?_, rfl, ?_, ?_, ⟨pairsH r, A5, c5, rfl, rfl, ⟨by omega, hd5.2⟩, (by rw [← hrt]; exact (root_pairsH hgt).symm), ⟨by omega, by omega⟩, (.inr H9)⟩⟩
     ·rw [len_pairsH]; omega
     ·repeat (first | (with_reducible refine .updl _ .ovr ?_); exact rfl | (with_reducible refine .updl _ (.ovr2 ?_ ?_) ?_); rotate_left; exact rfl; exact rfl | (with_reducible refine .upd ?_ ?_); rotate_left; exact rfl)
     ·refine ⟨?_, trivial⟩
      ·exact sl_eq eL.symm
   ·have hle : r.length = 1 := by simp at hc11; omega
    refine k_exit (x_then (x_then ?_))
    refine x_hit (k_seq (k_region (sMs rfl rfl rfl rfl (sR rfl rfl (d_iaG (q := 0) rfl (H.rowrd (A := some ⟨g4, 0, none⟩) (s := 32) (m := r.length) (c := c4) (xs := hsC r)) rfl rfl (by omega) (by omega) tu68 ts24) (sR rfl rfl (d_ldEM (off := 0) (j := 32) (q := 0) rfl (H.rowrd (A := some ⟨g4, 0, none⟩) (s := 32) (m := r.length) (c := c4) (xs := hsC r)) (by omega) (hs_get (by omega)) (sub_all (len_h _)) rfl rfl (by omega) ta24 ts24) (s_eff (e_stoK ((r.getD 0 z32H).1.map u8v) (w_none rfl) rfl rfl rfl rfl rfl ts24 (by rw [List.length_map]; exact (r.getD 0 z32H).2) (all_u8L _) H (by decide) (spl_all (by rw [List.length_map, List.length_replicate]; exact (r.getD 0 z32H).2)) ?_)))))))
    clear H; intro W H
    refine l_nil (k_ret ?_)
    repeat (first | refine r_then ?_ | refine r_blk ?_)
    have hw : (r.getD 0 z32H).1 = Bk.root BTG (l.map (·.1)) := (root_one hle).symm.trans hrt
    rw [← hw]
    exact q_retc rfl (c := (r.getD 0 z32H).1.map u8v) (g := g2) H rfl ta24 (by rw [len_h]; exact ts24) ⟨_, rfl, rfl, H.under⟩

set_option maxHeartbeats 4000000 in
theorem idsR {S : Nat → Prop} {A : Option Addr} {c : Nat} {l : List DTx} (w : World) (hl : RL 3 RTx w S [.slice A l.length c] l) (hn : l.length ≤ 1000000) : Calls Tryz.prog 54 [.slice A l.length c].toArray w (Ret (fun v' w' => ∃ A5 c5, v' = .slice A5 l.length c5 ∧ l.length ≤ c5 ∧ c5 ≤ 9223372036854775807 ∧ New w w' (Fact.row 24 32 (.slice A5 l.length c5) l.length (hsC (digs l))))) := by
 have hl0 := hl
 obtain ⟨A_, c_, xs, hv_, _, _, hr, hel⟩ := hl0
 cases hv_
 refine k_enter (l := [_]) Tryz.func54 rfl rfl ?_
 have H := St.start nT w
 refine k_seq (k_region (sAs rfl rfl rfl rfl (l_nil (k_seq (k_region (sAs rfl rfl rfl rfl (l_nil (k_seq (k_seq (k_region ?_))))))))))
 refine sAi rfl rfl rfl rfl (l_nil (k_block (k_loop 3 [] (fun mm sl W => ∃ i : Nat, ∃ A3 : Option Addr, ∃ c3 : Nat, l.length - i = mm ∧ sl = [(4, .int .i64 (i : Int)), (3, .slice A3 i c3)] ∧ (i ≤ l.length) ∧ (i ≤ c3 ∧ c3 ≤ 9223372036854775807) ∧ St nT w W [Fact.row 24 32 (.slice A3 i c3) i (hsC (digs (l.take i)))]) _ _ ⟨0, none, 0, rfl, rfl, Nat.zero_le _, ⟨Nat.le_refl _, by omega⟩, (H.nilrow 24 32)⟩ ⟨rfl, rfl, trivial⟩ (fun mm sl ρv W hJ => ?_))))
 clear H; obtain ⟨i, A3, c3, rfl, rfl, hi, hd3, H⟩ := hJ
 refine k_one (k_seq (k_seq (k_region (sMi rfl rfl rfl rfl (sMs rfl rfl rfl rfl (sR rfl rfl (d_len rfl rfl tu22) (sR rfl rfl (d_lt rfl rfl rfl) (l_nil (k_cond rfl (fun hc8 => ?_) (fun hc8 => ?_))))))))))
 ·have hlt : i < l.length := by simp at hc8; omega
  obtain ⟨g0, o0, rfl, -⟩ := hr.2 (by omega)
  obtain ⟨t, ht⟩ := get_lt hlt
  have hRt := hel i t ht
  obtain ⟨Ai, ci, Bi, di, hL, -, -, -⟩ := tx_of hRt
  rw [hL] at hRt
  refine k_skip (k_seq (k_block (k_region (sMs rfl rfl rfl rfl (sMs rfl rfl rfl rfl (sMi rfl rfl rfl rfl (sR rfl rfl (d_iaG rfl (H.rd hr) rfl rfl (q := i) rfl hlt tu22 ts34) (sR rfl rfl (d_ldEM (off := 0) rfl (H.rd hr) hlt hL (sub_all (a := txC Ai t.ins.length ci Bi t.outs.length di t.lock) (m := 3) rfl) rfl rfl (by omega) ta34 ts34) (sC rfl rfl rfl Tryz.func106 rfl rfl rfl (idTR _ (keeps_Tx _ _ _ _ _ hRt (fun g hg _ => H.fr.block g hg (fun h => h)))) ?_)))))))))
  rintro _ W ⟨rfl, hb⟩
  replace H := H.below hb
  clear hb
  refine s_eff (e_bsl (xs := [.tmp 16]) (vals := [.agg ((Tx.dig Tx.tTx t).map u8v).toArray]) (vs := ((Tx.dig Tx.tTx t).map u8v)) (w_none rfl) rfl rfl rfl rfl rfl rfl tu68 ts24 ty24 rfl (by simp [agg_cells, Tx.len_dig]) (by simp [agg_cells]) H ?_)
  clear H; intro g5_6 W H
  refine s_eff (e_app (w_none rfl) rfl rfl tu68 tx24 rfl rfl rfl H (rd_blk (m := 1) H.blk (by rw [List.length_map]; exact Tx.len_dig)) (all_u8L _) (by omega) rfl ?_)
  clear H; intro A1 c1 W hc1 hd1 H
  replace H := H.drop
  refine sAs rfl rfl rfl rfl (l_nil (k_nil (b_end (k_region (sMi rfl rfl rfl rfl (sR rfl rfl (d_add rfl rfl rfl (by omega)) (sAi rfl rfl rfl rfl (l_nil (k_nil (k_next ?_))))))))))
  refine ⟨_, _, _, ?_, rfl, ?_, ?_, ⟨i + 1, A1, c1, rfl, rfl, by omega, ⟨hc1, hd1⟩, (by rw [take_get ht, digs_snoc, hs_snoc]; exact H)⟩⟩
  ·omega
  ·repeat (first | (with_reducible refine .updl _ .ovr ?_); exact rfl | (with_reducible refine .updl _ (.ovr2 ?_ ?_) ?_); rotate_left; exact rfl; exact rfl | (with_reducible refine .upd ?_ ?_); rotate_left; exact rfl)
  ·refine ⟨?_, ?_, trivial⟩
   ·exact vi (by omega)
   ·exact rfl
 ·obtain rfl : i = l.length := by simp at hc8; omega
  rw [List.take_length] at H
  refine k_exit (x_then (x_then ?_))
  refine x_hit (k_seq (k_region (sMs rfl rfl rfl rfl (sAs rfl rfl rfl rfl (l_nil (k_ret ?_))))))
  repeat (first | refine r_then ?_ | refine r_blk ?_)
  exact q_ret (v := .slice _ _ _) rfl rfl ⟨_, rfl, A3, c3, rfl, hd3.1, hd3.2, H.give⟩

theorem upR' {S : Nat → Prop} {A : Option Addr} {c n : Nat} {l : List DTx} (w : World) (hnl : l.length = n) (hr0 : Rd w S 32 A n (hsC (digs l))) (hlc : n ≤ c ∧ c ≤ 9223372036854775807) (hn : n ≤ 1000000) : Calls Tryz.prog 53 [.slice A n c].toArray w (Ret (Is w (.agg ((rootB l).map u8v).toArray))) := by
 have e : (digs l).length = n := by rw [List.length_map]; exact hnl
 subst e
 exact upR w hr0 hlc hn

set_option maxHeartbeats 4000000 in
theorem rootR {S : Nat → Prop} {A : Option Addr} {c : Nat} {l : List DTx} (w : World) (hl : RL 3 RTx w S [.slice A l.length c] l) (hn : l.length ≤ 1000000) : Calls Tryz.prog 21 [.slice A l.length c].toArray w (Ret (Is w (.agg ((rootB l).map u8v).toArray))) := by
 refine k_enter (l := [_]) Tryz.func21 rfl rfl ?_
 have H := St.start nT w
 refine k_seq (k_region (s_eff (e_alloc (w_none rfl) rfl rfl (List.replicate 32 (u8v 0)) tz24 H ?_)))
 clear H; intro g2 W H
 refine l_nil (k_seq (k_region (sMs rfl rfl rfl rfl (sC rfl rfl rfl Tryz.func54 rfl rfl rfl (idsR _ (keeps_L keeps_Tx _ _ _ _ _ hl (fun g hg _ => H.fr.block g hg (fun h => h))) hn) ?_))))
 rintro _ W ⟨A5, c5, rfl, hc5, hd5, hn5⟩
 replace H := H.new hn5
 clear hn5
 refine sC rfl rfl rfl Tryz.func53 rfl rfl rfl (upR' (l := l) _ rfl (H.rowrd (A := A5)) ⟨hc5, hd5⟩ hn) ?_
 rintro _ W ⟨rfl, hb⟩
 replace H := H.below hb
 clear hb
 refine s_eff (e_stoK ((rootB l).map u8v) (w_none rfl) rfl rfl rfl rfl rfl ts24 (by rw [List.length_map]; exact len_rootB _) (all_u8L _) H (by decide) (spl_all (by rw [List.length_map, List.length_replicate]; exact len_rootB _)) ?_)
 clear H; intro W H
 refine l_nil (k_ret ?_)
 repeat (first | refine r_then ?_ | refine r_blk ?_)
 exact q_retc rfl (c := (rootB l).map u8v) (g := g2) H rfl ta24 (by rw [List.length_map, len_rootB]; exact ts24) ⟨_, rfl, rfl, H.under⟩

set_option maxHeartbeats 4000000 in
theorem headR {h : DHeader} (w : World) (hh : Bk.OkH h) : Calls Tryz.prog 46 [.agg (hdrC h).toArray].toArray w (Ret (NewB 5 w (Bk.encH h))) := by
 refine k_enter (l := [_]) Tryz.func46 rfl rfl ?_
 have H := St.start nT w
 have hq1 := Pk.len_int (Pk.toU h.nonce)
 refine k_seq (k_region (s_eff (e_box (vs := (hdrC h)) (w_none rfl) rfl rfl rfl rfl H ?_)))
 clear H; intro gh W H
 refine sAs rfl rfl rfl rfl (l_nil (k_seq (k_draw [(0, true), (1, true), (3, true), (4, true), (6, true), (7, true), (2, false), (5, false), (8, false), (9, true)] [Fact.blk gh (hdrC h) 26] (by kernel_rfl) (by kernel_rfl) H (.refl _) ?_)))
 clear H; intro W H
 refine cR rfl rfl rfl (fun W H => d_fa rfl rfl tf26_0) (cR rfl rfl rfl (fun W H => d_ldXM (g := gh) (off := 0) rfl H (sub_h_prev hh) (by rw [List.length_map]; first | exact hh.1 | exact hh.2.1) rfl rfl rfl ta24 ts24) ?_)
 refine cR rfl rfl rfl (fun W H => d_fa rfl rfl tf26_1) (cR rfl rfl rfl (fun W H => d_ldXM (g := gh) (off := 32) rfl H (sub_h_root hh) (by rw [List.length_map]; first | exact hh.1 | exact hh.2.1) rfl rfl rfl ta24 ts24) ?_)
 refine cR rfl rfl rfl (fun W H => d_fa rfl rfl tf26_2) (cR rfl rfl rfl (fun W H => d_ldX (g := gh) (off := 64) rfl H (sub_h_nonce hh) rfl rfl ta3) (c_eff rfl (e_call (w_none rfl) rfl rfl Tryz.func89 rfl rfl rfl (refHash (b := []) (h := h.prev) _ (Bs.nil (S := nT)) (by decide) hh.1) ?_)))
 rintro _ W ⟨A1, c1, rfl, hc1, hd1, hn⟩
 replace H := H.new hn
 clear hn
 refine ⟨H.sub (by repeat (first | exact .refl _ | exact List.nil_sublist _ | refine .cons_cons _ ?_ | refine .cons _ ?_)), ?_⟩
 refine c_eff rfl (e_call (w_none rfl) rfl rfl Tryz.func89 rfl rfl rfl (refHash (b := [] ++ h.prev) (h := h.root) _ (H.rowbs (A := A1) rfl) (by rw [List.length_append, hh.1]; decide) hh.2.1) ?_)
 rintro _ W ⟨A2, c2, rfl, hc2, hd2, hn⟩
 replace H := H.new hn
 clear hn
 refine ⟨H.sub (by repeat (first | exact .refl _ | exact List.nil_sublist _ | refine .cons_cons _ ?_ | refine .cons _ ?_)), ?_⟩
 refine c_eff rfl (e_call (w_none rfl) rfl rfl Tryz.func45 rfl rfl rfl (refInt (b := [] ++ h.prev ++ h.root) h.nonce _ (H.rowbs (A := A2) rfl) hh.2.2 (by rw [List.length_append, List.length_append, hh.1, hh.2.1]; decide)) ?_)
 rintro _ W ⟨A3, c3, rfl, hc3, hd3, hn⟩
 replace H := H.new hn
 clear hn
 refine ⟨H.sub (by repeat (first | exact .refl _ | exact List.nil_sublist _ | refine .cons_cons _ ?_ | refine .cons _ ?_)), ?_⟩
 refine cR rfl rfl rfl (fun W H => as_s rfl rfl) (c_nil (k_ret ?_))
 repeat (first | refine r_then ?_ | refine r_blk ?_)
 rw [show [] ++ h.prev ++ h.root ++ Pk.int (Pk.toU h.nonce) = Bk.encH h by unfold Bk.encH; rw [List.nil_append, List.append_assoc]] at hc3 H ⊢
 exact q_ret (v := .slice _ _ _) rfl rfl ⟨_, rfl, H.newB rfl rfl hc3 hd3⟩

set_option maxHeartbeats 4000000 in
theorem idHR {h : DHeader} (w : World) (hh : Bk.OkH h) : Calls Tryz.prog 23 [.agg (hdrC h).toArray].toArray w (Ret (Is w (.agg ((Bk.idH BTG h).map u8v).toArray))) := by
 refine k_enter (l := [_]) Tryz.func23 rfl rfl ?_
 have H := St.start nT w
 refine k_seq (k_region (s_eff (e_box (vs := (hdrC h)) (w_none rfl) rfl rfl rfl rfl H ?_)))
 clear H; intro gh W H
 refine s_eff (e_alloc (w_none rfl) rfl rfl (List.replicate 32 (u8v 0)) tz24 H ?_)
 clear H; intro g2 W H
 refine l_nil (k_seq (k_region (sR rfl rfl (d_ldXM (g := gh) (off := 0) rfl H (sub_all (len_hdr hh)) (len_hdr hh) rfl rfl rfl ta26 ts26) (sC rfl rfl rfl Tryz.func46 rfl rfl rfl (headR _ hh) ?_))))
 rintro _ W ⟨A1, c1, rfl, hc1, hd1, hn⟩
 replace H := H.new hn
 clear hn
 refine sC rfl rfl rfl Tryz.func55 rfl rfl rfl (taggedRB (s := tBlockB) _ (H.rowbs (A := A1) (l := Bk.encH h) rfl) (by decide) (by have := len_encH hh; omega)) ?_
 rintro _ W ⟨rfl, hb⟩
 replace H := H.below hb
 clear hb
 refine s_eff (e_stoK ((Old.Bl.tagged tBlockB.data.toList (Bk.encH h)).map u8v) (w_none rfl) rfl rfl rfl rfl rfl ts24 (by rw [List.length_map]; exact Old.Bl.len_tagged _ _) (all_u8L _) H (by decide) (spl_all (by rw [List.length_map, List.length_replicate]; exact Old.Bl.len_tagged _ _)) ?_)
 clear H; intro W H
 refine l_nil (k_ret ?_)
 repeat (first | refine r_then ?_ | refine r_blk ?_)
 exact q_retc rfl (c := (Old.Bl.tagged tBlockB.data.toList (Bk.encH h)).map u8v) (g := g2) H rfl ta24 (by rw [List.length_map, Old.Bl.len_tagged]; exact ts24) ⟨_, rfl, rfl, H.under⟩

set_option maxHeartbeats 4000000 in
theorem checkBR {S : Nat → Prop} {A : Option Addr} {c : Nat} {b : DBlock} (w : World) (hl : RL 3 RTx w S [.slice A b.txs.length c] b.txs) (hh : Bk.OkH b.header) : Calls Tryz.prog 44 [.agg (blkC b.header A b.txs.length c).toArray].toArray w (Ret (Is w (.int .i64 (Bk.chk BTG b)))) := by
 have hl0 := hl
 obtain ⟨A_, c_, xs, hv_, _, _, hr, hel⟩ := hl0
 cases hv_
 refine k_enter (l := [_]) Tryz.func44 rfl rfl ?_
 have H := St.start nT w
 refine k_seq (k_region (s_eff (e_box (vs := (blkC b.header A b.txs.length c)) (w_none rfl) rfl rfl rfl rfl H ?_)))
 clear H; intro gb W H
 refine sAi rfl rfl rfl rfl (l_nil (k_seq (k_seq ?_)))
 rcases Decidable.em (b.header.nonce < 0) with hn0 | hn0
 ·skip
  refine k_region (sR rfl rfl (d_fa rfl rfl tf28_0) (sR rfl rfl (d_fa rfl rfl tf26_2) (sR rfl rfl (d_ldX (g := gb) (off := 64) rfl H (sub_b_nonce hh) rfl rfl ta3) (sR rfl rfl (d_lt rfl rfl rfl) (sR rfl rfl (mv_bx (c := true) rfl rfl (by first | exact decide_eq_true hn0 | exact decide_eq_false hn0)) ?_)))))
  refine s_skip (w_gno rfl rfl rfl rfl rfl) rfl (s_skip (w_gno rfl rfl rfl rfl rfl) rfl (s_skip (w_gno rfl rfl rfl rfl rfl) rfl (s_skip (w_gno rfl rfl rfl rfl rfl) rfl (sR rfl rfl (d_pickT rfl rfl rfl) (l_nil (k_condT rfl rfl (k_seq (k_region (sAi rfl rfl rfl rfl (l_nil ?_))))))))))
  refine k_ret ?_
  repeat (first | refine r_then ?_ | refine r_blk ?_)
  rw [chk_1 (.inl hn0)]
  exact q_ret (v := .int _ _) rfl rfl ⟨_, rfl, rfl, H.under⟩
 ·skip
  refine k_region (sR rfl rfl (d_fa rfl rfl tf28_0) (sR rfl rfl (d_fa rfl rfl tf26_2) (sR rfl rfl (d_ldX (g := gb) (off := 64) rfl H (sub_b_nonce hh) rfl rfl ta3) (sR rfl rfl (d_lt rfl rfl rfl) (sR rfl rfl (mv_bx (c := false) rfl rfl (by first | exact decide_eq_true hn0 | exact decide_eq_false hn0)) ?_)))))
  refine s_run (w_g rfl rfl rfl rfl) rfl (d_fa rfl rfl tf28_0) (s_run (w_g rfl rfl rfl rfl) rfl (d_fa rfl rfl tf26_2) (s_run (w_g rfl rfl rfl rfl) rfl (d_ldX (g := gb) (off := 64) rfl H (sub_b_nonce hh) rfl rfl ta3) (s_run (w_g rfl rfl rfl rfl) rfl (d_gt rfl rfl rfl) (sR rfl rfl (d_pickF rfl rfl rfl) (l_nil (k_cond rfl (fun hc17 => ?_) (fun hc17 => ?_)))))))
  ·replace hc17 : 1073741824 < b.header.nonce := by simpa using hc17
   refine k_seq (k_region (sAi rfl rfl rfl rfl (l_nil (k_ret ?_))))
   repeat (first | refine r_then ?_ | refine r_blk ?_)
   rw [chk_1 (.inr hc17)]
   exact q_ret (v := .int _ _) rfl rfl ⟨_, rfl, rfl, H.under⟩
  ·have h1 : ¬ (b.header.nonce < 0 ∨ 1073741824 < b.header.nonce) := by simp at hc17; omega
   refine k_skip (k_seq (k_seq (k_region (sR rfl rfl (d_fa rfl rfl tf28_1) (sR rfl rfl (d_ldX (g := gb) (off := 65) rfl H (sub_b_txs hh) rfl rfl ta22) (sR rfl rfl (d_len rfl rfl tu22) (sR rfl rfl (d_gt rfl rfl rfl) (l_nil (k_cond rfl (fun hc21 => ?_) (fun hc21 => ?_))))))))))
   ·replace hc21 : 16 < b.txs.length := by simp at hc21; omega
    refine k_seq (k_region (sAi rfl rfl rfl rfl (l_nil (k_ret ?_))))
    repeat (first | refine r_then ?_ | refine r_blk ?_)
    rw [chk_3 h1 hc21]
    exact q_ret (v := .int _ _) rfl rfl ⟨_, rfl, rfl, H.under⟩
   ·have h2 : ¬ 16 < b.txs.length := by simp at hc21; omega
    have hdl : (digs b.txs).length = b.txs.length := List.length_map _
    refine k_skip (k_seq (k_seq (k_region (sAi rfl rfl rfl rfl (l_nil (k_block (k_loop 22 [2, 3, 4] (fun mm sl W => ∃ i : Nat, b.txs.length - i = mm ∧ sl = [(3, .int .i64 (i : Int))] ∧ (i ≤ b.txs.length) ∧ (Bk.firstErr (b.txs.take i) = 0) ∧ St nT w W [Fact.blk gb (blkC b.header A b.txs.length c) 28]) _ _ ⟨0, rfl, rfl, Nat.zero_le _, rfl, H⟩ ⟨rfl, trivial⟩ (fun mm sl ρv W hJ => ?_))))))))
    clear H; obtain ⟨i, rfl, rfl, hi, he, H⟩ := hJ
    refine k_one (k_seq (k_seq (k_region (sMi rfl rfl rfl rfl (sR rfl rfl (d_fa rfl rfl tf28_1) (sR rfl rfl (d_ldX (g := gb) (off := 65) rfl H (sub_b_txs hh) rfl rfl ta22) (sR rfl rfl (d_len rfl rfl tu22) (sR rfl rfl (d_lt rfl rfl rfl) (l_nil (k_cond rfl (fun hc26 => ?_) (fun hc26 => ?_)))))))))))
    ·have hlt : i < b.txs.length := by simp at hc26; omega
     obtain ⟨g0, o0, rfl, -⟩ := hr.2 (by omega)
     obtain ⟨t, ht⟩ := get_lt hlt
     have hRt := hel i t ht
     obtain ⟨Ai, ci, Bi, di, hL, -, -, -⟩ := tx_of hRt
     rw [hL] at hRt
     refine k_skip (k_seq (k_block (k_seq (k_region (sR rfl rfl (d_fa rfl rfl tf28_1) (sR rfl rfl (d_ldX (g := gb) (off := 65) rfl H (sub_b_txs hh) rfl rfl ta22) (sMi rfl rfl rfl rfl (sR rfl rfl (d_iaG rfl (H.rd hr) rfl rfl (q := i) rfl hlt tu22 ts34) (sR rfl rfl (d_ldEM (off := 0) rfl (H.rd hr) hlt hL (sub_all (a := txC Ai t.ins.length ci Bi t.outs.length di t.lock) (m := 3) rfl) rfl rfl (by omega) ta34 ts34) (sC rfl rfl rfl Tryz.func87 rfl rfl rfl (checkTR _ (keeps_Tx _ _ _ _ _ hRt (fun g hg _ => H.fr.block g hg (fun h => h)))) ?_))))))))))
     rintro _ W ⟨rfl, hb⟩
     replace H := H.below hb
     clear hb
     refine sAi rfl rfl rfl rfl (l_nil (k_seq (k_region (sMi rfl rfl rfl rfl (sR rfl rfl (d_ne rfl rfl rfl) (l_nil (k_cond rfl (fun hc36 => ?_) (fun hc36 => ?_))))))))
     ·have hce : Tx.chk t ≠ 0 := by simpa using hc36
      refine k_seq (k_region (sMi rfl rfl rfl rfl (sAi rfl rfl rfl rfl (l_nil (k_ret ?_)))))
      repeat (first | refine r_then ?_ | refine r_blk ?_)
      rw [chk_e h1 h2 (by rw [Bk.first_at he ht hce]; exact hce), Bk.first_at he ht hce]
      exact q_ret (v := .int _ _) rfl rfl ⟨_, rfl, rfl, H.under⟩
     ·have hce : Tx.chk t = 0 := by simpa using hc36
      refine k_skip (k_nil (b_end (k_region (sMi rfl rfl rfl rfl (sR rfl rfl (d_add rfl rfl rfl (by omega)) (sAi rfl rfl rfl rfl (l_nil (k_nil (k_next ?_)))))))))
      refine ⟨_, _, _, ?_, rfl, ?_, ?_, ⟨i + 1, rfl, rfl, by omega, by rw [take_get ht]; exact Bk.first_snoc he hce, H⟩⟩
      ·omega
      ·repeat (first | (with_reducible refine .updl _ .ovr ?_); exact rfl | (with_reducible refine .updl _ (.ovr2 ?_ ?_) ?_); rotate_left; exact rfl; exact rfl | (with_reducible refine .upd ?_ ?_); rotate_left; exact rfl)
      ·refine ⟨?_, trivial⟩
       ·exact vi (by omega)
    ·obtain rfl : i = b.txs.length := by simp at hc26; omega
     rw [List.take_length] at he
     refine k_exit (x_then (x_then ?_))
     refine x_hit (k_seq (k_region (sR rfl rfl (d_fa rfl rfl tf28_1) (sR rfl rfl (d_ldX (g := gb) (off := 65) rfl H (sub_b_txs hh) rfl rfl ta22) (sC rfl rfl rfl Tryz.func54 rfl rfl rfl (idsR _ (keeps_L keeps_Tx _ _ _ _ _ hl (fun g hg _ => H.fr.block g hg (fun h => h))) (by omega)) ?_)))))
     rintro _ W ⟨A5, c5, rfl, hc5, hd5, hn5⟩
     replace H := H.new hn5
     clear hn5
     refine sAs rfl rfl rfl rfl (l_nil (k_seq (k_seq (k_region (sAi rfl rfl rfl rfl (l_nil (k_block (k_loop 41 [2, 6, 7] (fun mm sl W => ∃ i : Nat, b.txs.length - i = mm ∧ sl = [(6, .int .i64 (i : Int))] ∧ (i ≤ b.txs.length) ∧ (((digs b.txs).take i).Nodup) ∧ St nT w W [Fact.row 24 32 (.slice A5 b.txs.length c5) b.txs.length (hsC (digs b.txs)), Fact.blk gb (blkC b.header A b.txs.length c) 28]) _ _ ⟨0, rfl, rfl, Nat.zero_le _, List.nodup_nil, H⟩ ⟨rfl, trivial⟩ (fun mm sl ρv W hJ => ?_)))))))))
     clear H; obtain ⟨i, rfl, rfl, hi2, hnd, H⟩ := hJ
     refine k_one (k_seq (k_seq (k_region (sMi rfl rfl rfl rfl (sMs rfl rfl rfl rfl (sR rfl rfl (d_len rfl rfl tu68) (sR rfl rfl (d_lt rfl rfl rfl) (l_nil (k_cond rfl (fun hc44 => ?_) (fun hc44 => ?_))))))))))
     ·have hlt : i < b.txs.length := by simp at hc44; omega
      obtain ⟨g5, rfl⟩ := row_own (H.get (f := Fact.row 24 32 (.slice A5 b.txs.length c5) b.txs.length (hsC (digs b.txs)))) (by omega)
      obtain ⟨x, hx⟩ := get_lt (l := digs b.txs) (i := i) (by omega)
      refine k_skip (k_seq (k_block (k_seq (k_region (sAi rfl rfl rfl rfl (l_nil (k_block (k_loop 47 [2, 7] (fun mm sl W => ∃ k : Nat, i - k = mm ∧ sl = [(7, .int .i64 (k : Int))] ∧ (k ≤ i) ∧ (x ∉ (digs b.txs).take k) ∧ St nT w W [Fact.row 24 32 (.slice (some ⟨g5, 0, none⟩) b.txs.length c5) b.txs.length (hsC (digs b.txs)), Fact.blk gb (blkC b.header A b.txs.length c) 28]) _ _ ⟨0, rfl, rfl, Nat.zero_le _, (by simp), H⟩ ⟨rfl, trivial⟩ (fun mm sl ρv W hJ => ?_)))))))))
      clear H; obtain ⟨k, rfl, rfl, hk, hnm, H⟩ := hJ
      refine k_one (k_seq (k_seq (k_region (sMi rfl rfl rfl rfl (sMi rfl rfl rfl rfl (sR rfl rfl (d_lt rfl rfl rfl) (l_nil (k_cond rfl (fun hc49 => ?_) (fun hc49 => ?_)))))))))
      ·have hlk : k < i := by simp at hc49; omega
       obtain ⟨y, hy⟩ := get_lt (l := digs b.txs) (i := k) (by omega)
       refine k_skip (k_seq (k_block (k_seq (k_draw [(0, true), (1, true), (2, true), (3, true), (4, true), (5, true), (6, true), (7, true), (8, true)] _ (by kernel_rfl) (by kernel_rfl) H (.refl _) ?_))))
       clear H; intro W H
       refine cR rfl rfl rfl (fun W H => mv_s rfl rfl) (cR rfl rfl rfl (fun W H => mv_i rfl rfl) (cR rfl rfl rfl (fun W H => d_iaG (q := i) rfl (H.rowrd (A := some ⟨g5, 0, none⟩) (s := 32) (m := b.txs.length) (c := c5) (xs := hsC (digs b.txs))) rfl rfl rfl (by omega) tu68 ts24) (cR rfl rfl rfl (fun W H => d_ldEM (off := 0) (j := 32) (q := i) rfl (H.rowrd (A := some ⟨g5, 0, none⟩) (s := 32) (m := b.txs.length) (c := c5) (xs := hsC (digs b.txs))) (by omega) (hs_sub hx) (sub_all (len_h _)) rfl rfl (by omega) ta24 ts24) (cR rfl rfl rfl (fun W H => mv_s rfl rfl) (cR rfl rfl rfl (fun W H => mv_i rfl rfl) (cR rfl rfl rfl (fun W H => d_iaG (q := k) rfl (H.rowrd (A := some ⟨g5, 0, none⟩) (s := 32) (m := b.txs.length) (c := c5) (xs := hsC (digs b.txs))) rfl rfl rfl (by omega) tu68 ts24) (cR rfl rfl rfl (fun W H => d_ldEM (off := 0) (j := 32) (q := k) rfl (H.rowrd (A := some ⟨g5, 0, none⟩) (s := 32) (m := b.txs.length) (c := c5) (xs := hsC (digs b.txs))) (by omega) (hs_sub hy) (sub_all (len_h _)) rfl rfl (by omega) ta24 ts24) (cR rfl rfl rfl (fun W H => d_eqarr rfl rfl rfl tu24 tu5 ts5 (len_v x) (len_v y) (by kernel_rfl)) ?_))))))))
       refine c_nil (k_cond rfl (fun hc60 => ?_) (fun hc60 => ?_))
       ·have hxy : x = y := Subtype.ext (by simpa using hc60)
        refine k_seq (k_region (sAi rfl rfl rfl rfl (l_nil (k_ret ?_))))
        repeat (first | refine r_then ?_ | refine r_blk ?_)
        have hdup : ¬ (digs b.txs).Nodup := fun h => by
         have := (List.getElem_inj (i := i) (j := k) (h₀ := by omega) (h₁ := by omega) h).1 (by rw [(List.getElem?_eq_some_iff.1 hx).2, (List.getElem?_eq_some_iff.1 hy).2, hxy])
         omega
        rw [chk_13 h1 h2 he hdup]
        exact q_ret (v := .int _ _) rfl rfl ⟨_, rfl, rfl, H.under⟩
       ·have hxy : ¬ x = y := fun e => by subst e; simp at hc60
        refine k_skip (k_nil (b_end (k_region (sMi rfl rfl rfl rfl (sR rfl rfl (d_add rfl rfl rfl (by omega)) (sAi rfl rfl rfl rfl (l_nil (k_nil (k_next ?_)))))))))
        refine ⟨_, _, _, ?_, rfl, ?_, ?_, ⟨k + 1, rfl, rfl, by omega, (by rw [take_get hy]; exact fun h => (List.mem_append.1 h).elim hnm (fun h => hxy (List.mem_singleton.1 h))), H⟩⟩
        ·omega
        ·repeat (first | (with_reducible refine .updl _ .ovr ?_); exact rfl | (with_reducible refine .updl _ (.ovr2 ?_ ?_) ?_); rotate_left; exact rfl; exact rfl | (with_reducible refine .upd ?_ ?_); rotate_left; exact rfl)
        ·refine ⟨?_, trivial⟩
         ·exact vi (by omega)
      ·obtain rfl : i = k := by simp at hc49; omega
       refine k_exit (x_then (x_then ?_))
       refine x_hit (k_nil (b_end (k_region (sMi rfl rfl rfl rfl (sR rfl rfl (d_add rfl rfl rfl (by omega)) (sAi rfl rfl rfl rfl (l_nil (k_nil (k_next ?_)))))))))
       refine ⟨_, _, _, ?_, rfl, ?_, ?_, ⟨i + 1, rfl, rfl, by omega, (by rw [take_get hx]; exact List.nodup_append.2 ⟨hnd, by simp, fun a ha c hc => by rw [List.mem_singleton.1 hc]; exact fun e => hnm (e ▸ ha)⟩), H⟩⟩
       ·omega
       ·repeat (first | (with_reducible refine .updl _ .ovr ?_); exact rfl | (with_reducible refine .updl _ (.ovr2 ?_ ?_) ?_); rotate_left; exact rfl; exact rfl | (with_reducible refine .upd ?_ ?_); rotate_left; exact rfl)
       ·refine ⟨?_, trivial⟩
        ·exact vi (by omega)
     ·obtain rfl : i = b.txs.length := by simp at hc44; omega
      rw [List.take_of_length_le (by omega)] at hnd
      refine k_exit (x_then (x_then ?_))
      refine x_hit (k_seq (k_seq (k_draw [(0, true), (2, true), (3, true), (4, true), (1, false), (5, true)] _ (by kernel_rfl) (by kernel_rfl) H (.refl _) ?_)))
      clear H; intro W H
      refine cR rfl rfl rfl (fun W H => mv_s rfl rfl) (cR rfl rfl rfl (fun W H => d_fa rfl rfl tf28_0) (cR rfl rfl rfl (fun W H => d_fa rfl rfl tf26_1) (cR rfl rfl rfl (fun W H => d_ldXM (g := gb) (off := 32) rfl H (sub_b_root hh) (by rw [List.length_map]; exact hh.2.1) rfl rfl rfl ta24 ts24) ?_)))
      refine c_eff rfl (e_call (w_none rfl) rfl rfl Tryz.func53 rfl rfl rfl (upR' (l := b.txs) _ rfl (H.rowrd (A := A5)) ⟨hc5, hd5⟩ (by omega)) ?_)
      rintro _ W ⟨rfl, hb⟩
      replace H := H.below hb
      clear hb
      refine ⟨H.sub (by repeat (first | exact .refl _ | exact List.nil_sublist _ | refine .cons_cons _ ?_ | refine .cons _ ?_)), ?_⟩
      refine cR rfl rfl rfl (fun W H => d_nearr rfl rfl rfl tu24 tu5 ts5 (len_rootB _) hh.2.1 (by kernel_rfl)) ?_
      refine c_nil (k_cond rfl (fun hc66 => ?_) (fun hc66 => ?_))
      ·have hne : rootB b.txs ≠ b.header.root := by simpa using hc66
       refine k_seq (k_region (sAi rfl rfl rfl rfl (l_nil (k_ret ?_))))
       repeat (first | refine r_then ?_ | refine r_blk ?_)
       rw [chk_6 h1 h2 he hnd hne]
       exact q_ret (v := .int _ _) rfl rfl ⟨_, rfl, rfl, H.under⟩
      ·have hne : rootB b.txs = b.header.root := by simpa using hc66
       refine k_skip (k_seq (k_region (sAi rfl rfl rfl rfl (l_nil (k_ret ?_)))))
       repeat (first | refine r_then ?_ | refine r_blk ?_)
       rw [chk_0 h1 h2 he hnd hne]
       exact q_ret (v := .int _ _) rfl rfl ⟨_, rfl, rfl, H.under⟩
end Go.Proofs.YtfhhfhdnhadooaaGreatDoor

namespace Go.Proofs.YtfhhfhdnhadooaaGreatDoor
open Go Go.RowKit
attribute [local irreducible] wpList

/-- What is wrong so far. -/
def bE (b : List UInt8) (i : Nat) : Int := if Pk.rEnd (BgL b).2 ≠ 0 then Pk.rEnd (BgL b).2 else Bk.getErr ((BgL b).1.take i)
end Go.Proofs.YtfhhfhdnhadooaaGreatDoor
