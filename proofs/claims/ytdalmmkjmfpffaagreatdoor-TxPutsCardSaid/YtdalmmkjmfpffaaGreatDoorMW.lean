/- Texts of this claim, laid together: K46, Sized, SizedTx, F10. -/
import Derived.Test.YtdalmmkjmfpffaaGreatDoorMZ
import Derived.Test.YtdalmmkjmfpffaaGreatDoorMV
import Derived.SizedLaws
import Derived.Test.YtdalmmkjmfpffaaGreatDoorMX
import Derived.Test.YtdalmmkjmfpffaaGreatDoorProg
import Derived.KernelRfl
import Derived.Test.YtdalmmkjmfpffaaGreatDoorMF
set_option linter.unusedVariables false
set_option linter.unusedSimpArgs false

namespace Go.Proofs.YtdalmmkjmfpffaaGreatDoor
open Go Go.RowKit
attribute [local irreducible] wpList

def Tx.smallP : DPoint := ⟨1 :: List.replicate 31 0, 2⟩
def Tx.small : DTx := ⟨[⟨Tx.smallP, []⟩], [⟨5, []⟩], 0⟩
namespace Sm
theorem chk : Tx.chk Tx.small = 0 := by decide +kernel
theorem len : (Tx.put Tx.small).length = 39 := by decide +kernel
theorem weight : Tx.weight Tx.small = 153 := by decide +kernel
theorem bare : (Tx.put Tx.small).take 38 = Tx.bareB Tx.small := by decide +kernel
theorem ok : Tx.Ok Tx.small := ⟨fun x hx => by
  obtain rfl : x = ⟨Tx.smallP, []⟩ := by simpa [Tx.small] using hx
  exact ⟨rfl, by decide, by decide⟩, fun o ho => by
  obtain rfl : o = ⟨5, []⟩ := by simpa [Tx.small] using ho
  exact ⟨by decide, by decide⟩, by decide, by decide⟩
theorem get : Tx.get (Tx.put Tx.small) = (Tx.small, 0) := by
  have := Tx.get_put chk ok
  unfold Tx.put
  rw [if_pos chk]
  exact this
theorem dig : Tx.dig Tx.tTx Tx.small = Old.Bl.tagged Tx.tTx.data.toList ((Tx.put Tx.small).take 38) := by
  unfold Tx.dig
  rw [if_pos chk, bare]
end Sm
theorem Bs.first {W : World} {S : Nat → Prop} {A : Option Addr} {n c h : Nat} {l : List UInt8} (hb : Bs W S (.slice A n c) l) (hl : l.length = n) (hh : h ≤ n) : Bs W S (.slice A h c) (l.take h) := by
  obtain ⟨A', c', hv, h1, h2, h3⟩ := hb.op
  cases hv
  have hc := h3.cut (a := 0) (b := h) (c := c) (Nat.zero_le _) (by omega) (by omega)
  refine Bs.mk ?_ (by omega) h2
  refine ⟨by simp; omega, fun hn => ?_⟩
  obtain ⟨g, o, e1, e2, e3⟩ := h3.2 (by omega)
  refine ⟨g, o, e1, e2, fun j u hj => e3 j u ?_⟩
  rw [List.map_take, List.getElem?_take] at hj
  split at hj
  · exact hj
  · cases hj
theorem pick_lt {v : Int} {n : Nat} (hn : 0 < n) : ∃ k : Nat, pick v (n : Int) = (k : Int) ∧ k < n := by
  have h : 0 ≤ pick v (n : Int) ∧ pick v (n : Int) < n := by
    unfold pick
    rw [if_neg (by omega)]
    exact ⟨Int.emod_nonneg _ (by omega), Int.emod_lt_of_pos _ (by omega)⟩
  exact ⟨(pick v (n : Int)).toNat, by omega, by omega⟩
theorem Tx.put_ok {t : DTx} (h : Tx.chk t = 0) : Tx.put t = Tx.putB t := by unfold Tx.put; rw [if_pos h]
theorem Tx.put_bad {t : DTx} (h : ¬ Tx.chk t = 0) : Tx.put t = [] := by unfold Tx.put; rw [if_neg h]

set_option maxHeartbeats 4000000 in
theorem smallT (w : World) : Calls Tryz.prog 28 [].toArray w (Ret (NewTx w Tx.small)) := by
  refine k_enter (l := []) Tryz.func28 rfl rfl ?_
  have H := St.start nT w
  refine k_seq ?_
  refine k_region ?_
  refine s_eff (e_alloc (w_none rfl) rfl rfl [.slice none 0 0, .slice none 0 0, .int .i64 0] tz28 H ?_)
  clear H; intro go W H
  refine l_nil ?_
  refine k_seq ?_
  refine k_region ?_
  refine s_run (w_none rfl) rfl (d_build (vs := Tx.smallP.tx.map u8v) rfl (by kernel_rfl)) ?_
  refine s_run (w_none rfl) rfl (d_build (vs := pointC Tx.smallP) rfl (built_fields (places := [(0, 32), (32, 1)]) tz50 (by kernel_rfl) (by kernel_rfl) (fill_next (vs := Tx.smallP.tx.map u8v) (.agg (Tx.smallP.tx.map u8v).toArray) rfl rfl rfl rfl (Nat.le_of_ble_eq_true rfl) (fill_next (vs := [.int .i64 2]) (.int .i64 2) rfl (by rfl) rfl rfl (Nat.le_of_ble_eq_true rfl) (fill_end (by rfl)))))) ?_
  refine s_run (w_none rfl) rfl (d_build (vs := inC Tx.smallP none 0 0) rfl (built_fields (places := [(0, 33), (33, 1)]) tz53 (by kernel_rfl) (by kernel_rfl) (fill_next (vs := pointC Tx.smallP) (.agg (pointC Tx.smallP).toArray) rfl rfl rfl rfl (Nat.le_of_ble_eq_true rfl) (fill_end (by rfl))))) ?_
  refine s_eff (e_bsl (xs := [.tmp 3]) (vals := [.agg (inC Tx.smallP none 0 0).toArray]) (vs := (inC Tx.smallP none 0 0)) (w_none rfl) rfl rfl rfl rfl rfl rfl tu25 ts53 ty53 rfl (by simp [agg_cells, len_in (p := Tx.smallP) rfl]) (by simp [agg_cells]) H ?_)
  clear H; intro g1 W H
  replace H := (((H.torow (s := 34) 1 (by rw [len_in (p := Tx.smallP) rfl]) (by decide)).els0 RIn 34).flat (R := RIn) (cs := inC Tx.smallP none 0 0) (a := ⟨Tx.smallP, []⟩) (in_rep (w := []) rfl ⟨by decide, by decide⟩ rl_nil))
  replace H := St.elsnoc H (len_in (p := Tx.smallP) rfl)
  refine s_run (w_none rfl) rfl (d_build (vs := outC 5 none 0 0) rfl (built_fields (places := [(0, 1), (1, 1)]) tz55 (by kernel_rfl) (by kernel_rfl) (fill_next (vs := [.int .i64 5]) (.int .i64 5) rfl rfl rfl rfl (Nat.le_of_ble_eq_true rfl) (fill_end (by rfl))))) ?_
  refine s_eff (e_bsl (xs := [.tmp 5]) (vals := [.agg (outC 5 none 0 0).toArray]) (vs := (outC 5 none 0 0)) (w_none rfl) rfl rfl rfl rfl rfl rfl tu26 ts55 ty55 rfl (by simp [agg_cells, outC]) (by simp [agg_cells]) H ?_)
  clear H; intro g2 W H
  replace H := (((H.torow (s := 2) 1 rfl (by decide)).els0 ROut 2).flat (R := ROut) (cs := outC 5 none 0 0) (a := ⟨5, []⟩) (out_rep (s := []) ⟨by decide, by decide⟩ Bs.nil))
  replace H := St.elsnoc H rfl
  refine s_run (w_none rfl) rfl (d_build (vs := txC (some ⟨g1, 0, none⟩) 1 1 (some ⟨g2, 0, none⟩) 1 1 0) rfl (built_fields (places := [(0, 1), (1, 1), (2, 1)]) tz28 (by kernel_rfl) (by kernel_rfl) (fill_next (vs := [.slice (some ⟨g1, 0, none⟩) 1 1]) (.slice (some ⟨g1, 0, none⟩) 1 1) rfl rfl rfl rfl (Nat.le_of_ble_eq_true rfl) (fill_next (vs := [.slice (some ⟨g2, 0, none⟩) 1 1]) (.slice (some ⟨g2, 0, none⟩) 1 1) rfl (by rfl) rfl rfl (Nat.le_of_ble_eq_true rfl) (fill_end (by rfl)))))) ?_
  refine s_eff (e_sto (w_none rfl) rfl rfl rfl rfl rfl ts28 rfl H rfl ?_)
  clear H; intro W H
  refine l_nil ?_
  refine k_ret ?_
  repeat (first | refine r_then ?_ | refine r_blk ?_)
  refine q_retc rfl (c := txC (some ⟨g1, 0, none⟩) 1 1 (some ⟨g2, 0, none⟩) 1 1 0) (g := go) H rfl ta28 ts28 ⟨_, rfl, some ⟨g1, 0, none⟩, 1, some ⟨g2, 0, none⟩, 1, inC Tx.smallP none 0 0, outC 5 none 0 0, (fun _ => False ∨ False), (fun _ => False ∨ False), rfl, ⟨by decide, by decide⟩, ⟨by decide, by decide⟩, ?_⟩
  exact (H.sub (L' := [_, _, _, _]) (by repeat (first | exact List.Sublist.refl _ | exact List.nil_sublist _ | refine List.Sublist.cons_cons _ ?_ | refine List.Sublist.cons _ ?_))).perm (.trans (List.perm_append_comm (l₁ := [_, _]) (l₂ := [_, _])) (.trans (.swap _ _ _) (.cons _ (.cons _ (.swap _ _ _)))))

set_option maxHeartbeats 4000000 in
theorem works07 (w : World) (hG : Gat w 0 formsC) (hB : Old.Gl w) : Calls Tryz.prog 6 [].toArray w (Ret (Is w (.bool true))) := by
  have hl39 := Sm.len
  refine k_enter (l := []) Tryz.func6 rfl rfl ?_
  have H := St.start nT w
  refine k_seq ?_
  refine k_region ?_
  refine s_run (w_none rfl) rfl (as_b rfl rfl) ?_
  refine l_nil ?_
  refine k_seq ?_
  refine k_region ?_
  refine s_eff (e_call (w_none rfl) rfl rfl Tryz.func28 rfl rfl rfl (smallT _) ?_)
  rintro _ W hs_
  obtain ⟨Sn1, An1, cn1, Bn1, dn1, rfl, H1_⟩ := NewTx.rep hs_ H ⟨by decide, by decide⟩
  clear H hs_
  have H := H1_
  clear H1_
  refine s_eff (e_call (w_none rfl) rfl rfl Tryz.func15 rfl rfl rfl (putTP _ (H.rep1 (R := RTx) (S := Sn1) (cs := txC An1 Tx.small.ins.length cn1 Bn1 Tx.small.outs.length dn1 Tx.small.lock) (a := Tx.small)) (H.gat hG)) ?_)
  rintro _ W ⟨_, rfl, A1, c1, rfl, hc1, hd1, hn⟩
  replace H := H.new hn
  clear hn
  refine s_run (w_none rfl) rfl (mv_t rfl rfl) ?_
  refine s_run (w_none rfl) rfl (d_ext rfl rfl rfl) ?_
  refine s_run (w_none rfl) rfl (d_ext rfl rfl rfl) ?_
  refine s_run (w_none rfl) rfl (as_s rfl rfl) ?_
  refine s_run (w_none rfl) rfl (as_i rfl rfl) ?_
  refine l_nil ?_
  refine k_seq ?_
  refine k_region ?_
  refine s_run (w_none rfl) rfl (mv_s rfl rfl) ?_
  refine s_eff (e_call (w_none rfl) rfl rfl Tryz.func8 rfl rfl rfl (getTP _ (H.rowbs (A := A1) rfl) (by omega) (H.gat hG)) ?_)
  rintro _ W hs_
  obtain ⟨Sg1, Ag1, cg1, Bg1, dg1, rfl, H1_⟩ := GotTx.rep hs_ H
  clear H hs_
  have H := H1_
  clear H1_
  refine s_run (w_none rfl) rfl (mv_t rfl rfl) ?_
  refine s_run (w_none rfl) rfl (d_ext rfl rfl rfl) ?_
  refine s_run (w_none rfl) rfl (d_ext rfl rfl rfl) ?_
  refine s_eff (e_alloc (w_none rfl) rfl rfl [.slice none 0 0, .slice none 0 0, .int .i64 0] tz28 H ?_)
  clear H; intro g3 W H
  refine s_eff (e_stoK (txC Ag1 (Tx.get (Tx.put Tx.small)).1.ins.length cg1 Bg1 (Tx.get (Tx.put Tx.small)).1.outs.length dg1 (Tx.get (Tx.put Tx.small)).1.lock) (w_none rfl) rfl rfl rfl rfl rfl ts28 rfl rfl H (by decide) rfl ?_)
  clear H; intro W H
  refine s_run (w_none rfl) rfl (as_i rfl rfl) ?_
  refine l_nil ?_
  refine k_seq ?_
  refine k_draw [(0, true), (1, true), (2, true), (3, true), (4, true), (5, true), (6, true), (7, true), (8, true), (9, true), (10, true), (11, true), (12, false), (13, false), (14, true), (15, true), (16, true), (17, true), (18, false), (19, false), (20, true), (21, true), (24, true), (25, true), (22, false), (23, false), (26, false), (27, true), (28, true), (29, true)] [Fact.blk g3 (txC Ag1 (Tx.get (Tx.put Tx.small)).1.ins.length cg1 Bg1 (Tx.get (Tx.put Tx.small)).1.outs.length dg1 (Tx.get (Tx.put Tx.small)).1.lock) 28] (by kernel_rfl) (by kernel_rfl) H (by repeat (first | exact List.Sublist.refl _ | exact List.nil_sublist _ | refine List.Sublist.cons_cons _ ?_ | refine List.Sublist.cons _ ?_)) ?_
  clear H; intro W H
  refine c_run rfl (w_none rfl) rfl (fun W H => mv_i rfl rfl) ?_
  refine c_run rfl (w_none rfl) rfl (fun W H => d_eq rfl rfl rfl) ?_
  refine c_run rfl (w_none rfl) rfl (fun W H => mv_bx (c := true) rfl rfl (by rw [Sm.chk]; rfl)) ?_
  refine c_run rfl (w_g rfl rfl rfl rfl) rfl (fun W H => mv_i rfl rfl) ?_
  refine c_run rfl (w_g rfl rfl rfl rfl) rfl (fun W H => d_eq rfl rfl rfl) ?_
  refine c_run rfl (w_none rfl) rfl (fun W H => d_pickT rfl rfl rfl) ?_
  refine c_run rfl (w_none rfl) rfl (fun W H => mv_bx (c := true) rfl rfl (by rw [Sm.get]; rfl)) ?_
  refine c_run rfl (w_g rfl rfl rfl rfl) rfl (fun W H => mv_s rfl rfl) ?_
  refine c_run rfl (w_g rfl rfl rfl rfl) rfl (fun W H => d_len rfl rfl tu22) ?_
  refine c_run rfl (w_g rfl rfl rfl rfl) rfl (fun W H => d_eq rfl rfl rfl) ?_
  refine c_run rfl (w_none rfl) rfl (fun W H => d_pickT rfl rfl rfl) ?_
  refine c_run rfl (w_none rfl) rfl (fun W H => mv_bx (c := true) rfl rfl (by rw [Sm.len]; rfl)) ?_
  refine c_eff rfl (e_call (w_g rfl rfl rfl rfl) rfl rfl Tryz.func28 rfl rfl rfl (smallT _) ?_)
  rintro _ W hs_
  obtain ⟨Sn2, An2, cn2, Bn2, dn2, rfl, H1_⟩ := NewTx.rep hs_ H ⟨by decide, by decide⟩
  clear H hs_
  have H := H1_
  clear H1_
  refine ⟨H.sub (by repeat (first | exact List.Sublist.refl _ | exact List.nil_sublist _ | refine List.Sublist.cons_cons _ ?_ | refine List.Sublist.cons _ ?_)), ?_⟩
  refine c_eff rfl (e_call (w_g rfl rfl rfl rfl) rfl rfl Tryz.func26 rfl rfl rfl (weightTP _ (H.rep1 (R := RTx) (S := Sn2) (cs := txC An2 Tx.small.ins.length cn2 Bn2 Tx.small.outs.length dn2 Tx.small.lock) (a := Tx.small)) (H.gat hG)) ?_)
  rintro _ W ⟨rfl, hb⟩
  replace H := H.below hb
  clear hb
  refine ⟨H.sub (by repeat (first | exact List.Sublist.refl _ | exact List.nil_sublist _ | refine List.Sublist.cons_cons _ ?_ | refine List.Sublist.cons _ ?_)), ?_⟩
  refine c_run rfl (w_g rfl rfl rfl rfl) rfl (fun W H => d_eq rfl rfl rfl) ?_
  refine c_run rfl (w_none rfl) rfl (fun W H => d_pickT rfl rfl rfl) ?_
  refine c_run rfl (w_none rfl) rfl (fun W H => mv_bx (c := true) rfl rfl (by rw [Sm.weight]; rfl)) ?_
  refine c_run rfl (w_g rfl rfl rfl rfl) rfl (fun W H => d_ldXM (g := g3) (off := 0) rfl H (sub_all (a := txC Ag1 (Tx.get (Tx.put Tx.small)).1.ins.length cg1 Bg1 (Tx.get (Tx.put Tx.small)).1.outs.length dg1 (Tx.get (Tx.put Tx.small)).1.lock) (m := 3) rfl) rfl rfl rfl rfl ta28 ts28) ?_
  refine c_eff rfl (e_call (w_g rfl rfl rfl rfl) rfl rfl Tryz.func28 rfl rfl rfl (smallT _) ?_)
  rintro _ W hs_
  obtain ⟨Sn3, An3, cn3, Bn3, dn3, rfl, H1_⟩ := NewTx.rep hs_ H ⟨by decide, by decide⟩
  clear H hs_
  have H := H1_
  clear H1_
  refine ⟨H.sub (by repeat (first | exact List.Sublist.refl _ | exact List.nil_sublist _ | refine List.Sublist.cons_cons _ ?_ | refine List.Sublist.cons _ ?_)), ?_⟩
  refine c_eff rfl (e_call (w_g rfl rfl rfl rfl) rfl rfl Tryz.func10 rfl rfl rfl (sameTx _ (H.rep1 (R := RTx) (S := Sg1) (cs := txC Ag1 (Tx.get (Tx.put Tx.small)).1.ins.length cg1 Bg1 (Tx.get (Tx.put Tx.small)).1.outs.length dg1 (Tx.get (Tx.put Tx.small)).1.lock) (a := (Tx.get (Tx.put Tx.small)).1)) (H.rep1 (R := RTx) (S := Sn3) (cs := txC An3 Tx.small.ins.length cn3 Bn3 Tx.small.outs.length dn3 Tx.small.lock) (a := Tx.small))) ?_)
  rintro _ W ⟨rfl, hb⟩
  replace H := H.below hb
  clear hb
  refine ⟨H.sub (by repeat (first | exact List.Sublist.refl _ | exact List.nil_sublist _ | refine List.Sublist.cons_cons _ ?_ | refine List.Sublist.cons _ ?_)), ?_⟩
  refine c_run rfl (w_none rfl) rfl (fun W H => d_pickT rfl rfl rfl) ?_
  refine c_run rfl (w_none rfl) rfl (fun W H => mv_bx (c := true) rfl rfl (by rw [Sm.get]; exact decide_eq_true rfl)) ?_
  refine c_run rfl (w_g rfl rfl rfl rfl) rfl (fun W H => mv_s rfl rfl) ?_
  refine c_run rfl (w_g rfl rfl rfl rfl) rfl (fun W H => d_cutP rfl rfl (h := 38) rfl (by omega) rfl tu22 ts5) ?_
  refine c_eff rfl (e_call (w_g rfl rfl rfl rfl) rfl rfl Tryz.func28 rfl rfl rfl (smallT _) ?_)
  rintro _ W hs_
  obtain ⟨Sn4, An4, cn4, Bn4, dn4, rfl, H1_⟩ := NewTx.rep hs_ H ⟨by decide, by decide⟩
  clear H hs_
  have H := H1_
  clear H1_
  refine ⟨H.sub (by repeat (first | exact List.Sublist.refl _ | exact List.nil_sublist _ | refine List.Sublist.cons_cons _ ?_ | refine List.Sublist.cons _ ?_)), ?_⟩
  refine c_eff rfl (e_call (w_g rfl rfl rfl rfl) rfl rfl Tryz.func22 rfl rfl rfl (idTP _ (H.rep1 (R := RTx) (S := Sn4) (cs := txC An4 Tx.small.ins.length cn4 Bn4 Tx.small.outs.length dn4 Tx.small.lock) (a := Tx.small)) (H.gat hG) (H.gl hB)) ?_)
  rintro _ W ⟨rfl, hb⟩
  replace H := H.below hb
  clear hb
  refine ⟨H.sub (by repeat (first | exact List.Sublist.refl _ | exact List.nil_sublist _ | refine List.Sublist.cons_cons _ ?_ | refine List.Sublist.cons _ ?_)), ?_⟩
  refine c_eff rfl (e_call (w_g rfl rfl rfl rfl) rfl rfl Tryz.func34 rfl rfl rfl (taggedB (s := Tx.tTx) _ (H.gl hB) (Bs.first (h := 38) (H.rowbs (A := A1) rfl) rfl (by omega)) (by decide) (by rw [List.length_take]; omega)) ?_)
  rintro _ W ⟨rfl, hb⟩
  replace H := H.below hb
  clear hb
  refine ⟨H.sub (by repeat (first | exact List.Sublist.refl _ | exact List.nil_sublist _ | refine List.Sublist.cons_cons _ ?_ | refine List.Sublist.cons _ ?_)), ?_⟩
  refine c_run rfl (w_g rfl rfl rfl rfl) rfl (fun W H => d_eqarr rfl rfl rfl tu43 tu5 ts5 Tx.len_dig (Old.Bl.len_tagged _ _) (by kernel_rfl)) ?_
  refine c_run rfl (w_none rfl) rfl (fun W H => d_pickT rfl rfl rfl) ?_
  refine c_run rfl (w_none rfl) rfl (fun W H => as_b rfl rfl) ?_
  refine c_nil ?_
  refine k_ret ?_
  repeat (first | refine r_then ?_ | refine r_blk ?_)
  exact q_ret (v := .bool _) rfl rfl ⟨_, rfl, vb (by rw [Sm.dig]; simp), H.under⟩

set_option maxHeartbeats 4000000 in
theorem txBack {S1 : Nat → Prop} {u : Value} {b : List UInt8} {S : Nat → Prop} {cs : List Value} {t : DTx} (w : World) (hG : Gat w 0 formsC) (hB : Old.Gl w) (ht : RTx w S cs t) (hz : Tx.Szd t) (hm : Bs w S1 u b) : Calls Tryz.prog 29 [.agg cs.toArray, u].toArray w (Ret (Is w (.bool true))) := by
  obtain ⟨A, c, B, d, rfl, hI, hO, hk⟩ := tx_of ht
  have hok := tx_ok ht
  have hm0 := hm
  obtain ⟨Am, cm, rfl, hcm1, hcm2, hmr⟩ := hm.op
  refine k_enter (l := [_, _]) Tryz.func29 rfl rfl ?_
  have H := St.start nT w
  refine k_seq ?_
  refine k_region ?_
  refine s_eff (e_box (vs := (txC A t.ins.length c B t.outs.length d t.lock)) (w_none rfl) rfl rfl rfl rfl H ?_)
  clear H; intro gm W H
  refine s_run (w_none rfl) rfl (as_b rfl rfl) ?_
  refine l_nil ?_
  refine k_seq ?_
  refine k_seq ?_
  rcases hbig : Tx.big 40 8192 t with _ | _
  · have hsm := Tx.not_big hbig (by decide)
    refine k_region ?_
    refine s_run (w_none rfl) rfl (d_ldXM (g := gm) (off := 0) rfl H (sub_all (a := txC A t.ins.length c B t.outs.length d t.lock) (m := 3) rfl) rfl rfl rfl rfl ta28 ts28) ?_
    refine s_eff (e_call (w_none rfl) rfl rfl Tryz.func13 rfl rfl rfl (bigTx (rows := 40) (bytes := 8192) _ (keeps_Tx _ _ _ _ _ ht (fun g hg _ => H.fr.block g hg (fun h => h))) hz) ?_)
    rintro _ W ⟨rfl, hb⟩
    replace H := H.below hb
    clear hb
    refine s_run (w_none rfl) rfl (mv_bx (c := false) rfl rfl (by rw [hbig])) ?_
    refine s_run (w_g rfl rfl rfl rfl) rfl (mv_s rfl rfl) ?_
    refine s_run (w_g rfl rfl rfl rfl) rfl (d_len rfl rfl tu22) ?_
    refine s_run (w_g rfl rfl rfl rfl) rfl (d_gt rfl rfl rfl) ?_
    refine s_run (w_none rfl) rfl (d_pickF rfl rfl rfl) ?_
    refine l_nil ?_
    refine k_cond rfl (fun hc19 => ?_) (fun hc19 => ?_)
    · skip
      refine k_seq ?_
      refine k_region ?_
      refine s_eff (e_call (w_none rfl) rfl rfl Tryz.func6 rfl rfl rfl (works07 _ (H.gat hG) (H.gl hB)) ?_)
      rintro _ W ⟨rfl, hb⟩
      replace H := H.below hb
      clear hb
      refine s_run (w_none rfl) rfl (as_b rfl rfl) ?_
      refine l_nil ?_
      refine k_ret ?_
      repeat (first | refine r_then ?_ | refine r_blk ?_)
      exact q_ret (v := .bool _) rfl rfl ⟨_, rfl, rfl, H.under⟩
    · have hbl : b.length ≤ 16384 := by simp at hc19; omega
      refine k_skip ?_
      refine k_seq ?_
      refine k_region ?_
      refine s_run (w_none rfl) rfl (d_ldXM (g := gm) (off := 0) rfl H (sub_all (a := txC A t.ins.length c B t.outs.length d t.lock) (m := 3) rfl) rfl rfl rfl rfl ta28 ts28) ?_
      refine s_eff (e_call (w_none rfl) rfl rfl Tryz.func15 rfl rfl rfl (putTP _ (keeps_Tx _ _ _ _ _ ht (fun g hg _ => H.fr.block g hg (fun h => h))) (H.gat hG)) ?_)
      rintro _ W ⟨_, rfl, A1, c1, rfl, hc1, hd1, hn⟩
      replace H := H.new hn
      clear hn
      refine s_run (w_none rfl) rfl (mv_t rfl rfl) ?_
      refine s_run (w_none rfl) rfl (d_ext rfl rfl rfl) ?_
      refine s_run (w_none rfl) rfl (d_ext rfl rfl rfl) ?_
      refine s_run (w_none rfl) rfl (as_s rfl rfl) ?_
      refine s_run (w_none rfl) rfl (as_i rfl rfl) ?_
      refine l_nil ?_
      refine k_seq ?_
      refine k_seq ?_
      by_cases hne : Tx.chk t = 0
      · have hpl := Tx.len_putB hne hok
        have hge : Tx.get (Tx.put t) = (t, 0) := by rw [Tx.put_ok hne]; exact Tx.get_put hne hok
        refine k_region ?_
        refine s_run (w_none rfl) rfl (mv_i rfl rfl) ?_
        refine s_run (w_none rfl) rfl (d_ldXM (g := gm) (off := 0) rfl H (sub_all (a := txC A t.ins.length c B t.outs.length d t.lock) (m := 3) rfl) rfl rfl rfl rfl ta28 ts28) ?_
        refine s_eff (e_call (w_none rfl) rfl rfl Tryz.func19 rfl rfl rfl (checkTP _ (keeps_Tx _ _ _ _ _ ht (fun g hg _ => H.fr.block g hg (fun h => h)))) ?_)
        rintro _ W ⟨rfl, hb⟩
        replace H := H.below hb
        clear hb
        refine s_run (w_none rfl) rfl (d_ne rfl rfl rfl) ?_
        refine s_run (w_none rfl) rfl (mv_bx (c := false) rfl rfl (by simp)) ?_
        refine s_run (w_g rfl rfl rfl rfl) rfl (mv_i rfl rfl) ?_
        refine s_run (w_g rfl rfl rfl rfl) rfl (d_ne rfl rfl rfl) ?_
        refine s_run (w_g rfl rfl rfl rfl) rfl (mv_bx (c := false) rfl rfl (by simp [hne])) ?_
        refine s_skip (w_gno rfl rfl rfl rfl rfl) rfl ?_
        refine s_skip (w_gno rfl rfl rfl rfl rfl) rfl ?_
        refine s_skip (w_gno rfl rfl rfl rfl rfl) rfl ?_
        refine s_run (w_g rfl rfl rfl rfl) rfl (d_pickF rfl rfl rfl) ?_
        refine s_run (w_none rfl) rfl (d_pickF rfl rfl rfl) ?_
        refine l_nil ?_
        refine k_condF rfl rfl ?_
        refine k_skip ?_
        refine k_seq ?_
        refine k_seq ?_
        refine k_region ?_
        refine s_run (w_none rfl) rfl (mv_i rfl rfl) ?_
        refine s_run (w_none rfl) rfl (d_eq rfl rfl rfl) ?_
        refine l_nil ?_
        refine k_condT rfl (by rw [hne]; rfl) ?_
        refine k_seq ?_
        refine k_region ?_
        refine s_run (w_none rfl) rfl (mv_s rfl rfl) ?_
        refine s_eff (e_call (w_none rfl) rfl rfl Tryz.func8 rfl rfl rfl (getTP _ (H.rowbs (A := A1) rfl) (by rw [Tx.put_ok hne]; omega) (H.gat hG)) ?_)
        rintro _ W hs_
        obtain ⟨Sg1, Ag1, cg1, Bg1, dg1, rfl, H1_⟩ := GotTx.rep hs_ H
        clear H hs_
        have H := H1_
        clear H1_
        refine s_run (w_none rfl) rfl (mv_t rfl rfl) ?_
        refine s_run (w_none rfl) rfl (d_ext rfl rfl rfl) ?_
        refine s_run (w_none rfl) rfl (d_ext rfl rfl rfl) ?_
        refine s_eff (e_alloc (w_none rfl) rfl rfl [.slice none 0 0, .slice none 0 0, .int .i64 0] tz28 H ?_)
        clear H; intro g5 W H
        refine s_eff (e_stoK (txC Ag1 (Tx.get (Tx.put t)).1.ins.length cg1 Bg1 (Tx.get (Tx.put t)).1.outs.length dg1 (Tx.get (Tx.put t)).1.lock) (w_none rfl) rfl rfl rfl rfl rfl ts28 rfl rfl H (by decide) rfl ?_)
        clear H; intro W H
        refine s_run (w_none rfl) rfl (as_i rfl rfl) ?_
        refine l_nil ?_
        refine k_seq ?_
        refine k_region ?_
        refine s_run (w_none rfl) rfl (mv_i rfl rfl) ?_
        refine s_run (w_none rfl) rfl (d_ne rfl rfl rfl) ?_
        refine s_run (w_none rfl) rfl (mv_bx (c := false) rfl rfl (by rw [hge]; rfl)) ?_
        refine s_run (w_g rfl rfl rfl rfl) rfl (d_ldXM (g := g5) (off := 0) rfl H (sub_all (a := txC Ag1 (Tx.get (Tx.put t)).1.ins.length cg1 Bg1 (Tx.get (Tx.put t)).1.outs.length dg1 (Tx.get (Tx.put t)).1.lock) (m := 3) rfl) rfl rfl rfl rfl ta28 ts28) ?_
        refine s_run (w_g rfl rfl rfl rfl) rfl (d_ldXM (g := gm) (off := 0) rfl H (sub_all (a := txC A t.ins.length c B t.outs.length d t.lock) (m := 3) rfl) rfl rfl rfl rfl ta28 ts28) ?_
        refine s_eff (e_call (w_g rfl rfl rfl rfl) rfl rfl Tryz.func10 rfl rfl rfl (sameTx _ (H.rep1 (R := RTx) (S := Sg1) (cs := txC Ag1 (Tx.get (Tx.put t)).1.ins.length cg1 Bg1 (Tx.get (Tx.put t)).1.outs.length dg1 (Tx.get (Tx.put t)).1.lock) (a := (Tx.get (Tx.put t)).1)) (keeps_Tx _ _ _ _ _ ht (fun g hg _ => H.fr.block g hg (fun h => h)))) ?_)
        rintro _ W ⟨rfl, hb⟩
        replace H := H.below hb
        clear hb
        refine s_run (w_g rfl rfl rfl rfl) rfl (d_not rfl rfl) ?_
        refine s_run (w_none rfl) rfl (d_pickF rfl rfl rfl) ?_
        refine l_nil ?_
        refine k_condF rfl (by rw [hge]; simp) ?_
        refine k_skip ?_
        refine k_seq ?_
        refine k_region ?_
        refine s_run (w_none rfl) rfl (mv_s rfl rfl) ?_
        refine s_eff (e_call (w_none rfl) rfl rfl Tryz.func8 rfl rfl rfl (getTP _ (H.bs hm0) (by omega) (H.gat hG)) ?_)
        rintro _ W hs_
        obtain ⟨Sg2, Ag2, cg2, Bg2, dg2, rfl, H1_⟩ := GotTx.rep hs_ H
        clear H hs_
        have H := H1_
        clear H1_
        refine s_run (w_none rfl) rfl (mv_t rfl rfl) ?_
        refine s_run (w_none rfl) rfl (d_ext rfl rfl rfl) ?_
        refine s_run (w_none rfl) rfl (d_ext rfl rfl rfl) ?_
        refine s_eff (e_alloc (w_none rfl) rfl rfl [.slice none 0 0, .slice none 0 0, .int .i64 0] tz28 H ?_)
        clear H; intro g6 W H
        refine s_eff (e_stoK (txC Ag2 (Tx.get b).1.ins.length cg2 Bg2 (Tx.get b).1.outs.length dg2 (Tx.get b).1.lock) (w_none rfl) rfl rfl rfl rfl rfl ts28 rfl rfl H (by decide) rfl ?_)
        clear H; intro W H
        refine s_run (w_none rfl) rfl (as_i rfl rfl) ?_
        refine l_nil ?_
        refine k_seq ?_
        refine k_seq ?_
        refine k_region ?_
        refine s_run (w_none rfl) rfl (mv_i rfl rfl) ?_
        refine s_run (w_none rfl) rfl (d_ne rfl rfl rfl) ?_
        refine l_nil ?_
        refine k_cond rfl (fun hc60 => ?_) (fun hc60 => ?_)
        · have hgn : (Tx.get b).2 ≠ 0 := by simpa using hc60
          refine k_seq ?_
          refine k_region ?_
          refine s_run (w_none rfl) rfl (d_ldXM (g := g6) (off := 0) rfl H (sub_all (a := txC Ag2 (Tx.get b).1.ins.length cg2 Bg2 (Tx.get b).1.outs.length dg2 (Tx.get b).1.lock) (m := 3) rfl) rfl rfl rfl rfl ta28 ts28) ?_
          refine s_run (w_none rfl) rfl (d_build (vs := txC none 0 0 none 0 0 0) rfl (by kernel_rfl)) ?_
          refine s_eff (e_call (w_none rfl) rfl rfl Tryz.func10 rfl rfl rfl (sameTx (S1 := nT) (u := Tx.zero) _ (H.rep1 (R := RTx) (S := Sg2) (cs := txC Ag2 (Tx.get b).1.ins.length cg2 Bg2 (Tx.get b).1.outs.length dg2 (Tx.get b).1.lock) (a := (Tx.get b).1)) ⟨_, _, _, rfl, rl_nil, rl_nil, rfl, by decide, by decide⟩) ?_)
          rintro _ W ⟨rfl, hb⟩
          replace H := H.below hb
          clear hb
          refine s_run (w_none rfl) rfl (mv_bx (c := true) rfl rfl (by rw [Tx.get_zero hgn]; exact decide_eq_true rfl)) ?_
          refine s_eff (e_call (w_g rfl rfl rfl rfl) rfl rfl Tryz.func6 rfl rfl rfl (works07 _ (H.gat hG) (H.gl hB)) ?_)
          rintro _ W ⟨rfl, hb⟩
          replace H := H.below hb
          clear hb
          refine s_run (w_none rfl) rfl (d_pickT rfl rfl rfl) ?_
          refine s_run (w_none rfl) rfl (as_b rfl rfl) ?_
          refine l_nil ?_
          refine k_ret ?_
          repeat (first | refine r_then ?_ | refine r_blk ?_)
          exact q_ret (v := .bool _) rfl rfl ⟨_, rfl, rfl, H.under⟩
        · have hgn : (Tx.get b).2 = 0 := by simpa using hc60
          obtain ⟨hgc, hgb⟩ := Tx.get_back hgn
          have hgp : Tx.put (Tx.get b).1 = b := by rw [Tx.put_ok hgc]; exact hgb
          refine k_skip ?_
          refine k_seq ?_
          refine k_region ?_
          refine s_run (w_none rfl) rfl (d_ldXM (g := g6) (off := 0) rfl H (sub_all (a := txC Ag2 (Tx.get b).1.ins.length cg2 Bg2 (Tx.get b).1.outs.length dg2 (Tx.get b).1.lock) (m := 3) rfl) rfl rfl rfl rfl ta28 ts28) ?_
          refine s_eff (e_call (w_none rfl) rfl rfl Tryz.func15 rfl rfl rfl (putTP _ (H.rep1 (R := RTx) (S := Sg2) (cs := txC Ag2 (Tx.get b).1.ins.length cg2 Bg2 (Tx.get b).1.outs.length dg2 (Tx.get b).1.lock) (a := (Tx.get b).1)) (H.gat hG)) ?_)
          rintro _ W ⟨_, rfl, A3, c3, rfl, hc3, hd3, hn⟩
          replace H := H.new hn
          clear hn
          refine s_run (w_none rfl) rfl (mv_t rfl rfl) ?_
          refine s_run (w_none rfl) rfl (d_ext rfl rfl rfl) ?_
          refine s_run (w_none rfl) rfl (d_ext rfl rfl rfl) ?_
          refine s_run (w_none rfl) rfl (as_s rfl rfl) ?_
          refine s_run (w_none rfl) rfl (as_i rfl rfl) ?_
          refine l_nil ?_
          refine k_seq ?_
          refine k_region ?_
          refine s_run (w_none rfl) rfl (mv_i rfl rfl) ?_
          refine s_run (w_none rfl) rfl (d_eq rfl rfl rfl) ?_
          refine s_run (w_none rfl) rfl (mv_bx (c := true) rfl rfl (by rw [hgc]; rfl)) ?_
          refine s_run (w_g rfl rfl rfl rfl) rfl (mv_s rfl rfl) ?_
          refine s_run (w_g rfl rfl rfl rfl) rfl (mv_s rfl rfl) ?_
          refine s_eff (e_call (w_g rfl rfl rfl rfl) rfl rfl Tryz.func20 rfl rfl rfl (sameBytes _ _ (Tx.put (Tx.get b).1) b _ (H.rowbs (A := A3) rfl) (H.bs hm0)) ?_)
          rintro _ W ⟨rfl, hb⟩
          replace H := H.below hb
          clear hb
          refine s_run (w_none rfl) rfl (d_pickT rfl rfl rfl) ?_
          refine s_run (w_none rfl) rfl (mv_bx (c := true) rfl rfl (by rw [hgp]; exact decide_eq_true rfl)) ?_
          refine s_eff (e_call (w_g rfl rfl rfl rfl) rfl rfl Tryz.func6 rfl rfl rfl (works07 _ (H.gat hG) (H.gl hB)) ?_)
          rintro _ W ⟨rfl, hb⟩
          replace H := H.below hb
          clear hb
          refine s_run (w_none rfl) rfl (d_pickT rfl rfl rfl) ?_
          refine s_run (w_none rfl) rfl (as_b rfl rfl) ?_
          refine l_nil ?_
          refine k_ret ?_
          repeat (first | refine r_then ?_ | refine r_blk ?_)
          exact q_ret (v := .bool _) rfl rfl ⟨_, rfl, rfl, H.under⟩
      · have hpb := Tx.put_bad hne
        refine k_region ?_
        refine s_run (w_none rfl) rfl (mv_i rfl rfl) ?_
        refine s_run (w_none rfl) rfl (d_ldXM (g := gm) (off := 0) rfl H (sub_all (a := txC A t.ins.length c B t.outs.length d t.lock) (m := 3) rfl) rfl rfl rfl rfl ta28 ts28) ?_
        refine s_eff (e_call (w_none rfl) rfl rfl Tryz.func19 rfl rfl rfl (checkTP _ (keeps_Tx _ _ _ _ _ ht (fun g hg _ => H.fr.block g hg (fun h => h)))) ?_)
        rintro _ W ⟨rfl, hb⟩
        replace H := H.below hb
        clear hb
        refine s_run (w_none rfl) rfl (d_ne rfl rfl rfl) ?_
        refine s_run (w_none rfl) rfl (mv_bx (c := false) rfl rfl (by simp)) ?_
        refine s_run (w_g rfl rfl rfl rfl) rfl (mv_i rfl rfl) ?_
        refine s_run (w_g rfl rfl rfl rfl) rfl (d_ne rfl rfl rfl) ?_
        refine s_run (w_g rfl rfl rfl rfl) rfl (mv_bx (c := true) rfl rfl (by simp [hne])) ?_
        refine s_run (w_g rfl rfl rfl rfl) rfl (mv_s rfl rfl) ?_
        refine s_run (w_g rfl rfl rfl rfl) rfl (d_len rfl rfl tu22) ?_
        refine s_run (w_g rfl rfl rfl rfl) rfl (d_gt rfl rfl rfl) ?_
        refine s_run (w_g rfl rfl rfl rfl) rfl (d_pickT rfl rfl rfl) ?_
        refine s_run (w_none rfl) rfl (d_pickF rfl rfl rfl) ?_
        refine l_nil ?_
        refine k_condF rfl (by rw [hpb]; rfl) ?_
        refine k_skip ?_
        refine k_seq ?_
        refine k_seq ?_
        refine k_region ?_
        refine s_run (w_none rfl) rfl (mv_i rfl rfl) ?_
        refine s_run (w_none rfl) rfl (d_eq rfl rfl rfl) ?_
        refine l_nil ?_
        refine k_condF rfl (by simpa using hne) ?_
        refine k_skip ?_
        refine k_seq ?_
        refine k_region ?_
        refine s_run (w_none rfl) rfl (mv_s rfl rfl) ?_
        refine s_eff (e_call (w_none rfl) rfl rfl Tryz.func8 rfl rfl rfl (getTP _ (H.bs hm0) (by omega) (H.gat hG)) ?_)
        rintro _ W hs_
        obtain ⟨Sg2, Ag2, cg2, Bg2, dg2, rfl, H1_⟩ := GotTx.rep hs_ H
        clear H hs_
        have H := H1_
        clear H1_
        refine s_run (w_none rfl) rfl (mv_t rfl rfl) ?_
        refine s_run (w_none rfl) rfl (d_ext rfl rfl rfl) ?_
        refine s_run (w_none rfl) rfl (d_ext rfl rfl rfl) ?_
        refine s_eff (e_alloc (w_none rfl) rfl rfl [.slice none 0 0, .slice none 0 0, .int .i64 0] tz28 H ?_)
        clear H; intro g6 W H
        refine s_eff (e_stoK (txC Ag2 (Tx.get b).1.ins.length cg2 Bg2 (Tx.get b).1.outs.length dg2 (Tx.get b).1.lock) (w_none rfl) rfl rfl rfl rfl rfl ts28 rfl rfl H (by decide) rfl ?_)
        clear H; intro W H
        refine s_run (w_none rfl) rfl (as_i rfl rfl) ?_
        refine l_nil ?_
        refine k_seq ?_
        refine k_seq ?_
        refine k_region ?_
        refine s_run (w_none rfl) rfl (mv_i rfl rfl) ?_
        refine s_run (w_none rfl) rfl (d_ne rfl rfl rfl) ?_
        refine l_nil ?_
        refine k_cond rfl (fun hc60 => ?_) (fun hc60 => ?_)
        · have hgn : (Tx.get b).2 ≠ 0 := by simpa using hc60
          refine k_seq ?_
          refine k_region ?_
          refine s_run (w_none rfl) rfl (d_ldXM (g := g6) (off := 0) rfl H (sub_all (a := txC Ag2 (Tx.get b).1.ins.length cg2 Bg2 (Tx.get b).1.outs.length dg2 (Tx.get b).1.lock) (m := 3) rfl) rfl rfl rfl rfl ta28 ts28) ?_
          refine s_run (w_none rfl) rfl (d_build (vs := txC none 0 0 none 0 0 0) rfl (by kernel_rfl)) ?_
          refine s_eff (e_call (w_none rfl) rfl rfl Tryz.func10 rfl rfl rfl (sameTx (S1 := nT) (u := Tx.zero) _ (H.rep1 (R := RTx) (S := Sg2) (cs := txC Ag2 (Tx.get b).1.ins.length cg2 Bg2 (Tx.get b).1.outs.length dg2 (Tx.get b).1.lock) (a := (Tx.get b).1)) ⟨_, _, _, rfl, rl_nil, rl_nil, rfl, by decide, by decide⟩) ?_)
          rintro _ W ⟨rfl, hb⟩
          replace H := H.below hb
          clear hb
          refine s_run (w_none rfl) rfl (mv_bx (c := true) rfl rfl (by rw [Tx.get_zero hgn]; exact decide_eq_true rfl)) ?_
          refine s_eff (e_call (w_g rfl rfl rfl rfl) rfl rfl Tryz.func6 rfl rfl rfl (works07 _ (H.gat hG) (H.gl hB)) ?_)
          rintro _ W ⟨rfl, hb⟩
          replace H := H.below hb
          clear hb
          refine s_run (w_none rfl) rfl (d_pickT rfl rfl rfl) ?_
          refine s_run (w_none rfl) rfl (as_b rfl rfl) ?_
          refine l_nil ?_
          refine k_ret ?_
          repeat (first | refine r_then ?_ | refine r_blk ?_)
          exact q_ret (v := .bool _) rfl rfl ⟨_, rfl, rfl, H.under⟩
        · have hgn : (Tx.get b).2 = 0 := by simpa using hc60
          obtain ⟨hgc, hgb⟩ := Tx.get_back hgn
          have hgp : Tx.put (Tx.get b).1 = b := by rw [Tx.put_ok hgc]; exact hgb
          refine k_skip ?_
          refine k_seq ?_
          refine k_region ?_
          refine s_run (w_none rfl) rfl (d_ldXM (g := g6) (off := 0) rfl H (sub_all (a := txC Ag2 (Tx.get b).1.ins.length cg2 Bg2 (Tx.get b).1.outs.length dg2 (Tx.get b).1.lock) (m := 3) rfl) rfl rfl rfl rfl ta28 ts28) ?_
          refine s_eff (e_call (w_none rfl) rfl rfl Tryz.func15 rfl rfl rfl (putTP _ (H.rep1 (R := RTx) (S := Sg2) (cs := txC Ag2 (Tx.get b).1.ins.length cg2 Bg2 (Tx.get b).1.outs.length dg2 (Tx.get b).1.lock) (a := (Tx.get b).1)) (H.gat hG)) ?_)
          rintro _ W ⟨_, rfl, A3, c3, rfl, hc3, hd3, hn⟩
          replace H := H.new hn
          clear hn
          refine s_run (w_none rfl) rfl (mv_t rfl rfl) ?_
          refine s_run (w_none rfl) rfl (d_ext rfl rfl rfl) ?_
          refine s_run (w_none rfl) rfl (d_ext rfl rfl rfl) ?_
          refine s_run (w_none rfl) rfl (as_s rfl rfl) ?_
          refine s_run (w_none rfl) rfl (as_i rfl rfl) ?_
          refine l_nil ?_
          refine k_seq ?_
          refine k_region ?_
          refine s_run (w_none rfl) rfl (mv_i rfl rfl) ?_
          refine s_run (w_none rfl) rfl (d_eq rfl rfl rfl) ?_
          refine s_run (w_none rfl) rfl (mv_bx (c := true) rfl rfl (by rw [hgc]; rfl)) ?_
          refine s_run (w_g rfl rfl rfl rfl) rfl (mv_s rfl rfl) ?_
          refine s_run (w_g rfl rfl rfl rfl) rfl (mv_s rfl rfl) ?_
          refine s_eff (e_call (w_g rfl rfl rfl rfl) rfl rfl Tryz.func20 rfl rfl rfl (sameBytes _ _ (Tx.put (Tx.get b).1) b _ (H.rowbs (A := A3) rfl) (H.bs hm0)) ?_)
          rintro _ W ⟨rfl, hb⟩
          replace H := H.below hb
          clear hb
          refine s_run (w_none rfl) rfl (d_pickT rfl rfl rfl) ?_
          refine s_run (w_none rfl) rfl (mv_bx (c := true) rfl rfl (by rw [hgp]; exact decide_eq_true rfl)) ?_
          refine s_eff (e_call (w_g rfl rfl rfl rfl) rfl rfl Tryz.func6 rfl rfl rfl (works07 _ (H.gat hG) (H.gl hB)) ?_)
          rintro _ W ⟨rfl, hb⟩
          replace H := H.below hb
          clear hb
          refine s_run (w_none rfl) rfl (d_pickT rfl rfl rfl) ?_
          refine s_run (w_none rfl) rfl (as_b rfl rfl) ?_
          refine l_nil ?_
          refine k_ret ?_
          repeat (first | refine r_then ?_ | refine r_blk ?_)
          exact q_ret (v := .bool _) rfl rfl ⟨_, rfl, rfl, H.under⟩
  · skip
    refine k_region ?_
    refine s_run (w_none rfl) rfl (d_ldXM (g := gm) (off := 0) rfl H (sub_all (a := txC A t.ins.length c B t.outs.length d t.lock) (m := 3) rfl) rfl rfl rfl rfl ta28 ts28) ?_
    refine s_eff (e_call (w_none rfl) rfl rfl Tryz.func13 rfl rfl rfl (bigTx (rows := 40) (bytes := 8192) _ (keeps_Tx _ _ _ _ _ ht (fun g hg _ => H.fr.block g hg (fun h => h))) hz) ?_)
    rintro _ W ⟨rfl, hb⟩
    replace H := H.below hb
    clear hb
    refine s_run (w_none rfl) rfl (mv_bx (c := true) rfl rfl (by rw [hbig])) ?_
    refine s_skip (w_gno rfl rfl rfl rfl rfl) rfl ?_
    refine s_skip (w_gno rfl rfl rfl rfl rfl) rfl ?_
    refine s_skip (w_gno rfl rfl rfl rfl rfl) rfl ?_
    refine s_run (w_none rfl) rfl (d_pickT rfl rfl rfl) ?_
    refine l_nil ?_
    refine k_condT rfl rfl ?_
    refine k_seq ?_
    refine k_region ?_
    refine s_eff (e_call (w_none rfl) rfl rfl Tryz.func6 rfl rfl rfl (works07 _ (H.gat hG) (H.gl hB)) ?_)
    rintro _ W ⟨rfl, hb⟩
    replace H := H.below hb
    clear hb
    refine s_run (w_none rfl) rfl (as_b rfl rfl) ?_
    refine l_nil ?_
    refine k_ret ?_
    repeat (first | refine r_then ?_ | refine r_blk ?_)
    exact q_ret (v := .bool _) rfl rfl ⟨_, rfl, rfl, H.under⟩

set_option maxHeartbeats 4000000 in
theorem txCut {S1 : Nat → Prop} {u : Value} {m : List UInt8} {ct : Int} {S : Nat → Prop} {cs : List Value} {t : DTx} (w : World) (hG : Gat w 0 formsC) (hB : Old.Gl w) (ht : RTx w S cs t) (hz : Tx.Szd t) (hm : Bs w S1 u m) : Calls Tryz.prog 33 [.agg cs.toArray, .int .i64 ct, u].toArray w (Ret (Is w (.bool true))) := by
  obtain ⟨A, c, B, d, rfl, hI, hO, hk⟩ := tx_of ht
  have hok := tx_ok ht
  have hm0 := hm
  obtain ⟨Am, cm, rfl, hcm1, hcm2, hmr⟩ := hm.op
  refine k_enter (l := [_, _, _]) Tryz.func33 rfl rfl ?_
  have H := St.start nT w
  refine k_seq ?_
  refine k_region ?_
  refine s_eff (e_box (vs := (txC A t.ins.length c B t.outs.length d t.lock)) (w_none rfl) rfl rfl rfl rfl H ?_)
  clear H; intro gm W H
  refine s_run (w_none rfl) rfl (as_b rfl rfl) ?_
  refine l_nil ?_
  refine k_seq ?_
  refine k_seq ?_
  rcases hbig : Tx.big 40 8192 t with _ | _
  · have hsm := Tx.not_big hbig (by decide)
    refine k_region ?_
    refine s_run (w_none rfl) rfl (d_ldXM (g := gm) (off := 0) rfl H (sub_all (a := txC A t.ins.length c B t.outs.length d t.lock) (m := 3) rfl) rfl rfl rfl rfl ta28 ts28) ?_
    refine s_eff (e_call (w_none rfl) rfl rfl Tryz.func13 rfl rfl rfl (bigTx (rows := 40) (bytes := 8192) _ (keeps_Tx _ _ _ _ _ ht (fun g hg _ => H.fr.block g hg (fun h => h))) hz) ?_)
    rintro _ W ⟨rfl, hb⟩
    replace H := H.below hb
    clear hb
    refine s_run (w_none rfl) rfl (mv_bx (c := false) rfl rfl (by rw [hbig])) ?_
    refine s_run (w_g rfl rfl rfl rfl) rfl (mv_s rfl rfl) ?_
    refine s_run (w_g rfl rfl rfl rfl) rfl (d_len rfl rfl tu22) ?_
    refine s_run (w_g rfl rfl rfl rfl) rfl (d_gt rfl rfl rfl) ?_
    refine s_run (w_none rfl) rfl (d_pickF rfl rfl rfl) ?_
    refine l_nil ?_
    refine k_cond rfl (fun hc20 => ?_) (fun hc20 => ?_)
    · skip
      refine k_seq ?_
      refine k_region ?_
      refine s_eff (e_call (w_none rfl) rfl rfl Tryz.func6 rfl rfl rfl (works07 _ (H.gat hG) (H.gl hB)) ?_)
      rintro _ W ⟨rfl, hb⟩
      replace H := H.below hb
      clear hb
      refine s_run (w_none rfl) rfl (as_b rfl rfl) ?_
      refine l_nil ?_
      refine k_ret ?_
      repeat (first | refine r_then ?_ | refine r_blk ?_)
      exact q_ret (v := .bool _) rfl rfl ⟨_, rfl, rfl, H.under⟩
    · have hbl : m.length ≤ 512 := by simp at hc20; omega
      refine k_skip ?_
      refine k_seq ?_
      refine k_region ?_
      refine s_run (w_none rfl) rfl (d_ldXM (g := gm) (off := 0) rfl H (sub_all (a := txC A t.ins.length c B t.outs.length d t.lock) (m := 3) rfl) rfl rfl rfl rfl ta28 ts28) ?_
      refine s_eff (e_call (w_none rfl) rfl rfl Tryz.func15 rfl rfl rfl (putTP _ (keeps_Tx _ _ _ _ _ ht (fun g hg _ => H.fr.block g hg (fun h => h))) (H.gat hG)) ?_)
      rintro _ W ⟨_, rfl, A1, c1, rfl, hc1, hd1, hn⟩
      replace H := H.new hn
      clear hn
      refine s_run (w_none rfl) rfl (mv_t rfl rfl) ?_
      refine s_run (w_none rfl) rfl (d_ext rfl rfl rfl) ?_
      refine s_run (w_none rfl) rfl (d_ext rfl rfl rfl) ?_
      refine s_run (w_none rfl) rfl (as_s rfl rfl) ?_
      refine s_run (w_none rfl) rfl (as_i rfl rfl) ?_
      refine l_nil ?_
      refine k_seq ?_
      refine k_seq ?_
      refine k_region ?_
      refine s_run (w_none rfl) rfl (mv_i rfl rfl) ?_
      refine s_run (w_none rfl) rfl (d_ne rfl rfl rfl) ?_
      refine l_nil ?_
      refine k_cond rfl (fun hc28 => ?_) (fun hc28 => ?_)
      · skip
        refine k_seq ?_
        refine k_region ?_
        refine s_eff (e_call (w_none rfl) rfl rfl Tryz.func6 rfl rfl rfl (works07 _ (H.gat hG) (H.gl hB)) ?_)
        rintro _ W ⟨rfl, hb⟩
        replace H := H.below hb
        clear hb
        refine s_run (w_none rfl) rfl (as_b rfl rfl) ?_
        refine l_nil ?_
        refine k_ret ?_
        repeat (first | refine r_then ?_ | refine r_blk ?_)
        exact q_ret (v := .bool _) rfl rfl ⟨_, rfl, rfl, H.under⟩
      · have hne : Tx.chk t = 0 := by simpa using hc28
        have hpk := Tx.put_ok hne
        have hpl : (Tx.put t).length ≤ 11963 := by rw [hpk]; exact Tx.len_putB hne hok
        have hpp : 0 < (Tx.put t).length := by rw [hpk]; exact Tx.putB_pos
        obtain ⟨k, hk1, hk2⟩ := pick_lt (v := ct) hpp
        have hg1 : Tx.get ((Tx.put t).take k) = (Tx.zero, 4) := by rw [hpk] at hk2 ⊢; exact Tx.get_cut hne hok hk2
        have hg2 : Tx.get (Tx.put t ++ m) = if m = [] then (t, 0) else (Tx.zero, 5) := by rw [hpk]; exact Tx.get_more hne hok m
        refine k_skip ?_
        refine k_seq ?_
        refine k_region ?_
        refine s_run (w_none rfl) rfl (mv_s rfl rfl) ?_
        refine s_run (w_none rfl) rfl (mv_i rfl rfl) ?_
        refine s_run (w_none rfl) rfl (mv_s rfl rfl) ?_
        refine s_run (w_none rfl) rfl (d_len rfl rfl tu22) ?_
        refine s_eff (e_call (w_none rfl) rfl rfl Tryz.func82 rfl rfl rfl (pick_any ct _ _ (by omega)) ?_)
        rintro _ W ⟨rfl, hb⟩
        replace H := H.below hb
        clear hb
        refine s_run (w_none rfl) rfl (d_cutP rfl rfl (h := k) hk1 (by omega) rfl tu22 ts5) ?_
        refine s_eff (e_call (w_none rfl) rfl rfl Tryz.func8 rfl rfl rfl (getTP _ (Bs.first (h := k) (H.rowbs (A := A1) rfl) rfl (by omega)) (by rw [List.length_take]; omega) (H.gat hG)) ?_)
        rintro _ W hs_
        obtain ⟨Sg1, Ag1, cg1, Bg1, dg1, rfl, H1_⟩ := GotTx.rep hs_ H
        clear H hs_
        have H := H1_
        clear H1_
        refine s_run (w_none rfl) rfl (mv_t rfl rfl) ?_
        refine s_run (w_none rfl) rfl (d_ext rfl rfl rfl) ?_
        refine s_run (w_none rfl) rfl (d_ext rfl rfl rfl) ?_
        refine s_eff (e_alloc (w_none rfl) rfl rfl [.slice none 0 0, .slice none 0 0, .int .i64 0] tz28 H ?_)
        clear H; intro g5 W H
        refine s_eff (e_sto (w_none rfl) rfl rfl rfl rfl rfl ts28 rfl H rfl ?_)
        clear H; intro W H
        refine s_run (w_none rfl) rfl (as_i rfl rfl) ?_
        refine l_nil ?_
        refine k_seq ?_
        refine k_region ?_
        refine s_run (w_none rfl) rfl (mv_s rfl rfl) ?_
        refine s_eff (e_call (w_none rfl) rfl rfl Tryz.func32 rfl rfl rfl (copyBytes _ (Tx.put t) _ (H.rowbs (A := A1) rfl) (by omega)) ?_)
        rintro _ W ⟨A2, c2, rfl, hc2, hd2, hn⟩
        replace H := H.new hn
        clear hn
        refine s_run (w_none rfl) rfl (mv_s rfl rfl) ?_
        refine s_eff (e_app (w_none rfl) rfl rfl tu22 tx5 rfl rfl rfl H (H.rd hmr) (all_u8L _) (by omega) rfl ?_)
        clear H; intro A3 c3 W hc3 hd3 H
        rw [← List.map_append] at H
        refine s_eff (e_call (w_none rfl) rfl rfl Tryz.func8 rfl rfl rfl (getTP (b := Tx.put t ++ m) _ (bs_row (H.holds _ (.head _)) (by rw [List.length_append])) (by rw [List.length_append]; omega) (H.gat hG)) ?_)
        rintro _ W hs_
        obtain ⟨Sg2, Ag2, cg2, Bg2, dg2, rfl, H1_⟩ := GotTx.rep hs_ H
        clear H hs_
        have H := H1_
        clear H1_
        refine s_run (w_none rfl) rfl (mv_t rfl rfl) ?_
        refine s_run (w_none rfl) rfl (d_ext rfl rfl rfl) ?_
        refine s_run (w_none rfl) rfl (d_ext rfl rfl rfl) ?_
        refine s_eff (e_alloc (w_none rfl) rfl rfl [.slice none 0 0, .slice none 0 0, .int .i64 0] tz28 H ?_)
        clear H; intro g6 W H
        refine s_eff (e_sto (w_none rfl) rfl rfl rfl rfl rfl ts28 rfl H rfl ?_)
        clear H; intro W H
        refine s_run (w_none rfl) rfl (as_i rfl rfl) ?_
        refine l_nil ?_
        refine k_seq ?_
        refine k_region ?_
        refine s_run (w_none rfl) rfl (as_i rfl rfl) ?_
        refine l_nil ?_
        refine k_seq ?_
        refine k_seq ?_
        refine k_region ?_
        refine s_run (w_none rfl) rfl (mv_s rfl rfl) ?_
        refine s_run (w_none rfl) rfl (d_len rfl rfl tu22) ?_
        refine s_run (w_none rfl) rfl (d_eq rfl rfl rfl) ?_
        refine l_nil ?_
        refine k_cond rfl (fun hc50 => ?_) (fun hc50 => ?_)
        · have hm1 : m = [] := by simpa using hc50
          refine k_region ?_
          refine s_run (w_none rfl) rfl (as_i rfl rfl) ?_
          refine l_nil ?_
          refine k_seq ?_
          refine k_region ?_
          refine s_run (w_none rfl) rfl (mv_i rfl rfl) ?_
          refine s_run (w_none rfl) rfl (d_eq rfl rfl rfl) ?_
          refine s_run (w_none rfl) rfl (mv_bx (c := true) rfl rfl (by rw [hg1]; rfl)) ?_
          refine s_run (w_g rfl rfl rfl rfl) rfl (mv_i rfl rfl) ?_
          refine s_run (w_g rfl rfl rfl rfl) rfl (mv_i rfl rfl) ?_
          refine s_run (w_g rfl rfl rfl rfl) rfl (d_eq rfl rfl rfl) ?_
          refine s_run (w_none rfl) rfl (d_pickT rfl rfl rfl) ?_
          refine s_run (w_none rfl) rfl (mv_bx (c := true) rfl rfl (by rw [hg2, if_pos hm1]; rfl)) ?_
          refine s_eff (e_call (w_g rfl rfl rfl rfl) rfl rfl Tryz.func6 rfl rfl rfl (works07 _ (H.gat hG) (H.gl hB)) ?_)
          rintro _ W ⟨rfl, hb⟩
          replace H := H.below hb
          clear hb
          refine s_run (w_none rfl) rfl (d_pickT rfl rfl rfl) ?_
          refine s_run (w_none rfl) rfl (as_b rfl rfl) ?_
          refine l_nil ?_
          refine k_ret ?_
          repeat (first | refine r_then ?_ | refine r_blk ?_)
          exact q_ret (v := .bool _) rfl rfl ⟨_, rfl, rfl, H.under⟩
        · have hm1 : ¬ m = [] := by simpa using hc50
          refine k_skip ?_
          refine k_seq ?_
          refine k_region ?_
          refine s_run (w_none rfl) rfl (mv_i rfl rfl) ?_
          refine s_run (w_none rfl) rfl (d_eq rfl rfl rfl) ?_
          refine s_run (w_none rfl) rfl (mv_bx (c := true) rfl rfl (by rw [hg1]; rfl)) ?_
          refine s_run (w_g rfl rfl rfl rfl) rfl (mv_i rfl rfl) ?_
          refine s_run (w_g rfl rfl rfl rfl) rfl (mv_i rfl rfl) ?_
          refine s_run (w_g rfl rfl rfl rfl) rfl (d_eq rfl rfl rfl) ?_
          refine s_run (w_none rfl) rfl (d_pickT rfl rfl rfl) ?_
          refine s_run (w_none rfl) rfl (mv_bx (c := true) rfl rfl (by rw [hg2, if_neg hm1]; rfl)) ?_
          refine s_eff (e_call (w_g rfl rfl rfl rfl) rfl rfl Tryz.func6 rfl rfl rfl (works07 _ (H.gat hG) (H.gl hB)) ?_)
          rintro _ W ⟨rfl, hb⟩
          replace H := H.below hb
          clear hb
          refine s_run (w_none rfl) rfl (d_pickT rfl rfl rfl) ?_
          refine s_run (w_none rfl) rfl (as_b rfl rfl) ?_
          refine l_nil ?_
          refine k_ret ?_
          repeat (first | refine r_then ?_ | refine r_blk ?_)
          exact q_ret (v := .bool _) rfl rfl ⟨_, rfl, rfl, H.under⟩
  · skip
    refine k_region ?_
    refine s_run (w_none rfl) rfl (d_ldXM (g := gm) (off := 0) rfl H (sub_all (a := txC A t.ins.length c B t.outs.length d t.lock) (m := 3) rfl) rfl rfl rfl rfl ta28 ts28) ?_
    refine s_eff (e_call (w_none rfl) rfl rfl Tryz.func13 rfl rfl rfl (bigTx (rows := 40) (bytes := 8192) _ (keeps_Tx _ _ _ _ _ ht (fun g hg _ => H.fr.block g hg (fun h => h))) hz) ?_)
    rintro _ W ⟨rfl, hb⟩
    replace H := H.below hb
    clear hb
    refine s_run (w_none rfl) rfl (mv_bx (c := true) rfl rfl (by rw [hbig])) ?_
    refine s_skip (w_gno rfl rfl rfl rfl rfl) rfl ?_
    refine s_skip (w_gno rfl rfl rfl rfl rfl) rfl ?_
    refine s_skip (w_gno rfl rfl rfl rfl rfl) rfl ?_
    refine s_run (w_none rfl) rfl (d_pickT rfl rfl rfl) ?_
    refine l_nil ?_
    refine k_condT rfl rfl ?_
    refine k_seq ?_
    refine k_region ?_
    refine s_eff (e_call (w_none rfl) rfl rfl Tryz.func6 rfl rfl rfl (works07 _ (H.gat hG) (H.gl hB)) ?_)
    rintro _ W ⟨rfl, hb⟩
    replace H := H.below hb
    clear hb
    refine s_run (w_none rfl) rfl (as_b rfl rfl) ?_
    refine l_nil ?_
    refine k_ret ?_
    repeat (first | refine r_then ?_ | refine r_blk ?_)
    exact q_ret (v := .bool _) rfl rfl ⟨_, rfl, rfl, H.under⟩
end Go.Proofs.YtdalmmkjmfpffaaGreatDoor

namespace Go.Proofs.YtdalmmkjmfpffaaGreatDoor
open Go Go.RowKit Go.WideShapes Go.ChangeShapes Go.Deep

/-- What is read of data within a process's reach is so. -/
def Sizes (P : Program) (t : TypeId) {α : Type} (R : Rep α) (Z : α → Prop) : Prop := ∀ (H : Type) (enc : TypeId × Value → H) (W : World) (sp : Nat → Bool) (hd : Bool) (fuel : Nat) (cs : List Value) (x : DataW H × List MemPlace) (S : Nat → Prop) (a : α), DataW.trod enc P W 0 sp hd fuel t cs = some x → R W S cs a → (∀ n ∈ x.1.weights P t, n ≤ reachBytes) → Z a
section
variable {P : Program} {t e : TypeId}
theorem mem_all {H : Type} {P : Program} {e : TypeId} {d : DataW H} : ∀ {l : List (DataW H)}, d ∈ l → ∀ n ∈ d.weights P e, n ∈ DataW.weightsAll P e l
  | x :: l, h, n, hn => by
    simp only [DataW.weightsAll, List.mem_append]
    rcases List.mem_cons.1 h with rfl | h
    · exact .inl hn
    · exact .inr (mem_all h n hn)
theorem w_slice {H : Type} {es sp : List (DataW H)} (hu : P.underlying t = some (.slice e)) : (DataW.slice es sp).weights P t = (es.length + sp.length) * P.bytesOf e :: (DataW.weightsAll P e es ++ DataW.weightsAll P e sp) := by simp [DataW.weights, hu]
theorem sizes_B (hu : P.underlying t = some (.slice e)) (hb : P.bytesOf e = 1) : Sizes P t RB (fun l => l.length ≤ 140737488355328) := fun H enc W sp hd fuel cs x S l h hR hw => by
  obtain ⟨v, rfl, hB⟩ := hR
  obtain ⟨A, c, rfl, _⟩ := hB.op
  rcases open_slice hu h with ⟨h1, _⟩ | ⟨a, len, cap, m, n, D, Pl, h1, _, hl, hm, hmm, rfl, hx⟩
  · have h2 := (List.cons.inj h1).1
    injection h2 with _ h3 _
    omega
  · have h2 := (List.cons.inj h1).1
    injection h2 with _ h3 _
    rw [w_slice hu] at hw
    have := hw _ (.head _)
    rw [hb, List.length_map, List.length_range] at this
    have hr : reachBytes = 140737488351232 := rfl
    omega
theorem sizes_L {α : Type} {R : Rep α} {Z : α → Prop} {s : Nat} (hu : P.underlying t = some (.slice e)) (hc : P.cellsOf e = s) (hZ : Sizes P e R Z) : Sizes P t (RL s R) (fun l => ∀ x ∈ l, Z x) := fun H enc W sp hd fuel cs x S l h hR hw y hy => by
  obtain ⟨i, hi⟩ := List.getElem?_of_mem hy
  have hil := (List.getElem?_eq_some_iff.1 hi).1
  obtain ⟨A, c, xs, rfl, _, _, hr, hel⟩ := hR
  rcases open_slice hu h with ⟨h1, _⟩ | ⟨a, len, cap, m, n, D, Pl, h1, _, hl, hm, hmm, rfl, hx⟩
  · have h2 := (List.cons.inj h1).1
    injection h2 with _ h3 _
    omega
  · have h2 := (List.cons.inj h1).1
    injection h2 with hA h3 _
    subst hA
    have hlm : len ≤ m := by rw [hmm]; split <;> omega
    obtain ⟨cs', g1, g2⟩ := hx i (by omega)
    rw [hc] at g1
    obtain ⟨_, g3, g4⟩ := World.cells?_some g1
    have hs : cs' = Go.Proofs.YtdalmmkjmfpffaaGreatDoor.sub xs (i * s) s := by
      obtain ⟨g, o, e1, _, e3⟩ := hr.2 (by omega)
      cases e1
      unfold Go.Proofs.YtdalmmkjmfpffaaGreatDoor.sub
      apply List.ext_getElem?
      intro j
      rcases Nat.lt_or_ge j s with hj | hj
      · rw [List.getElem?_take_of_lt hj, List.getElem?_drop, ← g4 j hj]
        have hlt : i * s + j < xs.length := by
          have := Nat.mul_le_mul_right s (show i + 1 ≤ l.length by omega)
          rw [Nat.add_mul] at this
          rw [hr.1]; omega
        have := e3 (i * s + j) _ (List.getElem?_eq_getElem hlt)
        rw [Addr.add_mid, Addr.add_mid, Nat.add_assoc, this, List.getElem?_eq_getElem hlt]
      · rw [List.getElem?_eq_none (by omega), List.getElem?_eq_none (by rw [List.length_take]; omega)]
    subst hs
    refine hZ _ _ _ _ _ _ _ _ _ _ g2 (hel i y hi) (fun k hk => hw k ?_)
    rw [w_slice hu]
    refine List.mem_cons_of_mem _ (List.mem_append.2 (.inl (mem_all (d := D i) ?_ k hk)))
    exact List.mem_map_of_mem (f := D) (List.mem_range.2 (by omega))
/-- A field of a struct. -/
theorem sized_field {H : Type} {enc : TypeId × Value → H} {W : World} {sp : Nat → Bool} {hd : Bool} {fuel i : Nat} {cs : List Value} {x : DataW H × List MemPlace} {fs : Array Field} {f : Field} (hu : P.underlying t = some (.struct fs)) (h : DataW.trod enc P W 0 sp hd fuel t cs = some x) (hf : fs[i]? = some f) (hw : ∀ n ∈ x.1.weights P t, n ≤ reachBytes) :
    ∃ n y, DataW.trod enc P W 0 sp hd n f.type (Go.Proofs.YtdalmmkjmfpffaaGreatDoor.sub cs f.offset (P.cellsOf f.type)) = some y ∧ ∀ k ∈ y.1.weights P f.type, k ≤ reachBytes := by
  obtain ⟨xs, n, _, rfl, hl, hlen, hel⟩ := DataW.trod_struct hu h
  have h1 := hel i f hf
  have hi : i < fs.size := (Array.getElem?_eq_some_iff.1 hf).1
  rw [List.getElem?_eq_getElem (show i < xs.length by omega)] at h1
  refine ⟨n, _, h1, fun k hk => hw k ?_⟩
  have e : (DataW.agg (xs.map (·.1))).weights P t = DataW.weightsEach P (fs.toList.map (·.type)) (xs.map (·.1)) := by simp [DataW.weights, hu]
  rw [e]
  refine DataW.weights_mem_each (j := i) (t := f.type) (d := xs[i].1) ?_ ?_ k hk
  · rw [List.getElem?_map]
    have : fs.toList[i]? = some f := by rw [Array.getElem?_toList]; exact hf
    rw [this]; rfl
  · rw [List.getElem?_map, List.getElem?_eq_getElem (show i < xs.length by omega)]; rfl
theorem sized_arg {α : Type} {R : Rep α} {Z : α → Prop} (hZ : Sizes P t R Z) {H : Type} {enc : TypeId × Value → H} {W : World} {sp : Nat → Bool} {hd : Bool} {v : Value} {d : DataW H} {p : List MemPlace} {S : Nat → Prop} {a : α} {ts : List TypeId} {ds : List (DataW H)} {j : Nat} (h : DataW.Trod enc P W 0 sp hd t v d p) (hR : R W S v.cells.toList a) (hw : (DataW.weightsEach P ts ds).all (· ≤ reachBytes) = true) (ht : ts[j]? = some t) (hd : ds[j]? = some d) : Z a := by
  obtain ⟨fuel, h⟩ := h
  refine hZ _ _ _ _ _ _ _ _ _ _ h hR (fun n hn => ?_)
  have := List.all_eq_true.1 hw n (DataW.weights_mem_each ht hd n hn)
  simpa using this
end
end Go.Proofs.YtdalmmkjmfpffaaGreatDoor

namespace Go.Proofs.YtdalmmkjmfpffaaGreatDoor
open Go Go.RowKit Go.WideShapes Go.ChangeShapes Go.Deep

theorem bytes_u8 : Tryz.prog.bytesOf 5 = 1 := by kernel_rfl
theorem sizes_wit : Sizes Tryz.prog 51 (RL 1 RB) (fun l => ∀ b ∈ l, b.length ≤ 140737488355328) := sizes_L Tryz.underlying51 ce22 (sizes_B Tryz.underlying22 bytes_u8)
theorem sizes_In : Sizes Tryz.prog 53 RIn (fun x => ∀ b ∈ x.wit, b.length ≤ 140737488355328) := fun H enc W sp hd fuel cs x S a h hR hw => by
  obtain ⟨c0, c1, rfl, h0, h1⟩ := hR
  have l0 := lens_Point _ _ _ _ h0
  have l1 : c1.length = 1 := lens_L _ _ _ _ h1
  obtain ⟨n, y, g1, g2⟩ := sized_field (i := 1) Tryz.underlying53 h rfl hw
  replace g1 : DataW.trod enc Tryz.prog W 0 sp hd n 51 (sub (c0 ++ c1) 33 (Tryz.prog.cellsOf 51)) = some y := g1
  rw [ce51, sub_In_1 l0 l1] at g1
  exact sizes_wit _ _ _ _ _ _ _ _ _ _ g1 h1 g2
theorem sizes_Out : Sizes Tryz.prog 55 ROut (fun o => o.script.length ≤ 140737488355328) := fun H enc W sp hd fuel cs x S a h hR hw => by
  obtain ⟨c0, c1, rfl, h0, h1⟩ := hR
  have l0 : c0.length = 1 := lens_I _ _ _ _ h0
  have l1 : c1.length = 1 := lens_B _ _ _ _ h1
  obtain ⟨n, y, g1, g2⟩ := sized_field (i := 1) Tryz.underlying55 h rfl hw
  replace g1 : DataW.trod enc Tryz.prog W 0 sp hd n 22 (sub (c0 ++ c1) 1 (Tryz.prog.cellsOf 22)) = some y := g1
  rw [ce22, sub_Out_1 l0 l1] at g1
  exact sizes_B Tryz.underlying22 bytes_u8 _ _ _ _ _ _ _ _ _ _ g1 h1 g2
theorem sizes_Tx : Sizes Tryz.prog 28 RTx Tx.Szd := fun H enc W sp hd fuel cs x S a h hR hw => by
  obtain ⟨c0, c1, c2, rfl, h0, h1, h2⟩ := hR
  have l0 : c0.length = 1 := lens_L _ _ _ _ h0
  have l1 : c1.length = 1 := lens_L _ _ _ _ h1
  obtain ⟨n, y, g1, g2⟩ := sized_field (i := 0) Tryz.underlying28 h rfl hw
  obtain ⟨n', y', g3, g4⟩ := sized_field (i := 1) Tryz.underlying28 h rfl hw
  replace g1 : DataW.trod enc Tryz.prog W 0 sp hd n 25 (sub (c0 ++ (c1 ++ c2)) 0 (Tryz.prog.cellsOf 25)) = some y := g1
  replace g3 : DataW.trod enc Tryz.prog W 0 sp hd n' 26 (sub (c0 ++ (c1 ++ c2)) 1 (Tryz.prog.cellsOf 26)) = some y' := g3
  rw [ce25, sub_Tx_0 l0] at g1
  rw [ce26, sub_Tx_1 l0 l1] at g3
  exact ⟨sizes_L Tryz.underlying25 ce53 sizes_In _ _ _ _ _ _ _ _ _ _ g1 h0 g2, sizes_L Tryz.underlying26 ce55 sizes_Out _ _ _ _ _ _ _ _ _ _ g3 h1 g4⟩
end Go.Proofs.YtdalmmkjmfpffaaGreatDoor

namespace Go.Proofs.YtdalmmkjmfpffaaGreatDoor
open Go Go.RowKit

theorem of_isT {P : Program} {f : FuncId} {l : List Value} {w : World} (h : Calls P f l.toArray w (Ret (Is w (.bool true)))) : Calls P f l.toArray w (fun e w' => e = .returned (.bool true) ∧ Below w.heap.size w w') :=
  Calls.mono h (fun e w' h => by
    obtain ⟨v, rfl, rfl, hb⟩ := h
    exact ⟨rfl, hb⟩)
theorem bs_of {S : Nat → Prop} {v : Value} {b : List UInt8} {w : World} (h : RB w S [v] b) : Bs w S v b := by
  obtain ⟨u, h1, h2⟩ := h
  cases h1
  exact h2
theorem txBack_any {S S1 : Nat → Prop} {cs : List Value} {t : DTx} {u : Value} {b : List UInt8} (w : World) (hG : Gat w 0 formsC ∧ Old.Gl w) (hz : Tx.Szd t) (h0 : RTx w S cs t) (h1 : RB w S1 [u] b) :
    Calls Tryz.prog 29 #[.agg cs.toArray, u] w (fun e w' => e = .returned (.bool true) ∧ Below w.heap.size w w') := of_isT (txBack w hG.1 hG.2 h0 hz (bs_of h1))
theorem txCut_any {S S1 S2 : Nat → Prop} {cs : List Value} {t : DTx} {n x : Int} {u : Value} {b : List UInt8} (w : World) (hG : Gat w 0 formsC ∧ Old.Gl w) (hz : Tx.Szd t) (h0 : RTx w S cs t) (_ : RI w S1 [.int .i64 n] x) (h2 : RB w S2 [u] b) :
    Calls Tryz.prog 33 #[.agg cs.toArray, .int .i64 n, u] w (fun e w' => e = .returned (.bool true) ∧ Below w.heap.size w w') := of_isT (txCut w hG.1 hG.2 h0 hz (bs_of h2))
end Go.Proofs.YtdalmmkjmfpffaaGreatDoor
