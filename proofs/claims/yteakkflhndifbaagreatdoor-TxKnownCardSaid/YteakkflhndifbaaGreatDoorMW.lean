/- Texts of this claim, laid together: K46. -/
import Derived.Test.YteakkflhndifbaaGreatDoorMZ
set_option linter.unusedVariables false
set_option linter.unusedSimpArgs false

namespace Go.Proofs.YteakkflhndifbaaGreatDoor
open Go Go.RowKit
attribute [local irreducible] wpList

def Tx.smallP : DPoint := ⟨1 :: List.replicate 31 0, 2⟩
def Tx.small : DTx := ⟨[⟨Tx.smallP, []⟩], [⟨5, []⟩], 0⟩
namespace Sm
theorem chk : Tx.chk Tx.small = 0 := by decide +kernel
theorem len : (Tx.put Tx.small).length = 39 := by decide +kernel
theorem weight : Tx.weight Tx.small = 153 := by decide +kernel
theorem bare : (Tx.put Tx.small).take 38 = Tx.bareB Tx.small := by decide +kernel
theorem ok : Tx.Ok Tx.small := ⟨fun x hx => by
 obtain rfl : x = ⟨Tx.smallP, []⟩ := by simpa [Tx.small] using hx
 exact ⟨rfl, by decide, by decide⟩, fun o ho => by
 obtain rfl : o = ⟨5, []⟩ := by simpa [Tx.small] using ho
 exact ⟨by decide, by decide⟩, by decide, by decide⟩
theorem get : Tx.get (Tx.put Tx.small) = (Tx.small, 0) := by
 have := Tx.get_put chk ok
 unfold Tx.put
 rw [if_pos chk]
 exact this
theorem dig : Tx.dig Tx.tTx Tx.small = Old.Bl.tagged Tx.tTx.data.toList ((Tx.put Tx.small).take 38) := by
 unfold Tx.dig
 rw [if_pos chk, bare]
end Sm
theorem Bs.first {W : World} {S : Nat → Prop} {A : Option Addr} {n c h : Nat} {l : List UInt8} (hb : Bs W S (.slice A n c) l) (hl : l.length = n) (hh : h ≤ n) : Bs W S (.slice A h c) (l.take h) := by
 obtain ⟨A', c', hv, h1, h2, h3⟩ := hb.op
 cases hv
 have hc := h3.cut (a := 0) (b := h) (c := c) (Nat.zero_le _) (by omega) (by omega)
 refine Bs.mk ?_ (by omega) h2
 refine ⟨by simp; omega, fun hn => ?_⟩
 obtain ⟨g, o, e1, e2, e3⟩ := h3.2 (by omega)
 refine ⟨g, o, e1, e2, fun j u hj => e3 j u ?_⟩
 rw [List.map_take, List.getElem?_take] at hj
 split at hj
 ·exact hj
 ·cases hj
theorem pick_lt {v : Int} {n : Nat} (hn : 0 < n) : ∃ k : Nat, pick v (n : Int) = (k : Int) ∧ k < n := by
 have h : 0 ≤ pick v (n : Int) ∧ pick v (n : Int) < n := by
  unfold pick
  rw [if_neg (by omega)]
  exact ⟨Int.emod_nonneg _ (by omega), Int.emod_lt_of_pos _ (by omega)⟩
 exact ⟨(pick v (n : Int)).toNat, by omega, by omega⟩
theorem Tx.put_ok {t : DTx} (h : Tx.chk t = 0) : Tx.put t = Tx.putB t := by unfold Tx.put; rw [if_pos h]
theorem Tx.put_bad {t : DTx} (h : ¬ Tx.chk t = 0) : Tx.put t = [] := by unfold Tx.put; rw [if_neg h]

set_option maxHeartbeats 4000000 in
theorem smallT (w : World) : Calls Tryz.prog 4 [].toArray w (Ret (NewTx w Tx.small)) := by
 refine k_enter (l := []) Tryz.func4 rfl rfl ?_
 have H := St.start nT w
 refine k_seq (k_region (s_eff (e_alloc (w_none rfl) rfl rfl [.slice none 0 0, .slice none 0 0, .int .i64 0] tz26 H ?_)))
 clear H; intro go W H
 refine l_nil (k_seq (k_region (sR rfl rfl (d_build (vs := Tx.smallP.tx.map u8v) rfl (by kernel_rfl)) ?_)))
 refine sR rfl rfl (d_build (vs := pointC Tx.smallP) rfl (built_fields (places := [(0, 32), (32, 1)]) tz31 (by kernel_rfl) (by kernel_rfl) (fill_next (vs := Tx.smallP.tx.map u8v) (.agg (Tx.smallP.tx.map u8v).toArray) rfl rfl rfl rfl (Nat.le_of_ble_eq_true rfl) (fill_next (vs := [.int .i64 2]) (.int .i64 2) rfl (by rfl) rfl rfl (Nat.le_of_ble_eq_true rfl) (fill_end (by rfl)))))) ?_
 refine sR rfl rfl (d_build (vs := inC Tx.smallP none 0 0) rfl (built_fields (places := [(0, 33), (33, 1)]) tz34 (by kernel_rfl) (by kernel_rfl) (fill_next (vs := pointC Tx.smallP) (.agg (pointC Tx.smallP).toArray) rfl rfl rfl rfl (Nat.le_of_ble_eq_true rfl) (fill_end (by rfl))))) ?_
 refine s_eff (e_bsl (xs := [.tmp 3]) (vals := [.agg (inC Tx.smallP none 0 0).toArray]) (vs := (inC Tx.smallP none 0 0)) (w_none rfl) rfl rfl rfl rfl rfl rfl tu23 ts34 ty34 rfl (by simp [agg_cells, len_in (p := Tx.smallP) rfl]) (by simp [agg_cells]) H ?_)
 clear H; intro g1 W H
 replace H := (((H.torow (s := 34) 1 (by rw [len_in (p := Tx.smallP) rfl]) (by decide)).els0 RIn 34).flat (R := RIn) (cs := inC Tx.smallP none 0 0) (a := ⟨Tx.smallP, []⟩) (in_rep (w := []) rfl ⟨by decide, by decide⟩ rl_nil))
 replace H := St.elsnoc H (len_in (p := Tx.smallP) rfl)
 refine sR rfl rfl (d_build (vs := outC 5 none 0 0) rfl (built_fields (places := [(0, 1), (1, 1)]) tz37 (by kernel_rfl) (by kernel_rfl) (fill_next (vs := [.int .i64 5]) (.int .i64 5) rfl rfl rfl rfl (Nat.le_of_ble_eq_true rfl) (fill_end (by rfl))))) ?_
 refine s_eff (e_bsl (xs := [.tmp 5]) (vals := [.agg (outC 5 none 0 0).toArray]) (vs := (outC 5 none 0 0)) (w_none rfl) rfl rfl rfl rfl rfl rfl tu24 ts37 ty37 rfl (by simp [agg_cells, outC]) (by simp [agg_cells]) H ?_)
 clear H; intro g2 W H
 replace H := (((H.torow (s := 2) 1 rfl (by decide)).els0 ROut 2).flat (R := ROut) (cs := outC 5 none 0 0) (a := ⟨5, []⟩) (out_rep (s := []) ⟨by decide, by decide⟩ Bs.nil))
 replace H := St.elsnoc H rfl
 refine sR rfl rfl (d_build (vs := txC (some ⟨g1, 0, none⟩) 1 1 (some ⟨g2, 0, none⟩) 1 1 0) rfl (built_fields (places := [(0, 1), (1, 1), (2, 1)]) tz26 (by kernel_rfl) (by kernel_rfl) (fill_next (vs := [.slice (some ⟨g1, 0, none⟩) 1 1]) (.slice (some ⟨g1, 0, none⟩) 1 1) rfl rfl rfl rfl (Nat.le_of_ble_eq_true rfl) (fill_next (vs := [.slice (some ⟨g2, 0, none⟩) 1 1]) (.slice (some ⟨g2, 0, none⟩) 1 1) rfl (by rfl) rfl rfl (Nat.le_of_ble_eq_true rfl) (fill_end (by rfl)))))) ?_
 refine s_eff (e_sto (w_none rfl) rfl rfl rfl rfl rfl ts26 rfl H rfl ?_)
 clear H; intro W H
 refine l_nil (k_ret ?_)
 repeat (first | refine r_then ?_ | refine r_blk ?_)
 refine q_retc rfl (c := txC (some ⟨g1, 0, none⟩) 1 1 (some ⟨g2, 0, none⟩) 1 1 0) (g := go) H rfl ta26 ts26 ⟨_, rfl, some ⟨g1, 0, none⟩, 1, some ⟨g2, 0, none⟩, 1, inC Tx.smallP none 0 0, outC 5 none 0 0, (fun _ => False ∨ False), (fun _ => False ∨ False), rfl, ⟨by decide, by decide⟩, ⟨by decide, by decide⟩, ?_⟩
 exact (H.sub (L' := [_, _, _, _]) (by repeat (first | exact .refl _ | exact List.nil_sublist _ | refine .cons_cons _ ?_ | refine .cons _ ?_))).perm (.trans (List.perm_append_comm (l₁ := [_, _]) (l₂ := [_, _])) (.trans (.swap _ _ _) (.cons _ (.cons _ (.swap _ _ _)))))

set_option maxHeartbeats 4000000 in
theorem works07 (w : World) (hG : Gat w 0 formsC) (hB : Old.Gl w) : Calls Tryz.prog 13 [].toArray w (Ret (Is w (.bool true))) := by
 have hl39 := Sm.len
 refine k_enter (l := []) Tryz.func13 rfl rfl ?_
 have H := St.start nT w
 refine k_seq (k_region (sAb rfl rfl rfl rfl (l_nil (k_seq (k_region (sC rfl rfl rfl Tryz.func4 rfl rfl rfl (smallT _) ?_))))))
 rintro _ W hs_
 obtain ⟨Sn1, An1, cn1, Bn1, dn1, rfl, H1_⟩ := NewTx.rep hs_ H ⟨by decide, by decide⟩
 clear H hs_
 have H := H1_
 clear H1_
 refine sC rfl rfl rfl Tryz.func9 rfl rfl rfl (putTP _ (H.rep1 (R := RTx) (S := Sn1) (cs := txC An1 Tx.small.ins.length cn1 Bn1 Tx.small.outs.length dn1 Tx.small.lock) (a := Tx.small)) (H.gat hG)) ?_
 rintro _ W ⟨_, rfl, A1, c1, rfl, hc1, hd1, hn⟩
 replace H := H.new hn
 clear hn
 refine sR rfl rfl (mv_t rfl rfl) (sR rfl rfl (d_ext rfl rfl rfl) (sR rfl rfl (d_ext rfl rfl rfl) (sAs rfl rfl rfl rfl (sAi rfl rfl rfl rfl (l_nil (k_seq (k_region (sMs rfl rfl rfl rfl (sC rfl rfl rfl Tryz.func29 rfl rfl rfl (getTP _ (H.rowbs (A := A1) rfl) (by omega) (H.gat hG)) ?_)))))))))
 rintro _ W hs_
 obtain ⟨Sg1, Ag1, cg1, Bg1, dg1, rfl, H1_⟩ := GotTx.rep hs_ H
 clear H hs_
 have H := H1_
 clear H1_
 refine sR rfl rfl (mv_t rfl rfl) (sR rfl rfl (d_ext rfl rfl rfl) (sR rfl rfl (d_ext rfl rfl rfl) (s_eff (e_alloc (w_none rfl) rfl rfl [.slice none 0 0, .slice none 0 0, .int .i64 0] tz26 H ?_))))
 clear H; intro g3 W H
 refine s_eff (e_stoK (txC Ag1 (Tx.get (Tx.put Tx.small)).1.ins.length cg1 Bg1 (Tx.get (Tx.put Tx.small)).1.outs.length dg1 (Tx.get (Tx.put Tx.small)).1.lock) (w_none rfl) rfl rfl rfl rfl rfl ts26 rfl rfl H (by decide) rfl ?_)
 clear H; intro W H
 refine sAi rfl rfl rfl rfl (l_nil (k_seq (k_draw [(0, true), (1, true), (2, true), (3, true), (4, true), (5, true), (6, true), (7, true), (8, true), (9, true), (10, true), (11, true), (12, false), (13, false), (14, true), (15, true), (16, true), (17, true), (18, false), (19, false), (20, true), (21, true), (24, true), (25, true), (22, false), (23, false), (26, false), (27, true), (28, true), (29, true)] [Fact.blk g3 (txC Ag1 (Tx.get (Tx.put Tx.small)).1.ins.length cg1 Bg1 (Tx.get (Tx.put Tx.small)).1.outs.length dg1 (Tx.get (Tx.put Tx.small)).1.lock) 26] (by kernel_rfl) (by kernel_rfl) H (by repeat (first | exact .refl _ | exact List.nil_sublist _ | refine .cons_cons _ ?_ | refine .cons _ ?_)) ?_)))
 clear H; intro W H
 refine cR rfl rfl rfl (fun W H => mv_i rfl rfl) (cR rfl rfl rfl (fun W H => d_eq rfl rfl rfl) (cR rfl rfl rfl (fun W H => mv_bx (c := true) rfl rfl (by rw [Sm.chk]; rfl)) ?_))
 refine c_run rfl (w_g rfl rfl rfl rfl) rfl (fun W H => mv_i rfl rfl) (c_run rfl (w_g rfl rfl rfl rfl) rfl (fun W H => d_eq rfl rfl rfl) (cR rfl rfl rfl (fun W H => d_pickT rfl rfl rfl) (cR rfl rfl rfl (fun W H => mv_bx (c := true) rfl rfl (by rw [Sm.get]; rfl)) ?_)))
 refine c_run rfl (w_g rfl rfl rfl rfl) rfl (fun W H => mv_s rfl rfl) (c_run rfl (w_g rfl rfl rfl rfl) rfl (fun W H => d_len rfl rfl tu35) (c_run rfl (w_g rfl rfl rfl rfl) rfl (fun W H => d_eq rfl rfl rfl) (cR rfl rfl rfl (fun W H => d_pickT rfl rfl rfl) (cR rfl rfl rfl (fun W H => mv_bx (c := true) rfl rfl (by rw [Sm.len]; rfl)) ?_))))
 refine c_eff rfl (e_call (w_g rfl rfl rfl rfl) rfl rfl Tryz.func4 rfl rfl rfl (smallT _) ?_)
 rintro _ W hs_
 obtain ⟨Sn2, An2, cn2, Bn2, dn2, rfl, H1_⟩ := NewTx.rep hs_ H ⟨by decide, by decide⟩
 clear H hs_
 have H := H1_
 clear H1_
 refine ⟨H.sub (by repeat (first | exact .refl _ | exact List.nil_sublist _ | refine .cons_cons _ ?_ | refine .cons _ ?_)), ?_⟩
 refine c_eff rfl (e_call (w_g rfl rfl rfl rfl) rfl rfl Tryz.func26 rfl rfl rfl (weightTP _ (H.rep1 (R := RTx) (S := Sn2) (cs := txC An2 Tx.small.ins.length cn2 Bn2 Tx.small.outs.length dn2 Tx.small.lock) (a := Tx.small)) (H.gat hG)) ?_)
 rintro _ W ⟨rfl, hb⟩
 replace H := H.below hb
 clear hb
 refine ⟨H.sub (by repeat (first | exact .refl _ | exact List.nil_sublist _ | refine .cons_cons _ ?_ | refine .cons _ ?_)), ?_⟩
 refine c_run rfl (w_g rfl rfl rfl rfl) rfl (fun W H => d_eq rfl rfl rfl) (cR rfl rfl rfl (fun W H => d_pickT rfl rfl rfl) (cR rfl rfl rfl (fun W H => mv_bx (c := true) rfl rfl (by rw [Sm.weight]; rfl)) ?_))
 refine c_run rfl (w_g rfl rfl rfl rfl) rfl (fun W H => d_ldXM (g := g3) (off := 0) rfl H (sub_all (a := txC Ag1 (Tx.get (Tx.put Tx.small)).1.ins.length cg1 Bg1 (Tx.get (Tx.put Tx.small)).1.outs.length dg1 (Tx.get (Tx.put Tx.small)).1.lock) (m := 3) rfl) rfl rfl rfl rfl ta26 ts26) (c_eff rfl (e_call (w_g rfl rfl rfl rfl) rfl rfl Tryz.func4 rfl rfl rfl (smallT _) ?_))
 rintro _ W hs_
 obtain ⟨Sn3, An3, cn3, Bn3, dn3, rfl, H1_⟩ := NewTx.rep hs_ H ⟨by decide, by decide⟩
 clear H hs_
 have H := H1_
 clear H1_
 refine ⟨H.sub (by repeat (first | exact .refl _ | exact List.nil_sublist _ | refine .cons_cons _ ?_ | refine .cons _ ?_)), ?_⟩
 refine c_eff rfl (e_call (w_g rfl rfl rfl rfl) rfl rfl Tryz.func28 rfl rfl rfl (sameTx _ (H.rep1 (R := RTx) (S := Sg1) (cs := txC Ag1 (Tx.get (Tx.put Tx.small)).1.ins.length cg1 Bg1 (Tx.get (Tx.put Tx.small)).1.outs.length dg1 (Tx.get (Tx.put Tx.small)).1.lock) (a := (Tx.get (Tx.put Tx.small)).1)) (H.rep1 (R := RTx) (S := Sn3) (cs := txC An3 Tx.small.ins.length cn3 Bn3 Tx.small.outs.length dn3 Tx.small.lock) (a := Tx.small))) ?_)
 rintro _ W ⟨rfl, hb⟩
 replace H := H.below hb
 clear hb
 refine ⟨H.sub (by repeat (first | exact .refl _ | exact List.nil_sublist _ | refine .cons_cons _ ?_ | refine .cons _ ?_)), ?_⟩
 refine cR rfl rfl rfl (fun W H => d_pickT rfl rfl rfl) (cR rfl rfl rfl (fun W H => mv_bx (c := true) rfl rfl (by rw [Sm.get]; exact decide_eq_true rfl)) ?_)
 refine c_run rfl (w_g rfl rfl rfl rfl) rfl (fun W H => mv_s rfl rfl) (c_run rfl (w_g rfl rfl rfl rfl) rfl (fun W H => d_cutP rfl rfl (h := 38) rfl (by omega) rfl tu35 ts5) (c_eff rfl (e_call (w_g rfl rfl rfl rfl) rfl rfl Tryz.func4 rfl rfl rfl (smallT _) ?_)))
 rintro _ W hs_
 obtain ⟨Sn4, An4, cn4, Bn4, dn4, rfl, H1_⟩ := NewTx.rep hs_ H ⟨by decide, by decide⟩
 clear H hs_
 have H := H1_
 clear H1_
 refine ⟨H.sub (by repeat (first | exact .refl _ | exact List.nil_sublist _ | refine .cons_cons _ ?_ | refine .cons _ ?_)), ?_⟩
 refine c_eff rfl (e_call (w_g rfl rfl rfl rfl) rfl rfl Tryz.func22 rfl rfl rfl (idTP _ (H.rep1 (R := RTx) (S := Sn4) (cs := txC An4 Tx.small.ins.length cn4 Bn4 Tx.small.outs.length dn4 Tx.small.lock) (a := Tx.small)) (H.gat hG) (H.gl hB)) ?_)
 rintro _ W ⟨rfl, hb⟩
 replace H := H.below hb
 clear hb
 refine ⟨H.sub (by repeat (first | exact .refl _ | exact List.nil_sublist _ | refine .cons_cons _ ?_ | refine .cons _ ?_)), ?_⟩
 refine c_eff rfl (e_call (w_g rfl rfl rfl rfl) rfl rfl Tryz.func31 rfl rfl rfl (taggedB (s := Tx.tTx) _ (H.gl hB) (Bs.first (h := 38) (H.rowbs (A := A1) rfl) rfl (by omega)) (by decide) (by rw [List.length_take]; omega)) ?_)
 rintro _ W ⟨rfl, hb⟩
 replace H := H.below hb
 clear hb
 refine ⟨H.sub (by repeat (first | exact .refl _ | exact List.nil_sublist _ | refine .cons_cons _ ?_ | refine .cons _ ?_)), ?_⟩
 refine c_run rfl (w_g rfl rfl rfl rfl) rfl (fun W H => d_eqarr rfl rfl rfl tu29 tu5 ts5 Tx.len_dig (Old.Bl.len_tagged _ _) (by kernel_rfl)) ?_
 refine cR rfl rfl rfl (fun W H => d_pickT rfl rfl rfl) (cR rfl rfl rfl (fun W H => as_b rfl rfl) (c_nil (k_ret ?_)))
 repeat (first | refine r_then ?_ | refine r_blk ?_)
 exact q_ret (v := .bool _) rfl rfl ⟨_, rfl, vb (by rw [Sm.dig]; simp), H.under⟩

set_option maxHeartbeats 4000000 in
theorem txBack {S1 : Nat → Prop} {u : Value} {b : List UInt8} {S : Nat → Prop} {cs : List Value} {t : DTx} (w : World) (hG : Gat w 0 formsC) (hB : Old.Gl w) (ht : RTx w S cs t) (hz : Tx.Szd t) (hm : Bs w S1 u b) : Calls Tryz.prog 6 [.agg cs.toArray, u].toArray w (Ret (Is w (.bool true))) := by
 obtain ⟨A, c, B, d, rfl, hI, hO, hk⟩ := tx_of ht
 have hok := tx_ok ht
 have hm0 := hm
 obtain ⟨Am, cm, rfl, hcm1, hcm2, hmr⟩ := hm.op
 refine k_enter (l := [_, _]) Tryz.func6 rfl rfl ?_
 have H := St.start nT w
 refine k_seq (k_region (s_eff (e_box (vs := (txC A t.ins.length c B t.outs.length d t.lock)) (w_none rfl) rfl rfl rfl rfl H ?_)))
 clear H; intro gm W H
 refine sAb rfl rfl rfl rfl (l_nil (k_seq (k_seq ?_)))
 rcases hbig : Tx.big 40 8192 t with _ | _
 ·have hsm := Tx.not_big hbig (by decide)
  refine k_region (sR rfl rfl (d_ldXM (g := gm) (off := 0) rfl H (sub_all (a := txC A t.ins.length c B t.outs.length d t.lock) (m := 3) rfl) rfl rfl rfl rfl ta26 ts26) (sC rfl rfl rfl Tryz.func14 rfl rfl rfl (bigTx (rows := 40) (bytes := 8192) _ (keeps_Tx _ _ _ _ _ ht (fun g hg _ => H.fr.block g hg (fun h => h))) hz) ?_))
  rintro _ W ⟨rfl, hb⟩
  replace H := H.below hb
  clear hb
  refine sR rfl rfl (mv_bx (c := false) rfl rfl (by rw [hbig])) ?_
  refine s_run (w_g rfl rfl rfl rfl) rfl (mv_s rfl rfl) (s_run (w_g rfl rfl rfl rfl) rfl (d_len rfl rfl tu35) (s_run (w_g rfl rfl rfl rfl) rfl (d_gt rfl rfl rfl) (sR rfl rfl (d_pickF rfl rfl rfl) (l_nil (k_cond rfl (fun hc19 => ?_) (fun hc19 => ?_))))))
  ·skip
   refine k_seq (k_region (sC rfl rfl rfl Tryz.func13 rfl rfl rfl (works07 _ (H.gat hG) (H.gl hB)) ?_))
   rintro _ W ⟨rfl, hb⟩
   replace H := H.below hb
   clear hb
   refine sAb rfl rfl rfl rfl (l_nil (k_ret ?_))
   repeat (first | refine r_then ?_ | refine r_blk ?_)
   exact q_ret (v := .bool _) rfl rfl ⟨_, rfl, rfl, H.under⟩
  ·have hbl : b.length ≤ 16384 := by simp at hc19; omega
   refine k_skip (k_seq (k_region (sR rfl rfl (d_ldXM (g := gm) (off := 0) rfl H (sub_all (a := txC A t.ins.length c B t.outs.length d t.lock) (m := 3) rfl) rfl rfl rfl rfl ta26 ts26) (sC rfl rfl rfl Tryz.func9 rfl rfl rfl (putTP _ (keeps_Tx _ _ _ _ _ ht (fun g hg _ => H.fr.block g hg (fun h => h))) (H.gat hG)) ?_))))
   rintro _ W ⟨_, rfl, A1, c1, rfl, hc1, hd1, hn⟩
   replace H := H.new hn
   clear hn
   refine sR rfl rfl (mv_t rfl rfl) (sR rfl rfl (d_ext rfl rfl rfl) (sR rfl rfl (d_ext rfl rfl rfl) (sAs rfl rfl rfl rfl (sAi rfl rfl rfl rfl (l_nil (k_seq (k_seq ?_)))))))
   by_cases hne : Tx.chk t = 0
   ·have hpl := Tx.len_putB hne hok
    have hge : Tx.get (Tx.put t) = (t, 0) := by rw [Tx.put_ok hne]; exact Tx.get_put hne hok
    refine k_region (sMi rfl rfl rfl rfl (sR rfl rfl (d_ldXM (g := gm) (off := 0) rfl H (sub_all (a := txC A t.ins.length c B t.outs.length d t.lock) (m := 3) rfl) rfl rfl rfl rfl ta26 ts26) (sC rfl rfl rfl Tryz.func19 rfl rfl rfl (checkTP _ (keeps_Tx _ _ _ _ _ ht (fun g hg _ => H.fr.block g hg (fun h => h)))) ?_)))
    rintro _ W ⟨rfl, hb⟩
    replace H := H.below hb
    clear hb
    refine sR rfl rfl (d_ne rfl rfl rfl) (sR rfl rfl (mv_bx (c := false) rfl rfl (by simp)) ?_)
    refine s_run (w_g rfl rfl rfl rfl) rfl (mv_i rfl rfl) (s_run (w_g rfl rfl rfl rfl) rfl (d_ne rfl rfl rfl) (s_run (w_g rfl rfl rfl rfl) rfl (mv_bx (c := false) rfl rfl (by simp [hne])) ?_))
    refine s_skip (w_gno rfl rfl rfl rfl rfl) rfl (s_skip (w_gno rfl rfl rfl rfl rfl) rfl (s_skip (w_gno rfl rfl rfl rfl rfl) rfl (s_run (w_g rfl rfl rfl rfl) rfl (d_pickF rfl rfl rfl) (sR rfl rfl (d_pickF rfl rfl rfl) (l_nil (k_condF rfl rfl (k_skip (k_seq (k_seq (k_region ?_))))))))))
    refine sMi rfl rfl rfl rfl (sR rfl rfl (d_eq rfl rfl rfl) (l_nil (k_condT rfl (by rw [hne]; rfl) ?_)))
    refine k_seq (k_region (sMs rfl rfl rfl rfl (sC rfl rfl rfl Tryz.func29 rfl rfl rfl (getTP _ (H.rowbs (A := A1) rfl) (by rw [Tx.put_ok hne]; omega) (H.gat hG)) ?_)))
    rintro _ W hs_
    obtain ⟨Sg1, Ag1, cg1, Bg1, dg1, rfl, H1_⟩ := GotTx.rep hs_ H
    clear H hs_
    have H := H1_
    clear H1_
    refine sR rfl rfl (mv_t rfl rfl) (sR rfl rfl (d_ext rfl rfl rfl) (sR rfl rfl (d_ext rfl rfl rfl) (s_eff (e_alloc (w_none rfl) rfl rfl [.slice none 0 0, .slice none 0 0, .int .i64 0] tz26 H ?_))))
    clear H; intro g5 W H
    refine s_eff (e_stoK (txC Ag1 (Tx.get (Tx.put t)).1.ins.length cg1 Bg1 (Tx.get (Tx.put t)).1.outs.length dg1 (Tx.get (Tx.put t)).1.lock) (w_none rfl) rfl rfl rfl rfl rfl ts26 rfl rfl H (by decide) rfl ?_)
    clear H; intro W H
    refine sAi rfl rfl rfl rfl (l_nil (k_seq (k_region (sMi rfl rfl rfl rfl (sR rfl rfl (d_ne rfl rfl rfl) (sR rfl rfl (mv_bx (c := false) rfl rfl (by rw [hge]; rfl)) ?_))))))
    refine s_run (w_g rfl rfl rfl rfl) rfl (d_ldXM (g := g5) (off := 0) rfl H (sub_all (a := txC Ag1 (Tx.get (Tx.put t)).1.ins.length cg1 Bg1 (Tx.get (Tx.put t)).1.outs.length dg1 (Tx.get (Tx.put t)).1.lock) (m := 3) rfl) rfl rfl rfl rfl ta26 ts26) (s_run (w_g rfl rfl rfl rfl) rfl (d_ldXM (g := gm) (off := 0) rfl H (sub_all (a := txC A t.ins.length c B t.outs.length d t.lock) (m := 3) rfl) rfl rfl rfl rfl ta26 ts26) (s_eff (e_call (w_g rfl rfl rfl rfl) rfl rfl Tryz.func28 rfl rfl rfl (sameTx _ (H.rep1 (R := RTx) (S := Sg1) (cs := txC Ag1 (Tx.get (Tx.put t)).1.ins.length cg1 Bg1 (Tx.get (Tx.put t)).1.outs.length dg1 (Tx.get (Tx.put t)).1.lock) (a := (Tx.get (Tx.put t)).1)) (keeps_Tx _ _ _ _ _ ht (fun g hg _ => H.fr.block g hg (fun h => h)))) ?_)))
    rintro _ W ⟨rfl, hb⟩
    replace H := H.below hb
    clear hb
    refine s_run (w_g rfl rfl rfl rfl) rfl (d_not rfl rfl) (sR rfl rfl (d_pickF rfl rfl rfl) (l_nil (k_condF rfl (by rw [hge]; simp) ?_)))
    refine k_skip (k_seq (k_region (sMs rfl rfl rfl rfl (sC rfl rfl rfl Tryz.func29 rfl rfl rfl (getTP _ (H.bs hm0) (by omega) (H.gat hG)) ?_))))
    rintro _ W hs_
    obtain ⟨Sg2, Ag2, cg2, Bg2, dg2, rfl, H1_⟩ := GotTx.rep hs_ H
    clear H hs_
    have H := H1_
    clear H1_
    refine sR rfl rfl (mv_t rfl rfl) (sR rfl rfl (d_ext rfl rfl rfl) (sR rfl rfl (d_ext rfl rfl rfl) (s_eff (e_alloc (w_none rfl) rfl rfl [.slice none 0 0, .slice none 0 0, .int .i64 0] tz26 H ?_))))
    clear H; intro g6 W H
    refine s_eff (e_stoK (txC Ag2 (Tx.get b).1.ins.length cg2 Bg2 (Tx.get b).1.outs.length dg2 (Tx.get b).1.lock) (w_none rfl) rfl rfl rfl rfl rfl ts26 rfl rfl H (by decide) rfl ?_)
    clear H; intro W H
    refine sAi rfl rfl rfl rfl (l_nil (k_seq (k_seq (k_region (sMi rfl rfl rfl rfl (sR rfl rfl (d_ne rfl rfl rfl) (l_nil (k_cond rfl (fun hc60 => ?_) (fun hc60 => ?_)))))))))
    ·have hgn : (Tx.get b).2 ≠ 0 := by simpa using hc60
     refine k_seq (k_region (sR rfl rfl (d_ldXM (g := g6) (off := 0) rfl H (sub_all (a := txC Ag2 (Tx.get b).1.ins.length cg2 Bg2 (Tx.get b).1.outs.length dg2 (Tx.get b).1.lock) (m := 3) rfl) rfl rfl rfl rfl ta26 ts26) (sR rfl rfl (d_build (vs := txC none 0 0 none 0 0 0) rfl (by kernel_rfl)) ?_)))
     refine sC rfl rfl rfl Tryz.func28 rfl rfl rfl (sameTx (S1 := nT) (u := Tx.zero) _ (H.rep1 (R := RTx) (S := Sg2) (cs := txC Ag2 (Tx.get b).1.ins.length cg2 Bg2 (Tx.get b).1.outs.length dg2 (Tx.get b).1.lock) (a := (Tx.get b).1)) ⟨_, _, _, rfl, rl_nil, rl_nil, rfl, by decide, by decide⟩) ?_
     rintro _ W ⟨rfl, hb⟩
     replace H := H.below hb
     clear hb
     refine sR rfl rfl (mv_bx (c := true) rfl rfl (by rw [Tx.get_zero hgn]; exact decide_eq_true rfl)) ?_
     refine s_eff (e_call (w_g rfl rfl rfl rfl) rfl rfl Tryz.func13 rfl rfl rfl (works07 _ (H.gat hG) (H.gl hB)) ?_)
     rintro _ W ⟨rfl, hb⟩
     replace H := H.below hb
     clear hb
     refine sR rfl rfl (d_pickT rfl rfl rfl) (sAb rfl rfl rfl rfl (l_nil (k_ret ?_)))
     repeat (first | refine r_then ?_ | refine r_blk ?_)
     exact q_ret (v := .bool _) rfl rfl ⟨_, rfl, rfl, H.under⟩
    ·have hgn : (Tx.get b).2 = 0 := by simpa using hc60
     obtain ⟨hgc, hgb⟩ := Tx.get_back hgn
     have hgp : Tx.put (Tx.get b).1 = b := by rw [Tx.put_ok hgc]; exact hgb
     refine k_skip (k_seq (k_region (sR rfl rfl (d_ldXM (g := g6) (off := 0) rfl H (sub_all (a := txC Ag2 (Tx.get b).1.ins.length cg2 Bg2 (Tx.get b).1.outs.length dg2 (Tx.get b).1.lock) (m := 3) rfl) rfl rfl rfl rfl ta26 ts26) (sC rfl rfl rfl Tryz.func9 rfl rfl rfl (putTP _ (H.rep1 (R := RTx) (S := Sg2) (cs := txC Ag2 (Tx.get b).1.ins.length cg2 Bg2 (Tx.get b).1.outs.length dg2 (Tx.get b).1.lock) (a := (Tx.get b).1)) (H.gat hG)) ?_))))
     rintro _ W ⟨_, rfl, A3, c3, rfl, hc3, hd3, hn⟩
     replace H := H.new hn
     clear hn
     refine sR rfl rfl (mv_t rfl rfl) (sR rfl rfl (d_ext rfl rfl rfl) (sR rfl rfl (d_ext rfl rfl rfl) (sAs rfl rfl rfl rfl (sAi rfl rfl rfl rfl (l_nil (k_seq (k_region (sMi rfl rfl rfl rfl (sR rfl rfl (d_eq rfl rfl rfl) (sR rfl rfl (mv_bx (c := true) rfl rfl (by rw [hgc]; rfl)) ?_))))))))))
     refine s_run (w_g rfl rfl rfl rfl) rfl (mv_s rfl rfl) (s_run (w_g rfl rfl rfl rfl) rfl (mv_s rfl rfl) (s_eff (e_call (w_g rfl rfl rfl rfl) rfl rfl Tryz.func20 rfl rfl rfl (sameBytes _ _ (Tx.put (Tx.get b).1) b _ (H.rowbs (A := A3) rfl) (H.bs hm0)) ?_)))
     rintro _ W ⟨rfl, hb⟩
     replace H := H.below hb
     clear hb
     refine sR rfl rfl (d_pickT rfl rfl rfl) (sR rfl rfl (mv_bx (c := true) rfl rfl (by rw [hgp]; exact decide_eq_true rfl)) ?_)
     refine s_eff (e_call (w_g rfl rfl rfl rfl) rfl rfl Tryz.func13 rfl rfl rfl (works07 _ (H.gat hG) (H.gl hB)) ?_)
     rintro _ W ⟨rfl, hb⟩
     replace H := H.below hb
     clear hb
     refine sR rfl rfl (d_pickT rfl rfl rfl) (sAb rfl rfl rfl rfl (l_nil (k_ret ?_)))
     repeat (first | refine r_then ?_ | refine r_blk ?_)
     exact q_ret (v := .bool _) rfl rfl ⟨_, rfl, rfl, H.under⟩
   ·have hpb := Tx.put_bad hne
    refine k_region (sMi rfl rfl rfl rfl (sR rfl rfl (d_ldXM (g := gm) (off := 0) rfl H (sub_all (a := txC A t.ins.length c B t.outs.length d t.lock) (m := 3) rfl) rfl rfl rfl rfl ta26 ts26) (sC rfl rfl rfl Tryz.func19 rfl rfl rfl (checkTP _ (keeps_Tx _ _ _ _ _ ht (fun g hg _ => H.fr.block g hg (fun h => h)))) ?_)))
    rintro _ W ⟨rfl, hb⟩
    replace H := H.below hb
    clear hb
    refine sR rfl rfl (d_ne rfl rfl rfl) (sR rfl rfl (mv_bx (c := false) rfl rfl (by simp)) ?_)
    refine s_run (w_g rfl rfl rfl rfl) rfl (mv_i rfl rfl) (s_run (w_g rfl rfl rfl rfl) rfl (d_ne rfl rfl rfl) (s_run (w_g rfl rfl rfl rfl) rfl (mv_bx (c := true) rfl rfl (by simp [hne])) ?_))
    refine s_run (w_g rfl rfl rfl rfl) rfl (mv_s rfl rfl) (s_run (w_g rfl rfl rfl rfl) rfl (d_len rfl rfl tu35) (s_run (w_g rfl rfl rfl rfl) rfl (d_gt rfl rfl rfl) (s_run (w_g rfl rfl rfl rfl) rfl (d_pickT rfl rfl rfl) (sR rfl rfl (d_pickF rfl rfl rfl) (l_nil (k_condF rfl (by rw [hpb]; rfl) ?_))))))
    refine k_skip (k_seq (k_seq (k_region (sMi rfl rfl rfl rfl (sR rfl rfl (d_eq rfl rfl rfl) (l_nil (k_condF rfl (by simpa using hne) ?_)))))))
    refine k_skip (k_seq (k_region (sMs rfl rfl rfl rfl (sC rfl rfl rfl Tryz.func29 rfl rfl rfl (getTP _ (H.bs hm0) (by omega) (H.gat hG)) ?_))))
    rintro _ W hs_
    obtain ⟨Sg2, Ag2, cg2, Bg2, dg2, rfl, H1_⟩ := GotTx.rep hs_ H
    clear H hs_
    have H := H1_
    clear H1_
    refine sR rfl rfl (mv_t rfl rfl) (sR rfl rfl (d_ext rfl rfl rfl) (sR rfl rfl (d_ext rfl rfl rfl) (s_eff (e_alloc (w_none rfl) rfl rfl [.slice none 0 0, .slice none 0 0, .int .i64 0] tz26 H ?_))))
    clear H; intro g6 W H
    refine s_eff (e_stoK (txC Ag2 (Tx.get b).1.ins.length cg2 Bg2 (Tx.get b).1.outs.length dg2 (Tx.get b).1.lock) (w_none rfl) rfl rfl rfl rfl rfl ts26 rfl rfl H (by decide) rfl ?_)
    clear H; intro W H
    refine sAi rfl rfl rfl rfl (l_nil (k_seq (k_seq (k_region (sMi rfl rfl rfl rfl (sR rfl rfl (d_ne rfl rfl rfl) (l_nil (k_cond rfl (fun hc60 => ?_) (fun hc60 => ?_)))))))))
    ·have hgn : (Tx.get b).2 ≠ 0 := by simpa using hc60
     refine k_seq (k_region (sR rfl rfl (d_ldXM (g := g6) (off := 0) rfl H (sub_all (a := txC Ag2 (Tx.get b).1.ins.length cg2 Bg2 (Tx.get b).1.outs.length dg2 (Tx.get b).1.lock) (m := 3) rfl) rfl rfl rfl rfl ta26 ts26) (sR rfl rfl (d_build (vs := txC none 0 0 none 0 0 0) rfl (by kernel_rfl)) ?_)))
     refine sC rfl rfl rfl Tryz.func28 rfl rfl rfl (sameTx (S1 := nT) (u := Tx.zero) _ (H.rep1 (R := RTx) (S := Sg2) (cs := txC Ag2 (Tx.get b).1.ins.length cg2 Bg2 (Tx.get b).1.outs.length dg2 (Tx.get b).1.lock) (a := (Tx.get b).1)) ⟨_, _, _, rfl, rl_nil, rl_nil, rfl, by decide, by decide⟩) ?_
     rintro _ W ⟨rfl, hb⟩
     replace H := H.below hb
     clear hb
     refine sR rfl rfl (mv_bx (c := true) rfl rfl (by rw [Tx.get_zero hgn]; exact decide_eq_true rfl)) ?_
     refine s_eff (e_call (w_g rfl rfl rfl rfl) rfl rfl Tryz.func13 rfl rfl rfl (works07 _ (H.gat hG) (H.gl hB)) ?_)
     rintro _ W ⟨rfl, hb⟩
     replace H := H.below hb
     clear hb
     refine sR rfl rfl (d_pickT rfl rfl rfl) (sAb rfl rfl rfl rfl (l_nil (k_ret ?_)))
     repeat (first | refine r_then ?_ | refine r_blk ?_)
     exact q_ret (v := .bool _) rfl rfl ⟨_, rfl, rfl, H.under⟩
    ·have hgn : (Tx.get b).2 = 0 := by simpa using hc60
     obtain ⟨hgc, hgb⟩ := Tx.get_back hgn
     have hgp : Tx.put (Tx.get b).1 = b := by rw [Tx.put_ok hgc]; exact hgb
     refine k_skip (k_seq (k_region (sR rfl rfl (d_ldXM (g := g6) (off := 0) rfl H (sub_all (a := txC Ag2 (Tx.get b).1.ins.length cg2 Bg2 (Tx.get b).1.outs.length dg2 (Tx.get b).1.lock) (m := 3) rfl) rfl rfl rfl rfl ta26 ts26) (sC rfl rfl rfl Tryz.func9 rfl rfl rfl (putTP _ (H.rep1 (R := RTx) (S := Sg2) (cs := txC Ag2 (Tx.get b).1.ins.length cg2 Bg2 (Tx.get b).1.outs.length dg2 (Tx.get b).1.lock) (a := (Tx.get b).1)) (H.gat hG)) ?_))))
     rintro _ W ⟨_, rfl, A3, c3, rfl, hc3, hd3, hn⟩
     replace H := H.new hn
     clear hn
     refine sR rfl rfl (mv_t rfl rfl) (sR rfl rfl (d_ext rfl rfl rfl) (sR rfl rfl (d_ext rfl rfl rfl) (sAs rfl rfl rfl rfl (sAi rfl rfl rfl rfl (l_nil (k_seq (k_region (sMi rfl rfl rfl rfl (sR rfl rfl (d_eq rfl rfl rfl) (sR rfl rfl (mv_bx (c := true) rfl rfl (by rw [hgc]; rfl)) ?_))))))))))
     refine s_run (w_g rfl rfl rfl rfl) rfl (mv_s rfl rfl) (s_run (w_g rfl rfl rfl rfl) rfl (mv_s rfl rfl) (s_eff (e_call (w_g rfl rfl rfl rfl) rfl rfl Tryz.func20 rfl rfl rfl (sameBytes _ _ (Tx.put (Tx.get b).1) b _ (H.rowbs (A := A3) rfl) (H.bs hm0)) ?_)))
     rintro _ W ⟨rfl, hb⟩
     replace H := H.below hb
     clear hb
     refine sR rfl rfl (d_pickT rfl rfl rfl) (sR rfl rfl (mv_bx (c := true) rfl rfl (by rw [hgp]; exact decide_eq_true rfl)) ?_)
     refine s_eff (e_call (w_g rfl rfl rfl rfl) rfl rfl Tryz.func13 rfl rfl rfl (works07 _ (H.gat hG) (H.gl hB)) ?_)
     rintro _ W ⟨rfl, hb⟩
     replace H := H.below hb
     clear hb
     refine sR rfl rfl (d_pickT rfl rfl rfl) (sAb rfl rfl rfl rfl (l_nil (k_ret ?_)))
     repeat (first | refine r_then ?_ | refine r_blk ?_)
     exact q_ret (v := .bool _) rfl rfl ⟨_, rfl, rfl, H.under⟩
 ·skip
  refine k_region (sR rfl rfl (d_ldXM (g := gm) (off := 0) rfl H (sub_all (a := txC A t.ins.length c B t.outs.length d t.lock) (m := 3) rfl) rfl rfl rfl rfl ta26 ts26) (sC rfl rfl rfl Tryz.func14 rfl rfl rfl (bigTx (rows := 40) (bytes := 8192) _ (keeps_Tx _ _ _ _ _ ht (fun g hg _ => H.fr.block g hg (fun h => h))) hz) ?_))
  rintro _ W ⟨rfl, hb⟩
  replace H := H.below hb
  clear hb
  refine sR rfl rfl (mv_bx (c := true) rfl rfl (by rw [hbig])) ?_
  refine s_skip (w_gno rfl rfl rfl rfl rfl) rfl (s_skip (w_gno rfl rfl rfl rfl rfl) rfl (s_skip (w_gno rfl rfl rfl rfl rfl) rfl (sR rfl rfl (d_pickT rfl rfl rfl) (l_nil (k_condT rfl rfl (k_seq (k_region (sC rfl rfl rfl Tryz.func13 rfl rfl rfl (works07 _ (H.gat hG) (H.gl hB)) ?_))))))))
  rintro _ W ⟨rfl, hb⟩
  replace H := H.below hb
  clear hb
  refine sAb rfl rfl rfl rfl (l_nil (k_ret ?_))
  repeat (first | refine r_then ?_ | refine r_blk ?_)
  exact q_ret (v := .bool _) rfl rfl ⟨_, rfl, rfl, H.under⟩

set_option maxHeartbeats 4000000 in
theorem txCut {S1 : Nat → Prop} {u : Value} {m : List UInt8} {ct : Int} {S : Nat → Prop} {cs : List Value} {t : DTx} (w : World) (hG : Gat w 0 formsC) (hB : Old.Gl w) (ht : RTx w S cs t) (hz : Tx.Szd t) (hm : Bs w S1 u m) : Calls Tryz.prog 12 [.agg cs.toArray, .int .i64 ct, u].toArray w (Ret (Is w (.bool true))) := by
 obtain ⟨A, c, B, d, rfl, hI, hO, hk⟩ := tx_of ht
 have hok := tx_ok ht
 have hm0 := hm
 obtain ⟨Am, cm, rfl, hcm1, hcm2, hmr⟩ := hm.op
 refine k_enter (l := [_, _, _]) Tryz.func12 rfl rfl ?_
 have H := St.start nT w
 refine k_seq (k_region (s_eff (e_box (vs := (txC A t.ins.length c B t.outs.length d t.lock)) (w_none rfl) rfl rfl rfl rfl H ?_)))
 clear H; intro gm W H
 refine sAb rfl rfl rfl rfl (l_nil (k_seq (k_seq ?_)))
 rcases hbig : Tx.big 40 8192 t with _ | _
 ·have hsm := Tx.not_big hbig (by decide)
  refine k_region (sR rfl rfl (d_ldXM (g := gm) (off := 0) rfl H (sub_all (a := txC A t.ins.length c B t.outs.length d t.lock) (m := 3) rfl) rfl rfl rfl rfl ta26 ts26) (sC rfl rfl rfl Tryz.func14 rfl rfl rfl (bigTx (rows := 40) (bytes := 8192) _ (keeps_Tx _ _ _ _ _ ht (fun g hg _ => H.fr.block g hg (fun h => h))) hz) ?_))
  rintro _ W ⟨rfl, hb⟩
  replace H := H.below hb
  clear hb
  refine sR rfl rfl (mv_bx (c := false) rfl rfl (by rw [hbig])) ?_
  refine s_run (w_g rfl rfl rfl rfl) rfl (mv_s rfl rfl) (s_run (w_g rfl rfl rfl rfl) rfl (d_len rfl rfl tu35) (s_run (w_g rfl rfl rfl rfl) rfl (d_gt rfl rfl rfl) (sR rfl rfl (d_pickF rfl rfl rfl) (l_nil (k_cond rfl (fun hc20 => ?_) (fun hc20 => ?_))))))
  ·skip
   refine k_seq (k_region (sC rfl rfl rfl Tryz.func13 rfl rfl rfl (works07 _ (H.gat hG) (H.gl hB)) ?_))
   rintro _ W ⟨rfl, hb⟩
   replace H := H.below hb
   clear hb
   refine sAb rfl rfl rfl rfl (l_nil (k_ret ?_))
   repeat (first | refine r_then ?_ | refine r_blk ?_)
   exact q_ret (v := .bool _) rfl rfl ⟨_, rfl, rfl, H.under⟩
  ·have hbl : m.length ≤ 512 := by simp at hc20; omega
   refine k_skip (k_seq (k_region (sR rfl rfl (d_ldXM (g := gm) (off := 0) rfl H (sub_all (a := txC A t.ins.length c B t.outs.length d t.lock) (m := 3) rfl) rfl rfl rfl rfl ta26 ts26) (sC rfl rfl rfl Tryz.func9 rfl rfl rfl (putTP _ (keeps_Tx _ _ _ _ _ ht (fun g hg _ => H.fr.block g hg (fun h => h))) (H.gat hG)) ?_))))
   rintro _ W ⟨_, rfl, A1, c1, rfl, hc1, hd1, hn⟩
   replace H := H.new hn
   clear hn
   refine sR rfl rfl (mv_t rfl rfl) (sR rfl rfl (d_ext rfl rfl rfl) (sR rfl rfl (d_ext rfl rfl rfl) (sAs rfl rfl rfl rfl (sAi rfl rfl rfl rfl (l_nil (k_seq (k_seq (k_region (sMi rfl rfl rfl rfl (sR rfl rfl (d_ne rfl rfl rfl) ?_))))))))))
   refine l_nil (k_cond rfl (fun hc28 => ?_) (fun hc28 => ?_))
   ·skip
    refine k_seq (k_region (sC rfl rfl rfl Tryz.func13 rfl rfl rfl (works07 _ (H.gat hG) (H.gl hB)) ?_))
    rintro _ W ⟨rfl, hb⟩
    replace H := H.below hb
    clear hb
    refine sAb rfl rfl rfl rfl (l_nil (k_ret ?_))
    repeat (first | refine r_then ?_ | refine r_blk ?_)
    exact q_ret (v := .bool _) rfl rfl ⟨_, rfl, rfl, H.under⟩
   ·have hne : Tx.chk t = 0 := by simpa using hc28
    have hpk := Tx.put_ok hne
    have hpl : (Tx.put t).length ≤ 11963 := by rw [hpk]; exact Tx.len_putB hne hok
    have hpp : 0 < (Tx.put t).length := by rw [hpk]; exact Tx.putB_pos
    obtain ⟨k, hk1, hk2⟩ := pick_lt (v := ct) hpp
    have hg1 : Tx.get ((Tx.put t).take k) = (Tx.zero, 4) := by rw [hpk] at hk2 ⊢; exact Tx.get_cut hne hok hk2
    have hg2 : Tx.get (Tx.put t ++ m) = if m = [] then (t, 0) else (Tx.zero, 5) := by rw [hpk]; exact Tx.get_more hne hok m
    refine k_skip (k_seq (k_region (sMs rfl rfl rfl rfl (sMi rfl rfl rfl rfl (sMs rfl rfl rfl rfl (sR rfl rfl (d_len rfl rfl tu35) (sC rfl rfl rfl Tryz.func30 rfl rfl rfl (pick_any ct _ _ (by omega)) ?_)))))))
    rintro _ W ⟨rfl, hb⟩
    replace H := H.below hb
    clear hb
    refine sR rfl rfl (d_cutP rfl rfl (h := k) hk1 (by omega) rfl tu35 ts5) (sC rfl rfl rfl Tryz.func29 rfl rfl rfl (getTP _ (Bs.first (h := k) (H.rowbs (A := A1) rfl) rfl (by omega)) (by rw [List.length_take]; omega) (H.gat hG)) ?_)
    rintro _ W hs_
    obtain ⟨Sg1, Ag1, cg1, Bg1, dg1, rfl, H1_⟩ := GotTx.rep hs_ H
    clear H hs_
    have H := H1_
    clear H1_
    refine sR rfl rfl (mv_t rfl rfl) (sR rfl rfl (d_ext rfl rfl rfl) (sR rfl rfl (d_ext rfl rfl rfl) (s_eff (e_alloc (w_none rfl) rfl rfl [.slice none 0 0, .slice none 0 0, .int .i64 0] tz26 H ?_))))
    clear H; intro g5 W H
    refine s_eff (e_sto (w_none rfl) rfl rfl rfl rfl rfl ts26 rfl H rfl ?_)
    clear H; intro W H
    refine sAi rfl rfl rfl rfl (l_nil (k_seq (k_region (sMs rfl rfl rfl rfl (sC rfl rfl rfl Tryz.func10 rfl rfl rfl (copyBytes _ (Tx.put t) _ (H.rowbs (A := A1) rfl) (by omega)) ?_)))))
    rintro _ W ⟨A2, c2, rfl, hc2, hd2, hn⟩
    replace H := H.new hn
    clear hn
    refine sMs rfl rfl rfl rfl (s_eff (e_app (w_none rfl) rfl rfl tu35 tx5 rfl rfl rfl H (H.rd hmr) (all_u8L _) (by omega) rfl ?_))
    clear H; intro A3 c3 W hc3 hd3 H
    rw [← List.map_append] at H
    refine sC rfl rfl rfl Tryz.func29 rfl rfl rfl (getTP (b := Tx.put t ++ m) _ (bs_row (H.holds _ (.head _)) (by rw [List.length_append])) (by rw [List.length_append]; omega) (H.gat hG)) ?_
    rintro _ W hs_
    obtain ⟨Sg2, Ag2, cg2, Bg2, dg2, rfl, H1_⟩ := GotTx.rep hs_ H
    clear H hs_
    have H := H1_
    clear H1_
    refine sR rfl rfl (mv_t rfl rfl) (sR rfl rfl (d_ext rfl rfl rfl) (sR rfl rfl (d_ext rfl rfl rfl) (s_eff (e_alloc (w_none rfl) rfl rfl [.slice none 0 0, .slice none 0 0, .int .i64 0] tz26 H ?_))))
    clear H; intro g6 W H
    refine s_eff (e_sto (w_none rfl) rfl rfl rfl rfl rfl ts26 rfl H rfl ?_)
    clear H; intro W H
    refine sAi rfl rfl rfl rfl (l_nil (k_seq (k_region (sAi rfl rfl rfl rfl (l_nil (k_seq (k_seq (k_region (sMs rfl rfl rfl rfl (sR rfl rfl (d_len rfl rfl tu35) ?_))))))))))
    refine sR rfl rfl (d_eq rfl rfl rfl) (l_nil (k_cond rfl (fun hc50 => ?_) (fun hc50 => ?_)))
    ·have hm1 : m = [] := by simpa using hc50
     refine k_region (sAi rfl rfl rfl rfl (l_nil (k_seq (k_region (sMi rfl rfl rfl rfl (sR rfl rfl (d_eq rfl rfl rfl) (sR rfl rfl (mv_bx (c := true) rfl rfl (by rw [hg1]; rfl)) ?_)))))))
     refine s_run (w_g rfl rfl rfl rfl) rfl (mv_i rfl rfl) (s_run (w_g rfl rfl rfl rfl) rfl (mv_i rfl rfl) (s_run (w_g rfl rfl rfl rfl) rfl (d_eq rfl rfl rfl) (sR rfl rfl (d_pickT rfl rfl rfl) (sR rfl rfl (mv_bx (c := true) rfl rfl (by rw [hg2, if_pos hm1]; rfl)) ?_))))
     refine s_eff (e_call (w_g rfl rfl rfl rfl) rfl rfl Tryz.func13 rfl rfl rfl (works07 _ (H.gat hG) (H.gl hB)) ?_)
     rintro _ W ⟨rfl, hb⟩
     replace H := H.below hb
     clear hb
     refine sR rfl rfl (d_pickT rfl rfl rfl) (sAb rfl rfl rfl rfl (l_nil (k_ret ?_)))
     repeat (first | refine r_then ?_ | refine r_blk ?_)
     exact q_ret (v := .bool _) rfl rfl ⟨_, rfl, rfl, H.under⟩
    ·have hm1 : ¬ m = [] := by simpa using hc50
     refine k_skip (k_seq (k_region (sMi rfl rfl rfl rfl (sR rfl rfl (d_eq rfl rfl rfl) (sR rfl rfl (mv_bx (c := true) rfl rfl (by rw [hg1]; rfl)) ?_)))))
     refine s_run (w_g rfl rfl rfl rfl) rfl (mv_i rfl rfl) (s_run (w_g rfl rfl rfl rfl) rfl (mv_i rfl rfl) (s_run (w_g rfl rfl rfl rfl) rfl (d_eq rfl rfl rfl) (sR rfl rfl (d_pickT rfl rfl rfl) (sR rfl rfl (mv_bx (c := true) rfl rfl (by rw [hg2, if_neg hm1]; rfl)) ?_))))
     refine s_eff (e_call (w_g rfl rfl rfl rfl) rfl rfl Tryz.func13 rfl rfl rfl (works07 _ (H.gat hG) (H.gl hB)) ?_)
     rintro _ W ⟨rfl, hb⟩
     replace H := H.below hb
     clear hb
     refine sR rfl rfl (d_pickT rfl rfl rfl) (sAb rfl rfl rfl rfl (l_nil (k_ret ?_)))
     repeat (first | refine r_then ?_ | refine r_blk ?_)
     exact q_ret (v := .bool _) rfl rfl ⟨_, rfl, rfl, H.under⟩
 ·skip
  refine k_region (sR rfl rfl (d_ldXM (g := gm) (off := 0) rfl H (sub_all (a := txC A t.ins.length c B t.outs.length d t.lock) (m := 3) rfl) rfl rfl rfl rfl ta26 ts26) (sC rfl rfl rfl Tryz.func14 rfl rfl rfl (bigTx (rows := 40) (bytes := 8192) _ (keeps_Tx _ _ _ _ _ ht (fun g hg _ => H.fr.block g hg (fun h => h))) hz) ?_))
  rintro _ W ⟨rfl, hb⟩
  replace H := H.below hb
  clear hb
  refine sR rfl rfl (mv_bx (c := true) rfl rfl (by rw [hbig])) ?_
  refine s_skip (w_gno rfl rfl rfl rfl rfl) rfl (s_skip (w_gno rfl rfl rfl rfl rfl) rfl (s_skip (w_gno rfl rfl rfl rfl rfl) rfl (sR rfl rfl (d_pickT rfl rfl rfl) (l_nil (k_condT rfl rfl (k_seq (k_region (sC rfl rfl rfl Tryz.func13 rfl rfl rfl (works07 _ (H.gat hG) (H.gl hB)) ?_))))))))
  rintro _ W ⟨rfl, hb⟩
  replace H := H.below hb
  clear hb
  refine sAb rfl rfl rfl rfl (l_nil (k_ret ?_))
  repeat (first | refine r_then ?_ | refine r_blk ?_)
  exact q_ret (v := .bool _) rfl rfl ⟨_, rfl, rfl, H.under⟩
end Go.Proofs.YteakkflhndifbaaGreatDoor
