/- Texts of this claim, laid together: K46, Sized, SizedTx, F10. -/
import Derived.Test.YtdalmmkjmfpffaaGreatDoorMZ
import Derived.Test.YtdalmmkjmfpffaaGreatDoorMV
import Derived.SizedLaws
import Derived.Test.YtdalmmkjmfpffaaGreatDoorMX
import Derived.Test.YtdalmmkjmfpffaaGreatDoorProg
import Derived.KernelRfl
import Derived.Test.YtdalmmkjmfpffaaGreatDoorMF
set_option linter.unusedVariables false
set_option linter.unusedSimpArgs false

namespace Go.Proofs.YtdalmmkjmfpffaaGreatDoor
open Go Go.RowKit
attribute [local irreducible] wpList

def Tx.smallP : DPoint := ⟨1 :: List.replicate 31 0, 2⟩
def Tx.small : DTx := ⟨[⟨Tx.smallP, []⟩], [⟨5, []⟩], 0⟩
namespace Sm
theorem chk : Tx.chk Tx.small = 0 := by decide +kernel
theorem len : (Tx.put Tx.small).length = 39 := by decide +kernel
theorem weight : Tx.weight Tx.small = 153 := by decide +kernel
theorem bare : (Tx.put Tx.small).take 38 = Tx.bareB Tx.small := by decide +kernel
theorem ok : Tx.Ok Tx.small := ⟨fun x hx => by
  obtain rfl : x = ⟨Tx.smallP, []⟩ := by simpa [Tx.small] using hx
  exact ⟨rfl, by decide, by decide⟩, fun o ho => by
  obtain rfl : o = ⟨5, []⟩ := by simpa [Tx.small] using ho
  exact ⟨by decide, by decide⟩, by decide, by decide⟩
theorem get : Tx.get (Tx.put Tx.small) = (Tx.small, 0) := by
  have := Tx.get_put chk ok
  unfold Tx.put
  rw [if_pos chk]
  exact this
theorem dig : Tx.dig Tx.tTx Tx.small = Old.Bl.tagged Tx.tTx.data.toList ((Tx.put Tx.small).take 38) := by
  unfold Tx.dig
  rw [if_pos chk, bare]
end Sm
theorem Bs.first {W : World} {S : Nat → Prop} {A : Option Addr} {n c h : Nat} {l : List UInt8} (hb : Bs W S (.slice A n c) l) (hl : l.length = n) (hh : h ≤ n) : Bs W S (.slice A h c) (l.take h) := by
  obtain ⟨A', c', hv, h1, h2, h3⟩ := hb.op
  cases hv
  have hc := h3.cut (a := 0) (b := h) (c := c) (Nat.zero_le _) (by omega) (by omega)
  refine Bs.mk ?_ (by omega) h2
  refine ⟨by simp; omega, fun hn => ?_⟩
  obtain ⟨g, o, e1, e2, e3⟩ := h3.2 (by omega)
  refine ⟨g, o, e1, e2, fun j u hj => e3 j u ?_⟩
  rw [List.map_take, List.getElem?_take] at hj
  split at hj
  · exact hj
  · cases hj
set_option maxHeartbeats 4000000 in
theorem smallT (w : World) : Calls Tryz.prog 28 [].toArray w (Ret (NewTx w Tx.small)) := by
  refine k_enter (l := []) Tryz.func28 rfl rfl ?_
  have H := St.start nT w
  refine k_seq ?_
  refine k_region ?_
  refine s_eff (e_alloc (w_none rfl) rfl rfl [.slice none 0 0, .slice none 0 0, .int .i64 0] tz28 H ?_)
  clear H; intro go W H
  refine l_nil ?_
  refine k_seq ?_
  refine k_region ?_
  refine s_run (w_none rfl) rfl (d_build (vs := Tx.smallP.tx.map u8v) rfl (by kernel_rfl)) ?_
  refine s_run (w_none rfl) rfl (d_build (vs := pointC Tx.smallP) rfl (built_fields (places := [(0, 32), (32, 1)]) tz50 (by kernel_rfl) (by kernel_rfl) (fill_next (vs := Tx.smallP.tx.map u8v) (.agg (Tx.smallP.tx.map u8v).toArray) rfl rfl rfl rfl (Nat.le_of_ble_eq_true rfl) (fill_next (vs := [.int .i64 2]) (.int .i64 2) rfl (by rfl) rfl rfl (Nat.le_of_ble_eq_true rfl) (fill_end (by rfl)))))) ?_
  refine s_run (w_none rfl) rfl (d_build (vs := inC Tx.smallP none 0 0) rfl (built_fields (places := [(0, 33), (33, 1)]) tz53 (by kernel_rfl) (by kernel_rfl) (fill_next (vs := pointC Tx.smallP) (.agg (pointC Tx.smallP).toArray) rfl rfl rfl rfl (Nat.le_of_ble_eq_true rfl) (fill_end (by rfl))))) ?_
  refine s_eff (e_bsl (xs := [.tmp 3]) (vals := [.agg (inC Tx.smallP none 0 0).toArray]) (vs := (inC Tx.smallP none 0 0)) (w_none rfl) rfl rfl rfl rfl rfl rfl tu25 ts53 ty53 rfl (by simp [agg_cells, len_in (p := Tx.smallP) rfl]) (by simp [agg_cells]) H ?_)
  clear H; intro g1 W H
  replace H := (((H.torow (s := 34) 1 (by rw [len_in (p := Tx.smallP) rfl]) (by decide)).els0 RIn 34).flat (R := RIn) (cs := inC Tx.smallP none 0 0) (a := ⟨Tx.smallP, []⟩) (in_rep (w := []) rfl ⟨by decide, by decide⟩ rl_nil))
  replace H := St.elsnoc H (len_in (p := Tx.smallP) rfl)
  refine s_run (w_none rfl) rfl (d_build (vs := outC 5 none 0 0) rfl (built_fields (places := [(0, 1), (1, 1)]) tz55 (by kernel_rfl) (by kernel_rfl) (fill_next (vs := [.int .i64 5]) (.int .i64 5) rfl rfl rfl rfl (Nat.le_of_ble_eq_true rfl) (fill_end (by rfl))))) ?_
  refine s_eff (e_bsl (xs := [.tmp 5]) (vals := [.agg (outC 5 none 0 0).toArray]) (vs := (outC 5 none 0 0)) (w_none rfl) rfl rfl rfl rfl rfl rfl tu26 ts55 ty55 rfl (by simp [agg_cells, outC]) (by simp [agg_cells]) H ?_)
  clear H; intro g2 W H
  replace H := (((H.torow (s := 2) 1 rfl (by decide)).els0 ROut 2).flat (R := ROut) (cs := outC 5 none 0 0) (a := ⟨5, []⟩) (out_rep (s := []) ⟨by decide, by decide⟩ Bs.nil))
  replace H := St.elsnoc H rfl
  refine s_run (w_none rfl) rfl (d_build (vs := txC (some ⟨g1, 0, none⟩) 1 1 (some ⟨g2, 0, none⟩) 1 1 0) rfl (built_fields (places := [(0, 1), (1, 1), (2, 1)]) tz28 (by kernel_rfl) (by kernel_rfl) (fill_next (vs := [.slice (some ⟨g1, 0, none⟩) 1 1]) (.slice (some ⟨g1, 0, none⟩) 1 1) rfl rfl rfl rfl (Nat.le_of_ble_eq_true rfl) (fill_next (vs := [.slice (some ⟨g2, 0, none⟩) 1 1]) (.slice (some ⟨g2, 0, none⟩) 1 1) rfl (by rfl) rfl rfl (Nat.le_of_ble_eq_true rfl) (fill_end (by rfl)))))) ?_
  refine s_eff (e_sto (w_none rfl) rfl rfl rfl rfl rfl ts28 rfl H rfl ?_)
  clear H; intro W H
  refine l_nil ?_
  refine k_ret ?_
  repeat (first | refine r_then ?_ | refine r_blk ?_)
  refine q_retc rfl (c := txC (some ⟨g1, 0, none⟩) 1 1 (some ⟨g2, 0, none⟩) 1 1 0) (g := go) H rfl ta28 ts28 ⟨_, rfl, some ⟨g1, 0, none⟩, 1, some ⟨g2, 0, none⟩, 1, inC Tx.smallP none 0 0, outC 5 none 0 0, (fun _ => False ∨ False), (fun _ => False ∨ False), rfl, ⟨by decide, by decide⟩, ⟨by decide, by decide⟩, ?_⟩
  exact (H.sub (L' := [_, _, _, _]) (by repeat (first | exact List.Sublist.refl _ | exact List.nil_sublist _ | refine List.Sublist.cons_cons _ ?_ | refine List.Sublist.cons _ ?_))).perm (.trans (List.perm_append_comm (l₁ := [_, _]) (l₂ := [_, _])) (.trans (.swap _ _ _) (.cons _ (.cons _ (.swap _ _ _)))))

set_option maxHeartbeats 4000000 in
theorem works07 (w : World) (hG : Gat w 0 formsC) (hB : Old.Gl w) : Calls Tryz.prog 6 [].toArray w (Ret (Is w (.bool true))) := by
  have hl39 := Sm.len
  refine k_enter (l := []) Tryz.func6 rfl rfl ?_
  have H := St.start nT w
  refine k_seq ?_
  refine k_region ?_
  refine s_run (w_none rfl) rfl (as_b rfl rfl) ?_
  refine l_nil ?_
  refine k_seq ?_
  refine k_region ?_
  refine s_eff (e_call (w_none rfl) rfl rfl Tryz.func28 rfl rfl rfl (smallT _) ?_)
  rintro _ W hs_
  obtain ⟨Sn1, An1, cn1, Bn1, dn1, rfl, H1_⟩ := NewTx.rep hs_ H ⟨by decide, by decide⟩
  clear H hs_
  have H := H1_
  clear H1_
  refine s_eff (e_call (w_none rfl) rfl rfl Tryz.func15 rfl rfl rfl (putTP _ (H.rep1 (R := RTx) (S := Sn1) (cs := txC An1 Tx.small.ins.length cn1 Bn1 Tx.small.outs.length dn1 Tx.small.lock) (a := Tx.small)) (H.gat hG)) ?_)
  rintro _ W ⟨_, rfl, A1, c1, rfl, hc1, hd1, hn⟩
  replace H := H.new hn
  clear hn
  refine s_run (w_none rfl) rfl (mv_t rfl rfl) ?_
  refine s_run (w_none rfl) rfl (d_ext rfl rfl rfl) ?_
  refine s_run (w_none rfl) rfl (d_ext rfl rfl rfl) ?_
  refine s_run (w_none rfl) rfl (as_s rfl rfl) ?_
  refine s_run (w_none rfl) rfl (as_i rfl rfl) ?_
  refine l_nil ?_
  refine k_seq ?_
  refine k_region ?_
  refine s_run (w_none rfl) rfl (mv_s rfl rfl) ?_
  refine s_eff (e_call (w_none rfl) rfl rfl Tryz.func8 rfl rfl rfl (getTP _ (H.rowbs (A := A1) rfl) (by omega) (H.gat hG)) ?_)
  rintro _ W hs_
  obtain ⟨Sg1, Ag1, cg1, Bg1, dg1, rfl, H1_⟩ := GotTx.rep hs_ H
  clear H hs_
  have H := H1_
  clear H1_
  refine s_run (w_none rfl) rfl (mv_t rfl rfl) ?_
  refine s_run (w_none rfl) rfl (d_ext rfl rfl rfl) ?_
  refine s_run (w_none rfl) rfl (d_ext rfl rfl rfl) ?_
  refine s_eff (e_alloc (w_none rfl) rfl rfl [.slice none 0 0, .slice none 0 0, .int .i64 0] tz28 H ?_)
  clear H; intro g3 W H
  refine s_eff (e_stoK (txC Ag1 (Tx.get (Tx.put Tx.small)).1.ins.length cg1 Bg1 (Tx.get (Tx.put Tx.small)).1.outs.length dg1 (Tx.get (Tx.put Tx.small)).1.lock) (w_none rfl) rfl rfl rfl rfl rfl ts28 rfl rfl H (by decide) rfl ?_)
  clear H; intro W H
  refine s_run (w_none rfl) rfl (as_i rfl rfl) ?_
  refine l_nil ?_
  refine k_seq ?_
  refine k_draw [(0, true), (1, true), (2, true), (3, true), (4, true), (5, true), (6, true), (7, true), (8, true), (9, true), (10, true), (11, true), (12, false), (13, false), (14, true), (15, true), (16, true), (17, true), (18, false), (19, false), (20, true), (21, true), (24, true), (25, true), (22, false), (23, false), (26, false), (27, true), (28, true), (29, true)] [Fact.blk g3 (txC Ag1 (Tx.get (Tx.put Tx.small)).1.ins.length cg1 Bg1 (Tx.get (Tx.put Tx.small)).1.outs.length dg1 (Tx.get (Tx.put Tx.small)).1.lock) 28] (by kernel_rfl) (by kernel_rfl) H (by repeat (first | exact List.Sublist.refl _ | exact List.nil_sublist _ | refine List.Sublist.cons_cons _ ?_ | refine List.Sublist.cons _ ?_)) ?_
  clear H; intro W H
  refine c_run rfl (w_none rfl) rfl (fun W H => mv_i rfl rfl) ?_
  refine c_run rfl (w_none rfl) rfl (fun W H => d_eq rfl rfl rfl) ?_
  refine c_run rfl (w_none rfl) rfl (fun W H => mv_bx (c := true) rfl rfl (by rw [Sm.chk]; rfl)) ?_
  refine c_run rfl (w_g rfl rfl rfl rfl) rfl (fun W H => mv_i rfl rfl) ?_
  refine c_run rfl (w_g rfl rfl rfl rfl) rfl (fun W H => d_eq rfl rfl rfl) ?_
  refine c_run rfl (w_none rfl) rfl (fun W H => d_pickT rfl rfl rfl) ?_
  refine c_run rfl (w_none rfl) rfl (fun W H => mv_bx (c := true) rfl rfl (by rw [Sm.get]; rfl)) ?_
  refine c_run rfl (w_g rfl rfl rfl rfl) rfl (fun W H => mv_s rfl rfl) ?_
  refine c_run rfl (w_g rfl rfl rfl rfl) rfl (fun W H => d_len rfl rfl tu22) ?_
  refine c_run rfl (w_g rfl rfl rfl rfl) rfl (fun W H => d_eq rfl rfl rfl) ?_
  refine c_run rfl (w_none rfl) rfl (fun W H => d_pickT rfl rfl rfl) ?_
  refine c_run rfl (w_none rfl) rfl (fun W H => mv_bx (c := true) rfl rfl (by rw [Sm.len]; rfl)) ?_
  refine c_eff rfl (e_call (w_g rfl rfl rfl rfl) rfl rfl Tryz.func28 rfl rfl rfl (smallT _) ?_)
  rintro _ W hs_
  obtain ⟨Sn2, An2, cn2, Bn2, dn2, rfl, H1_⟩ := NewTx.rep hs_ H ⟨by decide, by decide⟩
  clear H hs_
  have H := H1_
  clear H1_
  refine ⟨H.sub (by repeat (first | exact List.Sublist.refl _ | exact List.nil_sublist _ | refine List.Sublist.cons_cons _ ?_ | refine List.Sublist.cons _ ?_)), ?_⟩
  refine c_eff rfl (e_call (w_g rfl rfl rfl rfl) rfl rfl Tryz.func26 rfl rfl rfl (weightTP _ (H.rep1 (R := RTx) (S := Sn2) (cs := txC An2 Tx.small.ins.length cn2 Bn2 Tx.small.outs.length dn2 Tx.small.lock) (a := Tx.small)) (H.gat hG)) ?_)
  rintro _ W ⟨rfl, hb⟩
  replace H := H.below hb
  clear hb
  refine ⟨H.sub (by repeat (first | exact List.Sublist.refl _ | exact List.nil_sublist _ | refine List.Sublist.cons_cons _ ?_ | refine List.Sublist.cons _ ?_)), ?_⟩
  refine c_run rfl (w_g rfl rfl rfl rfl) rfl (fun W H => d_eq rfl rfl rfl) ?_
  refine c_run rfl (w_none rfl) rfl (fun W H => d_pickT rfl rfl rfl) ?_
  refine c_run rfl (w_none rfl) rfl (fun W H => mv_bx (c := true) rfl rfl (by rw [Sm.weight]; rfl)) ?_
  refine c_run rfl (w_g rfl rfl rfl rfl) rfl (fun W H => d_ldXM (g := g3) (off := 0) rfl H (sub_all (a := txC Ag1 (Tx.get (Tx.put Tx.small)).1.ins.length cg1 Bg1 (Tx.get (Tx.put Tx.small)).1.outs.length dg1 (Tx.get (Tx.put Tx.small)).1.lock) (m := 3) rfl) rfl rfl rfl rfl ta28 ts28) ?_
  refine c_eff rfl (e_call (w_g rfl rfl rfl rfl) rfl rfl Tryz.func28 rfl rfl rfl (smallT _) ?_)
  rintro _ W hs_
  obtain ⟨Sn3, An3, cn3, Bn3, dn3, rfl, H1_⟩ := NewTx.rep hs_ H ⟨by decide, by decide⟩
  clear H hs_
  have H := H1_
  clear H1_
  refine ⟨H.sub (by repeat (first | exact List.Sublist.refl _ | exact List.nil_sublist _ | refine List.Sublist.cons_cons _ ?_ | refine List.Sublist.cons _ ?_)), ?_⟩
  refine c_eff rfl (e_call (w_g rfl rfl rfl rfl) rfl rfl Tryz.func10 rfl rfl rfl (sameTx _ (H.rep1 (R := RTx) (S := Sg1) (cs := txC Ag1 (Tx.get (Tx.put Tx.small)).1.ins.length cg1 Bg1 (Tx.get (Tx.put Tx.small)).1.outs.length dg1 (Tx.get (Tx.put Tx.small)).1.lock) (a := (Tx.get (Tx.put Tx.small)).1)) (H.rep1 (R := RTx) (S := Sn3) (cs := txC An3 Tx.small.ins.length cn3 Bn3 Tx.small.outs.length dn3 Tx.small.lock) (a := Tx.small))) ?_)
  rintro _ W ⟨rfl, hb⟩
  replace H := H.below hb
  clear hb
  refine ⟨H.sub (by repeat (first | exact List.Sublist.refl _ | exact List.nil_sublist _ | refine List.Sublist.cons_cons _ ?_ | refine List.Sublist.cons _ ?_)), ?_⟩
  refine c_run rfl (w_none rfl) rfl (fun W H => d_pickT rfl rfl rfl) ?_
  refine c_run rfl (w_none rfl) rfl (fun W H => mv_bx (c := true) rfl rfl (by rw [Sm.get]; exact decide_eq_true rfl)) ?_
  refine c_run rfl (w_g rfl rfl rfl rfl) rfl (fun W H => mv_s rfl rfl) ?_
  refine c_run rfl (w_g rfl rfl rfl rfl) rfl (fun W H => d_cutP rfl rfl (h := 38) rfl (by omega) rfl tu22 ts5) ?_
  refine c_eff rfl (e_call (w_g rfl rfl rfl rfl) rfl rfl Tryz.func28 rfl rfl rfl (smallT _) ?_)
  rintro _ W hs_
  obtain ⟨Sn4, An4, cn4, Bn4, dn4, rfl, H1_⟩ := NewTx.rep hs_ H ⟨by decide, by decide⟩
  clear H hs_
  have H := H1_
  clear H1_
  refine ⟨H.sub (by repeat (first | exact List.Sublist.refl _ | exact List.nil_sublist _ | refine List.Sublist.cons_cons _ ?_ | refine List.Sublist.cons _ ?_)), ?_⟩
  refine c_eff rfl (e_call (w_g rfl rfl rfl rfl) rfl rfl Tryz.func22 rfl rfl rfl (idTP _ (H.rep1 (R := RTx) (S := Sn4) (cs := txC An4 Tx.small.ins.length cn4 Bn4 Tx.small.outs.length dn4 Tx.small.lock) (a := Tx.small)) (H.gat hG) (H.gl hB)) ?_)
  rintro _ W ⟨rfl, hb⟩
  replace H := H.below hb
  clear hb
  refine ⟨H.sub (by repeat (first | exact List.Sublist.refl _ | exact List.nil_sublist _ | refine List.Sublist.cons_cons _ ?_ | refine List.Sublist.cons _ ?_)), ?_⟩
  refine c_eff rfl (e_call (w_g rfl rfl rfl rfl) rfl rfl Tryz.func34 rfl rfl rfl (taggedB (s := Tx.tTx) _ (H.gl hB) (Bs.first (h := 38) (H.rowbs (A := A1) rfl) rfl (by omega)) (by decide) (by rw [List.length_take]; omega)) ?_)
  rintro _ W ⟨rfl, hb⟩
  replace H := H.below hb
  clear hb
  refine ⟨H.sub (by repeat (first | exact List.Sublist.refl _ | exact List.nil_sublist _ | refine List.Sublist.cons_cons _ ?_ | refine List.Sublist.cons _ ?_)), ?_⟩
  refine c_run rfl (w_g rfl rfl rfl rfl) rfl (fun W H => d_eqarr rfl rfl rfl tu43 tu5 ts5 Tx.len_dig (Old.Bl.len_tagged _ _) (by kernel_rfl)) ?_
  refine c_run rfl (w_none rfl) rfl (fun W H => d_pickT rfl rfl rfl) ?_
  refine c_run rfl (w_none rfl) rfl (fun W H => as_b rfl rfl) ?_
  refine c_nil ?_
  refine k_ret ?_
  repeat (first | refine r_then ?_ | refine r_blk ?_)
  exact q_ret (v := .bool _) rfl rfl ⟨_, rfl, vb (by rw [Sm.dig]; simp), H.under⟩

end Go.Proofs.YtdalmmkjmfpffaaGreatDoor

namespace Go.Proofs.YtdalmmkjmfpffaaGreatDoor
open Go Go.RowKit Go.WideShapes Go.ChangeShapes Go.Deep

/-- What is read of data within a process's reach is so. -/
def Sizes (P : Program) (t : TypeId) {α : Type} (R : Rep α) (Z : α → Prop) : Prop := ∀ (H : Type) (enc : TypeId × Value → H) (W : World) (sp : Nat → Bool) (hd : Bool) (fuel : Nat) (cs : List Value) (x : DataW H × List MemPlace) (S : Nat → Prop) (a : α), DataW.trod enc P W 0 sp hd fuel t cs = some x → R W S cs a → (∀ n ∈ x.1.weights P t, n ≤ reachBytes) → Z a
section
variable {P : Program} {t e : TypeId}
end
end Go.Proofs.YtdalmmkjmfpffaaGreatDoor

namespace Go.Proofs.YtdalmmkjmfpffaaGreatDoor
open Go Go.RowKit Go.WideShapes Go.ChangeShapes Go.Deep

end Go.Proofs.YtdalmmkjmfpffaaGreatDoor

namespace Go.Proofs.YtdalmmkjmfpffaaGreatDoor
open Go Go.RowKit

theorem of_isT {P : Program} {f : FuncId} {l : List Value} {w : World} (h : Calls P f l.toArray w (Ret (Is w (.bool true)))) : Calls P f l.toArray w (fun e w' => e = .returned (.bool true) ∧ Below w.heap.size w w') :=
  Calls.mono h (fun e w' h => by
    obtain ⟨v, rfl, rfl, hb⟩ := h
    exact ⟨rfl, hb⟩)
theorem bs_of {S : Nat → Prop} {v : Value} {b : List UInt8} {w : World} (h : RB w S [v] b) : Bs w S v b := by
  obtain ⟨u, h1, h2⟩ := h
  cases h1
  exact h2
end Go.Proofs.YtdalmmkjmfpffaaGreatDoor
