/- Texts of this claim, laid together: K43. -/
import Derived.Test.YtobcihaameofhaaDoorMY
import Derived.Test.YtobcihaameofhaaDoorMO
set_option linter.unusedVariables false
set_option linter.unusedSimpArgs false

namespace Go.Proofs.YtobcihaameofhaaDoor
open Go Go.RowKit
attribute [local irreducible] wpList

theorem St.gl {w W : World} {L : List Fact} (H : St nT w W L) (h : Old.Gl w) : Old.Gl W := h.below H.under (Nat.le_refl _)
/-- The digest under a tag, the program's. -/
theorem taggedB {S : Nat → Prop} {v : Value} {b : List UInt8} {s : ByteArray} (w : World) (hG : Old.Gl w) (hb : Bs w S v b) (hs : s.size ≤ 1000000000) (hbl : b.length ≤ 1000000000) : Calls Tryd.prog 19 [.string s, v].toArray w (Ret (Is w (.agg ((Old.Bl.tagged s.data.toList b).map u8v).toArray))) :=
  Calls.mono (Old.tagged_any s v b w hb hs hbl hG) (fun e w' h => by
    obtain ⟨h1, h2⟩ := h
    exact ⟨_, h1, rfl, h2⟩)
namespace Tx
/-- The digest of the bare bytes, under a tag. -/
def dig (s : ByteArray) (t : DTx) : List UInt8 := if chk t = 0 then Old.Bl.tagged s.data.toList (bareB t) else List.replicate 32 0
theorem len_dig {s : ByteArray} {t : DTx} : (dig s t).length = 32 := by
  unfold dig
  split
  · exact Old.Bl.len_tagged _ _
  · exact List.length_replicate
def tTx : ByteArray := ⟨#[116, 120]⟩
def tSign : ByteArray := ⟨#[115, 105, 103, 110]⟩
end Tx

namespace Tx
theorem len_bare {t : DTx} (ht : Ok t) : (bare t).length ≤ 2547 := by
  unfold bare
  split
  · rename_i h; exact len_bareB h ht
  · simp
theorem len_put {t : DTx} (ht : Ok t) : (put t).length ≤ 11963 := by
  unfold put
  split
  · rename_i h; exact len_putB h ht
  · simp
end Tx

set_option maxHeartbeats 4000000 in
theorem taggedT {S : Nat → Prop} {cs : List Value} {t : DTx} {s : ByteArray} (w : World) (ht : RTx w S cs t) (hG : Gat w 0 formsC) (hB : Old.Gl w) (hs : s.size ≤ 1000) : Calls Tryd.prog 36 [.string s, .agg cs.toArray].toArray w (Ret (Is w (.agg ((Tx.dig s t).map u8v).toArray))) := by
  obtain ⟨A, c, B, d, rfl, hI, hO, hk⟩ := tx_of ht
  have hok := tx_ok ht
  refine k_enter (l := [_, _]) Tryd.func36 rfl rfl ?_
  have H := St.start nT w
  refine k_seq ?_
  refine k_region ?_
  refine s_eff (e_box (vs := (txC A t.ins.length c B t.outs.length d t.lock)) (w_none rfl) rfl rfl rfl rfl H ?_)
  clear H; intro gm W H
  refine s_eff (e_alloc (w_none rfl) rfl rfl (List.replicate 32 (u8v 0)) tz23 H ?_)
  clear H; intro go W H
  refine l_nil ?_
  refine k_seq ?_
  refine k_seq ?_
  refine k_region ?_
  refine s_run (w_none rfl) rfl (d_ldXM (g := gm) (off := 0) rfl H (sub_all (a := txC A t.ins.length c B t.outs.length d t.lock) (m := 3) rfl) rfl rfl rfl rfl ta44 ts44) ?_
  refine s_eff (e_call (w_none rfl) rfl rfl Tryd.func47 rfl rfl rfl (bareTP _ (keeps_Tx _ _ _ _ _ ht (fun g hg _ => H.fr.block g hg (fun h => h))) (H.gat hG)) ?_)
  rintro _ W ⟨_, rfl, A1, c1, rfl, hc1, hd1, hn⟩
  replace H := H.new hn
  clear hn
  refine s_run (w_none rfl) rfl (mv_t rfl rfl) ?_
  refine s_run (w_none rfl) rfl (d_ext rfl rfl rfl) ?_
  refine s_run (w_none rfl) rfl (d_ext rfl rfl rfl) ?_
  refine s_run (w_none rfl) rfl (as_s rfl rfl) ?_
  refine s_run (w_none rfl) rfl (as_i rfl rfl) ?_
  refine l_nil ?_
  refine k_seq ?_
  refine k_region ?_
  refine s_run (w_none rfl) rfl (mv_i rfl rfl) ?_
  refine s_run (w_none rfl) rfl (d_eq rfl rfl rfl) ?_
  refine l_nil ?_
  refine k_cond rfl (fun hc13 => ?_) (fun hc13 => ?_)
  · have hne : Tx.chk t = 0 := by simpa using hc13
    have e1 : Tx.dig s t = Old.Bl.tagged s.data.toList (Tx.bare t) := by unfold Tx.dig Tx.bare; rw [if_pos hne, if_pos hne]
    have hlb := Tx.len_bare hok
    refine k_seq ?_
    refine k_region ?_
    refine s_run (w_none rfl) rfl (mv_str rfl rfl) ?_
    refine s_run (w_none rfl) rfl (mv_s rfl rfl) ?_
    refine s_eff (e_call (w_none rfl) rfl rfl Tryd.func19 rfl rfl rfl (taggedB _ (H.gl hB) (H.rowbs (A := A1) (l := Tx.bare t) rfl) (by omega) (by omega)) ?_)
    rintro _ W ⟨rfl, hb⟩
    replace H := H.below hb
    clear hb
    refine s_eff (e_stoK ((Old.Bl.tagged s.data.toList (Tx.bare t)).map u8v) (w_none rfl) rfl rfl rfl rfl rfl ts23 (by rw [List.length_map]; exact Old.Bl.len_tagged _ _) (all_u8L _) H (by decide) (spl_all (by rw [List.length_map, List.length_replicate]; exact Old.Bl.len_tagged _ _)) ?_)
    clear H; intro W H
    refine l_nil ?_
    refine k_ret ?_
    repeat (first | refine r_then ?_ | refine r_blk ?_)
    rw [e1]
    exact q_retc rfl (c := (Old.Bl.tagged s.data.toList (Tx.bare t)).map u8v) (g := go) H rfl ta23 (by rw [List.length_map, Old.Bl.len_tagged]; exact ts23) ⟨_, rfl, rfl, H.under⟩
  · have hne : ¬ Tx.chk t = 0 := by simpa using hc13
    have e1 : Tx.dig s t = List.replicate 32 0 := by unfold Tx.dig; rw [if_neg hne]
    refine k_skip ?_
    refine k_seq ?_
    refine k_region ?_
    refine s_run (w_none rfl) rfl (d_build (vs := (List.replicate 32 (0 : UInt8)).map u8v) rfl (by kernel_rfl)) ?_
    refine s_eff (e_stoK ((List.replicate 32 (0 : UInt8)).map u8v) (w_none rfl) rfl rfl rfl rfl rfl ts23 (by simp) (all_u8L _) H (by decide) (spl_all (by simp)) ?_)
    clear H; intro W H
    refine l_nil ?_
    refine k_ret ?_
    repeat (first | refine r_then ?_ | refine r_blk ?_)
    rw [e1]
    exact q_retc rfl (c := (List.replicate 32 (0 : UInt8)).map u8v) (g := go) H rfl ta23 ts23 ⟨_, rfl, rfl, H.under⟩

set_option maxHeartbeats 4000000 in
theorem idTP {S : Nat → Prop} {cs : List Value} {t : DTx} (w : World) (ht : RTx w S cs t) (hG : Gat w 0 formsC) (hB : Old.Gl w) : Calls Tryd.prog 14 [.agg cs.toArray].toArray w (Ret (Is w (.agg ((Tx.dig Tx.tTx t).map u8v).toArray))) := by
  obtain ⟨A, c, B, d, rfl, hI, hO, hk⟩ := tx_of ht
  have hok := tx_ok ht
  refine k_enter (l := [_]) Tryd.func14 rfl rfl ?_
  have H := St.start nT w
  refine k_seq ?_
  refine k_region ?_
  refine s_eff (e_box (vs := (txC A t.ins.length c B t.outs.length d t.lock)) (w_none rfl) rfl rfl rfl rfl H ?_)
  clear H; intro gm W H
  refine s_eff (e_alloc (w_none rfl) rfl rfl (List.replicate 32 (u8v 0)) tz23 H ?_)
  clear H; intro go W H
  refine l_nil ?_
  refine k_seq ?_
  refine k_region ?_
  refine s_run (w_none rfl) rfl (d_ldXM (g := gm) (off := 0) rfl H (sub_all (a := txC A t.ins.length c B t.outs.length d t.lock) (m := 3) rfl) rfl rfl rfl rfl ta44 ts44) ?_
  refine s_eff (e_call (w_none rfl) rfl rfl Tryd.func36 rfl rfl rfl (taggedT (s := Tx.tTx) _ (keeps_Tx _ _ _ _ _ ht (fun g hg _ => H.fr.block g hg (fun h => h))) (H.gat hG) (H.gl hB) (by decide)) ?_)
  rintro _ W ⟨rfl, hb⟩
  replace H := H.below hb
  clear hb
  refine s_eff (e_stoK ((Tx.dig Tx.tTx t).map u8v) (w_none rfl) rfl rfl rfl rfl rfl ts23 (by rw [List.length_map]; exact Tx.len_dig) (all_u8L _) H (by decide) (spl_all (by rw [List.length_map, List.length_replicate]; exact Tx.len_dig)) ?_)
  clear H; intro W H
  refine l_nil ?_
  refine k_ret ?_
  repeat (first | refine r_then ?_ | refine r_blk ?_)
  exact q_retc rfl (c := (Tx.dig Tx.tTx t).map u8v) (g := go) H rfl ta23 (by rw [List.length_map, Tx.len_dig]; exact ts23) ⟨_, rfl, rfl, H.under⟩

end Go.Proofs.YtobcihaameofhaaDoor
