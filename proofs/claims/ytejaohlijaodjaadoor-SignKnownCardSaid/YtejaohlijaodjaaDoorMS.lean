/- Texts of this claim, laid together: K20, K21, F5. -/
import Derived.Test.YtejaohlijaodjaaDoorMB
import Derived.Test.YtejaohlijaodjaaDoorMV
import Derived.Test.YtejaohlijaodjaaDoorMO
import Derived.Laws.BitsAllLaws
set_option linter.unusedVariables false
set_option linter.unusedSimpArgs false

namespace Go.Proofs.YtejaohlijaodjaaDoor
open Go Go.RowKit
attribute [local irreducible] wpList

theorem St.gl {w W : World} {L : List Fact} (H : St nT w W L) (h : Old.Gl w) : Old.Gl W := h.below H.under (Nat.le_refl _)
/-- The digest under a key, the program's. -/
theorem keyedP {S S' : Nat → Prop} {kv bv : Value} {key b : List UInt8} (w : World) (hG : Old.Gl w) (hk : Bs w S kv key) (hb : Bs w S' bv b) (hkl : key.length ≤ 1000000000000) (hbl : b.length ≤ 1000000000000) : Calls Tryd.prog 89 [kv, bv].toArray w (Ret (Is w (.agg ((Old.Bl.keyed key b).map u8v).toArray))) :=
  Calls.mono (Old.keyed_any kv bv key b w hk hb hkl hbl hG) (fun e w' h => by
    obtain ⟨h1, h2⟩ := h
    exact ⟨_, h1, rfl, h2⟩)
/-- .. the reference's. -/
theorem keyedR {S S' : Nat → Prop} {kv bv : Value} {key b : List UInt8} (w : World) (hk : Bs w S kv key) (hb : Bs w S' bv b) (hkl : key.length ≤ 1000000000000) (hbl : b.length ≤ 1000000000000) : Calls Tryd.prog 91 [kv, bv].toArray w (Ret (Is w (.agg ((Old.Bl.keyed key b).map u8v).toArray))) :=
  Calls.mono (Old.keyed_ref kv bv key b w hk hb hkl hbl) (fun e w' h => by
    obtain ⟨h1, h2⟩ := h
    exact ⟨_, h1, rfl, h2⟩)
namespace Sg
def k (seed : List UInt8) (i : Nat) : List UInt8 := Old.Bl.keyed seed (Pk.int (i + 1))
theorem len_k {seed : List UInt8} {i : Nat} : (k seed i).length = 32 := Old.Bl.len_keyed _ _
def cells (seed : List UInt8) (m : Nat) : List (List Value) := (List.range m).map fun i => (k seed i).map u8v
def keysN (seed : List UInt8) (m : Nat) : List Value := (cells seed m).flatten ++ List.replicate ((32 - m) * 32) (u8v 0)
theorem all_cells {seed : List UInt8} {m : Nat} : ∀ c ∈ cells seed m, c.length = 32 := fun c hc => by
  obtain ⟨i, _, rfl⟩ := List.mem_map.1 hc
  rw [List.length_map, len_k]
theorem len_cells {seed : List UInt8} {m : Nat} : (cells seed m).flatten.length = m * 32 := by rw [len_flat _ all_cells]; simp [cells]
theorem len_keysN {seed : List UInt8} {m : Nat} (h : m ≤ 32) : (keysN seed m).length = 1024 := by
  unfold keysN
  rw [List.length_append, len_cells, List.length_replicate]; omega
theorem keysN_step {seed : List UInt8} {m : Nat} (h : m < 32) : spl (keysN seed m) (m * 32) ((k seed m).map u8v) = keysN seed (m + 1) := by
  have hl := len_keysN (seed := seed) (m := m) (by omega)
  rw [spl_len _ _ _ (by rw [hl, List.length_map, len_k]; omega), List.length_map, len_k]
  unfold keysN
  have e1 : ((cells seed m).flatten ++ List.replicate ((32 - m) * 32) (u8v 0)).take (m * 32) = (cells seed m).flatten := by
    rw [← len_cells (seed := seed) (m := m), List.take_left]
  have e2 : ((cells seed m).flatten ++ List.replicate ((32 - m) * 32) (u8v 0)).drop (m * 32 + 32) = List.replicate ((32 - (m + 1)) * 32) (u8v 0) := by
    rw [List.drop_append, List.drop_eq_nil_of_le (by rw [len_cells]; omega), len_cells, List.nil_append, List.drop_replicate]
    congr 1
    omega
  have e3 : (cells seed (m + 1)).flatten = (cells seed m).flatten ++ (k seed m).map u8v := by
    unfold cells
    rw [List.range_succ, List.map_append, List.flatten_append]
    simp
  rw [e1, e2, e3]
theorem keys_at {seed : List UInt8} {i : Nat} (h : i < 32) : sub (keysN seed 32) (i * 32) 32 = (k seed i).map u8v := by
  unfold keysN
  rw [Nat.sub_self, Nat.zero_mul, List.replicate_zero, List.append_nil]
  refine sub_flat _ i _ all_cells ?_
  unfold cells
  rw [List.getElem?_map, List.getElem?_range h]
  rfl
def inB (o : Int) : Bool := decide (1 ≤ o) && decide (o ≤ 32)
def key (seed : List UInt8) (o : Int) : List UInt8 := bif inB o then Old.Bl.keyed seed (Pk.int o.toNat) else List.replicate 32 0
def sign (seed : List UInt8) (o : Int) (h : List UInt8) : List UInt8 := bif inB o then (Old.Bl.keyed (key seed o) h).take 16 else List.replicate 16 0
def verify (seed : List UInt8) (o : Int) (h t : List UInt8) : Bool := inB o && (sign seed o h == t)
theorem len_key {seed : List UInt8} {o : Int} : (key seed o).length = 32 := by
  unfold key
  cases inB o
  · simp
  · exact Old.Bl.len_keyed _ _
theorem len_sign {seed h : List UInt8} {o : Int} : (sign seed o h).length = 16 := by
  unfold sign
  cases inB o
  · simp
  · simp [Old.Bl.len_keyed]
theorem in_of {o : Int} (h : inB o = true) : ∃ i : Nat, i < 32 ∧ o = (i : Int) + 1 := by
  unfold inB at h
  simp at h
  exact ⟨(o - 1).toNat, by omega, by omega⟩
theorem key_in {seed : List UInt8} {i : Nat} (h : i < 32) : inB ((i : Int) + 1) = true ∧ key seed ((i : Int) + 1) = k seed i := by
  have hb : inB ((i : Int) + 1) = true := by unfold inB; simp; omega
  refine ⟨hb, ?_⟩
  unfold key k
  rw [hb, show ((i : Int) + 1).toNat = i + 1 by omega]
  rfl
theorem out_of {o : Int} (h : inB o = false) : ¬ (1 ≤ o ∧ o ≤ 32) := by
  unfold inB at h
  simp at h
  omega
end Sg
theorem sub_u8 {l : List UInt8} {k : Nat} (h : k < l.length) : sub (l.map u8v) k 1 = [u8v (l.getD k 0)] := by
  unfold sub
  rw [← List.map_drop, List.drop_eq_getElem_cons h, List.map_cons, List.take_succ_cons, List.take_zero, List.getD_eq_getElem?_getD, List.getElem?_eq_getElem h]
  rfl
theorem take_getD {l : List UInt8} {k m : Nat} (h : k < l.length) (hm : k < m) : (l.take m).getD k 0 = l.getD k 0 := by
  rw [List.getD_eq_getElem?_getD, List.getElem?_take_of_lt hm, List.getD_eq_getElem?_getD]
theorem toU_succ {k : Nat} (h : k < 1000) : Pk.toU ((k : Int) + 1) = k + 1 := by rw [Pk.toU_pos _ (by omega) (by omega)]; omega

set_option maxHeartbeats 4000000 in
theorem signNew {S : Nat → Prop} {v : Value} {seed : List UInt8} (w : World) (hG : Gat w 0 formsC) (hL : Old.Gl w) (hs : Bs w S v seed) (hl : seed.length ≤ 100000000) : Calls Tryd.prog 51 [v].toArray w (Ret (fun v' w' => ∃ gn, v' = .pointer (some ⟨gn, 0, none⟩) ∧ New w w' (Fact.blk gn (Sg.keysN seed 32) 109))) := by
  have hs0 := hs
  obtain ⟨A, c, rfl, _, _, _⟩ := hs.op
  refine k_enter (l := [_]) Tryd.func51 rfl rfl ?_
  have H := St.start nT w
  refine k_seq ?_
  refine k_region ?_
  refine s_run (w_none rfl) rfl (as_p rfl rfl) ?_
  refine l_nil ?_
  refine k_seq ?_
  refine k_region ?_
  refine s_eff (e_alloc (w_none rfl) rfl rfl (List.replicate 1024 (u8v 0)) (by kernel_rfl) H ?_)
  clear H; intro g3 W H
  refine l_nil ?_
  refine k_seq ?_
  refine k_seq ?_
  refine k_region ?_
  refine s_run (w_none rfl) rfl (mv_i rfl rfl) ?_
  refine l_nil ?_
  refine k_block ?_
  refine k_loop 4 [] (fun mm sl W => ∃ k : Nat, 32 - k = mm ∧ sl = [(5, .int .i64 (k : Int))] ∧ (k ≤ 32) ∧ St nT w W [Fact.blk g3 (Sg.keysN seed k) 109]) _ _ ⟨0, rfl, rfl, Nat.zero_le _, H⟩ ⟨rfl, trivial⟩ (fun mm sl ρv W hJ => ?_)
  clear H; obtain ⟨k, rfl, rfl, hk, H⟩ := hJ
  refine k_one ?_
  refine k_seq ?_
  refine k_region ?_
  refine s_run (w_none rfl) rfl (d_lt rfl rfl rfl) ?_
  refine l_nil ?_
  refine k_seq ?_
  refine k_cond rfl (fun hc6 => ?_) (fun hc6 => ?_)
  · first | (replace hc6 := of_decide_eq_true hc6) | simp at hc6
    refine k_skip ?_
    refine k_seq ?_
    refine k_block ?_
    refine k_seq ?_
    refine k_region ?_
    refine s_run (w_none rfl) rfl (mv_i rfl rfl) ?_
    refine s_run (w_none rfl) rfl (as_i rfl rfl) ?_
    refine l_nil ?_
    refine k_region ?_
    refine s_run (w_none rfl) rfl (mv_i rfl rfl) ?_
    refine s_run (w_none rfl) rfl (mv_s rfl rfl) ?_
    refine s_run (w_none rfl) rfl (mv_i rfl rfl) ?_
    refine s_run (w_none rfl) rfl (d_add rfl rfl rfl (by omega)) ?_
    have hil := Pk.len_int (k + 1)
    refine s_eff (e_call (w_none rfl) rfl rfl Tryd.func18 rfl rfl rfl (packInt (S := (0 ≤ ·)) (b := []) ((k : Int) + 1) _ (H.gat hG) Bs.nil (by omega) (by simp)) ?_)
    rintro _ W ⟨A1, c1, rfl, hc1, hd1, hn⟩
    replace H := H.new hn
    clear hn
    rw [List.nil_append, toU_succ (by omega)] at hc1 H ⊢
    refine s_eff (e_call (w_none rfl) rfl rfl Tryd.func89 rfl rfl rfl (keyedP _ (H.gl hL) (H.bs hs0) (H.rowbs (A := A1) rfl) (by omega) (by omega)) ?_)
    rintro _ W ⟨rfl, hb⟩
    replace H := H.below hb
    clear hb
    rw [show Old.Bl.keyed seed (Pk.int (k + 1)) = Sg.k seed k from rfl]
    refine s_run (w_none rfl) rfl (d_fa rfl rfl tf109_0) ?_
    refine s_run (w_none rfl) rfl (d_iaA rfl rfl rfl (q := k) rfl tu107 (by omega) ts36) ?_
    refine s_eff (e_stoK (Sg.keysN seed (k + 1)) (w_none rfl) rfl rfl rfl rfl rfl ts36 (by rw [List.length_map, Sg.len_k]) (all_u8L _) H (by rw [Sg.len_keysN hk]; omega) (by rw [show 0 + 0 + k * 32 = k * 32 by omega]; exact Sg.keysN_step (by omega)) ?_)
    clear H; intro W H
    refine l_nil ?_
    refine k_nil ?_
    refine b_end ?_
    refine k_region ?_
    refine s_run (w_none rfl) rfl (d_add rfl rfl rfl (by omega)) ?_
    refine s_run (w_none rfl) rfl (mv_i rfl rfl) ?_
    refine l_nil ?_
    refine k_nil ?_
    refine k_next ?_
    refine ⟨_, _, _, ?_, rfl, ?_, ?_, ⟨k + 1, rfl, rfl, by omega, H.sub (by repeat (first | exact List.Sublist.refl _ | exact List.nil_sublist _ | refine List.Sublist.cons_cons _ ?_ | refine List.Sublist.cons _ ?_))⟩⟩
    · omega
    · repeat (first | ((with_reducible refine Eqo.updl _ Eqo.ovr ?_); exact rfl) | ((with_reducible refine Eqo.updl _ (Eqo.ovr2 ?_ ?_) ?_); rotate_left; exact rfl; exact rfl) | ((with_reducible refine Eqo.upd ?_ ?_); rotate_left; exact rfl))
    · refine ⟨?_, trivial⟩
      · exact vi (by omega)
  · first | (replace hc6 := of_decide_eq_false hc6) | simp at hc6
    refine k_exit ?_
    refine x_then (x_then ?_)
    refine x_hit ?_
    refine k_seq ?_
    obtain rfl : k = 32 := by omega
    refine k_region ?_
    refine s_run (w_none rfl) rfl (as_p rfl rfl) ?_
    refine l_nil ?_
    refine k_ret ?_
    repeat (first | refine r_then ?_ | refine r_blk ?_)
    exact q_ret (v := .pointer _) rfl rfl ⟨_, rfl, g3, rfl, H.give⟩

theorem keyIn {gn i : Nat} {o : Int} (w : World) (hi : i < 32) (ho : o = (i : Int) + 1) : Calls Tryd.prog 92 [.pointer (some ⟨gn, 0, none⟩), .int .i64 o].toArray w (Ret (Is w (.pointer (some ⟨gn, i * 32, none⟩)))) := by
  subst ho
  refine k_enter (l := [_, _]) Tryd.func92 rfl rfl ?_
  have H := St.start nT w
  refine k_seq ?_
  refine k_region ?_
  refine s_run (w_none rfl) rfl (as_p rfl rfl) ?_
  refine l_nil ?_
  refine k_seq ?_
  refine k_seq ?_
  refine k_region ?_
  refine s_run (w_none rfl) rfl (mv_i rfl rfl) ?_
  refine s_run (w_none rfl) rfl (d_lt rfl rfl rfl) ?_
  refine s_run (w_none rfl) rfl (mv_bx (c := false) rfl rfl (by simp; omega)) ?_
  refine s_run (w_g rfl rfl rfl rfl) rfl (mv_i rfl rfl) ?_
  refine s_run (w_g rfl rfl rfl rfl) rfl (d_gt rfl rfl rfl) ?_
  refine s_run (w_none rfl) rfl (d_pickF rfl rfl rfl) ?_
  refine l_nil ?_
  refine k_condF rfl (by simp; omega) ?_
  refine k_skip ?_
  refine k_seq ?_
  refine k_region ?_
  refine s_run (w_none rfl) rfl (mv_p rfl rfl) ?_
  refine s_run (w_none rfl) rfl (mv_i rfl rfl) ?_
  refine s_run (w_none rfl) rfl (d_sub rfl rfl rfl (by omega)) ?_
  refine s_run (w_none rfl) rfl (d_nil rfl rfl) ?_
  refine s_run (w_none rfl) rfl (d_fa rfl rfl tf109_0) ?_
  refine s_run (w_none rfl) rfl (d_iaA rfl rfl rfl (q := i) (by omega) tu107 (by omega) ts36) ?_
  refine s_run (w_none rfl) rfl (as_p rfl rfl) ?_
  refine l_nil ?_
  refine k_ret ?_
  repeat (first | refine r_then ?_ | refine r_blk ?_)
  exact q_ret (v := .pointer (some ⟨gn, 0 + 0 + i * 32, none⟩)) rfl rfl ⟨.pointer (some ⟨gn, 0 + 0 + i * 32, none⟩), rfl, by rw [Nat.add_zero, Nat.zero_add], H.under⟩

theorem keyOut {gn : Nat} {o : Int} (w : World) (ho : Sg.inB o = false) : Calls Tryd.prog 92 [.pointer (some ⟨gn, 0, none⟩), .int .i64 o].toArray w (Ret (Is w (.pointer none))) := by
  have h0 := Sg.out_of ho
  refine k_enter (l := [_, _]) Tryd.func92 rfl rfl ?_
  have H := St.start nT w
  refine k_seq ?_
  refine k_region ?_
  refine s_run (w_none rfl) rfl (as_p rfl rfl) ?_
  refine l_nil ?_
  refine k_seq ?_
  refine k_seq ?_
  rcases Int.lt_or_le o 1 with h1 | h1
  · skip
    refine k_region ?_
    refine s_run (w_none rfl) rfl (mv_i rfl rfl) ?_
    refine s_run (w_none rfl) rfl (d_lt rfl rfl rfl) ?_
    refine s_run (w_none rfl) rfl (mv_bx (c := true) rfl rfl (by simp; omega)) ?_
    refine s_skip (w_gno rfl rfl rfl rfl rfl) rfl ?_
    refine s_skip (w_gno rfl rfl rfl rfl rfl) rfl ?_
    refine s_run (w_none rfl) rfl (d_pickT rfl rfl rfl) ?_
    refine l_nil ?_
    refine k_condT rfl (by first | rfl | (simp; omega)) ?_
    refine k_seq ?_
    refine k_region ?_
    refine s_run (w_none rfl) rfl (as_p rfl rfl) ?_
    refine l_nil ?_
    refine k_ret ?_
    repeat (first | refine r_then ?_ | refine r_blk ?_)
    exact q_ret (v := .pointer _) rfl rfl ⟨_, rfl, rfl, H.under⟩
  · skip
    refine k_region ?_
    refine s_run (w_none rfl) rfl (mv_i rfl rfl) ?_
    refine s_run (w_none rfl) rfl (d_lt rfl rfl rfl) ?_
    refine s_run (w_none rfl) rfl (mv_bx (c := false) rfl rfl (by simp; omega)) ?_
    refine s_run (w_g rfl rfl rfl rfl) rfl (mv_i rfl rfl) ?_
    refine s_run (w_g rfl rfl rfl rfl) rfl (d_gt rfl rfl rfl) ?_
    refine s_run (w_none rfl) rfl (d_pickF rfl rfl rfl) ?_
    refine l_nil ?_
    refine k_condT rfl (by first | rfl | (simp; omega)) ?_
    refine k_seq ?_
    refine k_region ?_
    refine s_run (w_none rfl) rfl (as_p rfl rfl) ?_
    refine l_nil ?_
    refine k_ret ?_
    repeat (first | refine r_then ?_ | refine r_blk ?_)
    exact q_ret (v := .pointer _) rfl rfl ⟨_, rfl, rfl, H.under⟩

theorem keyPI {gn i : Nat} {o : Int} {seed : List UInt8} (w : World) (hn : Gat w gn (Sg.keysN seed 32)) (hi : i < 32) (ho : o = (i : Int) + 1) : Calls Tryd.prog 54 [.pointer (some ⟨gn, 0, none⟩), .int .i64 o].toArray w (Ret (Is w (.agg ((Sg.key seed o).map u8v).toArray))) := by
  subst ho
  rw [(Sg.key_in hi).2]
  refine k_enter (l := [_, _]) Tryd.func54 rfl rfl ?_
  have H := St.start nT w
  refine k_seq ?_
  refine k_region ?_
  refine s_eff (e_alloc (w_none rfl) rfl rfl (List.replicate 32 (u8v 0)) (by kernel_rfl) H ?_)
  clear H; intro g4 W H
  refine l_nil ?_
  refine k_seq ?_
  refine k_seq ?_
  refine k_region ?_
  refine s_run (w_none rfl) rfl (mv_p rfl rfl) ?_
  refine s_run (w_none rfl) rfl (mv_i rfl rfl) ?_
  refine s_eff (e_call (w_none rfl) rfl rfl Tryd.func92 rfl rfl rfl (keyIn _ hi rfl) ?_)
  rintro _ W ⟨rfl, hb⟩
  replace H := H.below hb
  clear hb
  refine s_run (w_none rfl) rfl (as_p rfl rfl) ?_
  refine l_nil ?_
  refine k_seq ?_
  refine k_region ?_
  refine s_run (w_none rfl) rfl (mv_p rfl rfl) ?_
  refine s_run (w_none rfl) rfl (d_nepn rfl rfl rfl (by kernel_rfl)) ?_
  refine l_nil ?_
  refine k_condT rfl rfl ?_
  refine k_region ?_
  refine s_run (w_none rfl) rfl (mv_p rfl rfl) ?_
  refine s_run (w_none rfl) rfl (d_nil rfl rfl) ?_
  refine s_run (w_none rfl) rfl (d_ldGM (off := i * 32) rfl (H.gat hn) (Sg.keys_at hi) (by rw [List.length_map, Sg.len_k]) rfl rfl rfl ta36 ts36) ?_
  refine s_eff (e_stoK ((Sg.k seed i).map u8v) (w_none rfl) rfl rfl rfl rfl rfl ts36 (by rw [List.length_map, Sg.len_k]) (all_u8L _) H (by simp) (spl_all (by simp [Sg.len_k])) ?_)
  clear H; intro W H
  refine l_nil ?_
  refine k_seq ?_
  refine k_region ?_
  refine s_run (w_none rfl) rfl (d_ldm0 rfl H rfl ta36 ts36 (by rw [List.length_map, Sg.len_k])) ?_
  refine s_eff (e_stoK ((Sg.k seed i).map u8v) (w_none rfl) rfl rfl rfl rfl rfl ts36 (by rw [List.length_map, Sg.len_k]) (all_u8L _) H (by simp [Sg.len_k]) (spl_all rfl) ?_)
  clear H; intro W H
  refine l_nil ?_
  refine k_ret ?_
  repeat (first | refine r_then ?_ | refine r_blk ?_)
  exact q_retc (g := g4) (t' := 36) rfl H rfl ta36 (by rw [List.length_map, Sg.len_k]; exact ts36) ⟨_, rfl, rfl, H.under⟩

theorem keyPO {gn : Nat} {o : Int} {seed : List UInt8} (w : World) (ho : Sg.inB o = false) : Calls Tryd.prog 54 [.pointer (some ⟨gn, 0, none⟩), .int .i64 o].toArray w (Ret (Is w (.agg ((Sg.key seed o).map u8v).toArray))) := by
  have hzz : Sg.key seed o = List.replicate 32 0 := by unfold Sg.key; rw [ho]; rfl
  rw [hzz]
  refine k_enter (l := [_, _]) Tryd.func54 rfl rfl ?_
  have H := St.start nT w
  refine k_seq ?_
  refine k_region ?_
  refine s_eff (e_alloc (w_none rfl) rfl rfl ((List.replicate 32 (0 : UInt8)).map u8v) (by kernel_rfl) H ?_)
  clear H; intro g4 W H
  refine l_nil ?_
  refine k_seq ?_
  refine k_seq ?_
  refine k_region ?_
  refine s_run (w_none rfl) rfl (mv_p rfl rfl) ?_
  refine s_run (w_none rfl) rfl (mv_i rfl rfl) ?_
  refine s_eff (e_call (w_none rfl) rfl rfl Tryd.func92 rfl rfl rfl (keyOut _ ho) ?_)
  rintro _ W ⟨rfl, hb⟩
  replace H := H.below hb
  clear hb
  refine s_run (w_none rfl) rfl (as_p rfl rfl) ?_
  refine l_nil ?_
  refine k_seq ?_
  refine k_region ?_
  refine s_run (w_none rfl) rfl (mv_p rfl rfl) ?_
  refine s_run (w_none rfl) rfl (d_nepn rfl rfl rfl (by kernel_rfl)) ?_
  refine l_nil ?_
  refine k_condF rfl rfl ?_
  refine k_skip ?_
  refine k_seq ?_
  refine k_region ?_
  refine s_run (w_none rfl) rfl (d_ldm0 rfl H rfl ta36 ts36 (by rw [List.length_map, List.length_replicate])) ?_
  refine s_eff (e_stoK (((List.replicate 32 (0 : UInt8)).map u8v)) (w_none rfl) rfl rfl rfl rfl rfl ts36 (by rw [List.length_map, List.length_replicate]) (all_u8L _) H (by simp) (spl_all rfl) ?_)
  clear H; intro W H
  refine l_nil ?_
  refine k_ret ?_
  repeat (first | refine r_then ?_ | refine r_blk ?_)
  exact q_retc (g := g4) (t' := 36) rfl H rfl ta36 (by rw [List.length_map, List.length_replicate]; exact ts36) ⟨_, rfl, rfl, H.under⟩

theorem keyP {gn : Nat} {o : Int} {seed : List UInt8} (w : World) (hn : Gat w gn (Sg.keysN seed 32)) : Calls Tryd.prog 54 [.pointer (some ⟨gn, 0, none⟩), .int .i64 o].toArray w (Ret (Is w (.agg ((Sg.key seed o).map u8v).toArray))) := by
  cases h : Sg.inB o with
  | false => exact keyPO w h
  | true =>
    obtain ⟨i, hi, ho⟩ := Sg.in_of h
    exact keyPI w hn hi ho

set_option maxHeartbeats 4000000 in
theorem signPI {gn i : Nat} {o : Int} {seed h : List UInt8} (w : World) (hL : Old.Gl w) (hn : Gat w gn (Sg.keysN seed 32)) (hi : i < 32) (ho : o = (i : Int) + 1) (hh : h.length = 32) : Calls Tryd.prog 56 [.pointer (some ⟨gn, 0, none⟩), .int .i64 o, .agg (h.map u8v).toArray].toArray w (Ret (Is w (.agg ((Sg.sign seed o h).map u8v).toArray))) := by
  subst ho
  have hkk := Old.Bl.len_keyed (Sg.k seed i) h
  have hzz : Sg.sign seed ((i : Int) + 1) h = (Old.Bl.keyed (Sg.k seed i) h).take 16 := by unfold Sg.sign; rw [(Sg.key_in (seed := seed) hi).1, (Sg.key_in hi).2]; rfl
  rw [hzz]
  have h16 : ((Old.Bl.keyed (Sg.k seed i) h).take 16).length = 16 := by rw [List.length_take, hkk]; rfl
  refine k_enter (l := [_, _, _]) Tryd.func56 rfl rfl ?_
  have H := St.start nT w
  refine k_seq ?_
  refine k_region ?_
  refine s_eff (e_box (vs := (h.map u8v)) (w_none rfl) rfl rfl rfl rfl H ?_)
  clear H; intro g5 W H
  refine s_eff (e_alloc (w_none rfl) rfl rfl ((List.replicate 16 (0 : UInt8)).map u8v) (by kernel_rfl) H ?_)
  clear H; intro g6 W H
  refine l_nil ?_
  refine k_seq ?_
  refine k_seq ?_
  refine k_region ?_
  refine s_run (w_none rfl) rfl (mv_p rfl rfl) ?_
  refine s_run (w_none rfl) rfl (mv_i rfl rfl) ?_
  refine s_eff (e_call (w_none rfl) rfl rfl Tryd.func92 rfl rfl rfl (keyIn _ hi rfl) ?_)
  rintro _ W ⟨rfl, hb⟩
  replace H := H.below hb
  clear hb
  refine s_run (w_none rfl) rfl (as_p rfl rfl) ?_
  refine l_nil ?_
  refine k_seq ?_
  refine k_region ?_
  refine s_run (w_none rfl) rfl (mv_p rfl rfl) ?_
  refine s_run (w_none rfl) rfl (d_nepn rfl rfl rfl (by kernel_rfl)) ?_
  refine l_nil ?_
  refine k_condT rfl rfl ?_
  refine k_seq ?_
  refine k_cut 14 [8] (fun sl W => ∃ g8 : Nat, sl = [(8, .pointer (some ⟨g8, 0, none⟩))] ∧ St nT w W [Fact.blk g8 ((Old.Bl.keyed (Sg.k seed i) h).map u8v) 36, Fact.blk g6 ((List.replicate 16 (0 : UInt8)).map u8v) 38, Fact.blk g5 (h.map u8v) 36]) ?_ (fun sl ρv W hJ => ?_)
  · skip
    refine k_drawT (.rd 0 (.rd 1 (.rd 2 (.rd 3 (.many 2 [4, 5] fun j => (bif Nat.beq j 4 then (.ef 5 (.ef 6 .nil)) else (.ef 4 (.ef 6 .nil)))))))) _ (by kernel_rfl) (by kernel_rfl) H (.refl _) ?_
    clear H; intro W H
    refine t_run rfl (w_none rfl) rfl (fun W H => mv_p rfl rfl) ?_
    refine t_run rfl (w_none rfl) rfl (fun W H => d_nil rfl rfl) ?_
    refine t_run rfl (w_none rfl) rfl (fun W H => d_arrA rfl rfl tu36 ts5) ?_
    refine t_run rfl (w_none rfl) rfl (fun W H => d_arrA rfl rfl tu36 ts5) ?_
    refine t_each ?_ ?_
    · skip
      refine t_eff rfl (e_call (w_none rfl) rfl rfl Tryd.func89 rfl rfl rfl (keyedP _ (H.gl hL) (gat_bs (H.gat hn) (Sg.keys_at hi) Sg.len_k (by decide)) (gat_bs (gat_of (H.blk (g := g5))) (sub_all (by rw [List.length_map, hh])) hh (by decide)) (by rw [Sg.len_k]; decide) (by rw [hh]; decide)) ?_)
      rintro _ W ⟨rfl, hb⟩
      replace H := H.below hb
      clear hb
      refine ⟨_, fun _ h => h, H.sub (by repeat (first | exact List.Sublist.refl _ | exact List.nil_sublist _ | refine List.Sublist.cons_cons _ ?_ | refine List.Sublist.cons _ ?_)), ?_⟩
      refine t_eff rfl (e_alloc (w_none rfl) rfl rfl ((List.replicate 32 (0 : UInt8)).map u8v) (by kernel_rfl) H ?_)
      clear H; intro g8 W H
      refine ⟨_, fun _ h => h, H.sub (by repeat (first | exact List.Sublist.refl _ | exact List.nil_sublist _ | refine List.Sublist.cons_cons _ ?_ | refine List.Sublist.cons _ ?_)), ?_⟩
      refine t_eff rfl (e_stoK ((Old.Bl.keyed (Sg.k seed i) h).map u8v) (w_none rfl) rfl rfl rfl rfl rfl ts36 (by rw [List.length_map, hkk]) (all_u8L _) H (by simp) (spl_all (by simp [hkk])) ?_)
      clear H; intro W H
      refine ⟨_, fun _ h => h, H.sub (by repeat (first | exact List.Sublist.refl _ | exact List.nil_sublist _ | refine List.Sublist.cons_cons _ ?_ | refine List.Sublist.cons _ ?_)), ?_⟩
      refine t_nil ?_
      refine k_nil ?_
      refine n_then ?_
      refine ⟨_, _, rfl, ?_, ?_, ⟨g8, rfl, H⟩⟩
      · repeat (first | (with_reducible exact Eqo.refl) | ((with_reducible refine Eqo.updl _ (Eqo.ovr2 ?_ ?_) ?_); rotate_left; exact rfl; exact rfl) | ((with_reducible refine Eqo.upd ?_ ?_); rotate_left; exact rfl))
      · refine ⟨?_, trivial⟩
        · exact rfl
    refine t_each ?_ ?_
    · skip
      refine t_eff rfl (e_alloc (w_none rfl) rfl rfl ((List.replicate 32 (0 : UInt8)).map u8v) (by kernel_rfl) H ?_)
      clear H; intro g8 W H
      refine ⟨_, fun _ h => h, H.sub (by repeat (first | exact List.Sublist.refl _ | exact List.nil_sublist _ | refine List.Sublist.cons_cons _ ?_ | refine List.Sublist.cons _ ?_)), ?_⟩
      refine t_eff rfl (e_call (w_none rfl) rfl rfl Tryd.func89 rfl rfl rfl (keyedP _ (H.gl hL) (gat_bs (H.gat hn) (Sg.keys_at hi) Sg.len_k (by decide)) (gat_bs (gat_of (H.blk (g := g5))) (sub_all (by rw [List.length_map, hh])) hh (by decide)) (by rw [Sg.len_k]; decide) (by rw [hh]; decide)) ?_)
      rintro _ W ⟨rfl, hb⟩
      replace H := H.below hb
      clear hb
      refine ⟨_, fun _ h => h, H.sub (by repeat (first | exact List.Sublist.refl _ | exact List.nil_sublist _ | refine List.Sublist.cons_cons _ ?_ | refine List.Sublist.cons _ ?_)), ?_⟩
      refine t_eff rfl (e_stoK ((Old.Bl.keyed (Sg.k seed i) h).map u8v) (w_none rfl) rfl rfl rfl rfl rfl ts36 (by rw [List.length_map, hkk]) (all_u8L _) H (by simp) (spl_all (by simp [hkk])) ?_)
      clear H; intro W H
      refine ⟨_, fun _ h => h, H.sub (by repeat (first | exact List.Sublist.refl _ | exact List.nil_sublist _ | refine List.Sublist.cons_cons _ ?_ | refine List.Sublist.cons _ ?_)), ?_⟩
      refine t_nil ?_
      refine k_nil ?_
      refine n_then ?_
      refine ⟨_, _, rfl, ?_, ?_, ⟨g8, rfl, H⟩⟩
      · repeat (first | (with_reducible exact Eqo.refl) | ((with_reducible refine Eqo.updl _ (Eqo.ovr2 ?_ ?_) ?_); rotate_left; exact rfl; exact rfl) | ((with_reducible refine Eqo.upd ?_ ?_); rotate_left; exact rfl))
      · refine ⟨?_, trivial⟩
        · exact rfl
    exact t_none
  clear H; obtain ⟨g8, rfl, H⟩ := hJ
  refine k_draw [(0, true), (1, true), (2, false)] [] (by kernel_rfl) (by kernel_rfl) H (List.nil_sublist _) ?_
  clear H; intro W H
  refine c_run rfl (w_none rfl) rfl (fun W H => d_arrA rfl rfl tu38 ts5) ?_
  refine c_run rfl (w_none rfl) rfl (fun W H => d_arrA rfl rfl tu36 ts5) ?_
  refine c_eff rfl (e_copy (m := 16) (((Old.Bl.keyed (Sg.k seed i) h).take 16).map u8v) (w_none rfl) rfl rfl tu23 ts5 rfl rfl H (rd_blk (m := 32) (H.blk (g := g8)) (by rw [List.length_map, hkk])) rfl (by decide) (by simp) (all_u8L _) (by rw [← List.map_take]; exact spl_all (by simp [hkk])) ?_)
  clear H; intro W H
  refine ⟨H.sub (by repeat (first | exact List.Sublist.refl _ | exact List.nil_sublist _ | refine List.Sublist.cons_cons _ ?_ | refine List.Sublist.cons _ ?_)), ?_⟩
  refine c_nil ?_
  refine k_seq ?_
  refine k_region ?_
  refine s_run (w_none rfl) rfl (d_ldm0 rfl H rfl ta38 ts38 (by rw [List.length_map, h16])) ?_
  refine s_eff (e_stoK (((Old.Bl.keyed (Sg.k seed i) h).take 16).map u8v) (w_none rfl) rfl rfl rfl rfl rfl ts38 (by rw [List.length_map, h16]) (all_u8L _) H (by rw [List.length_map, h16]; decide) (spl_all rfl) ?_)
  clear H; intro W H
  refine l_nil ?_
  refine k_ret ?_
  repeat (first | refine r_then ?_ | refine r_blk ?_)
  exact q_retc (g := g6) (t' := 38) rfl H rfl ta38 (by rw [List.length_map, h16]; exact ts38) ⟨_, rfl, rfl, H.under⟩

set_option maxHeartbeats 4000000 in
theorem signPO {gn : Nat} {o : Int} {seed h : List UInt8} (w : World) (ho : Sg.inB o = false) (hh : h.length = 32) : Calls Tryd.prog 56 [.pointer (some ⟨gn, 0, none⟩), .int .i64 o, .agg (h.map u8v).toArray].toArray w (Ret (Is w (.agg ((Sg.sign seed o h).map u8v).toArray))) := by
  have hzz : Sg.sign seed o h = List.replicate 16 0 := by unfold Sg.sign; rw [ho]; rfl
  rw [hzz]
  refine k_enter (l := [_, _, _]) Tryd.func56 rfl rfl ?_
  have H := St.start nT w
  refine k_seq ?_
  refine k_region ?_
  refine s_eff (e_box (vs := (h.map u8v)) (w_none rfl) rfl rfl rfl rfl H ?_)
  clear H; intro g5 W H
  refine s_eff (e_alloc (w_none rfl) rfl rfl ((List.replicate 16 (0 : UInt8)).map u8v) (by kernel_rfl) H ?_)
  clear H; intro g6 W H
  refine l_nil ?_
  refine k_seq ?_
  refine k_seq ?_
  refine k_region ?_
  refine s_run (w_none rfl) rfl (mv_p rfl rfl) ?_
  refine s_run (w_none rfl) rfl (mv_i rfl rfl) ?_
  refine s_eff (e_call (w_none rfl) rfl rfl Tryd.func92 rfl rfl rfl (keyOut _ ho) ?_)
  rintro _ W ⟨rfl, hb⟩
  replace H := H.below hb
  clear hb
  refine s_run (w_none rfl) rfl (as_p rfl rfl) ?_
  refine l_nil ?_
  refine k_seq ?_
  refine k_region ?_
  refine s_run (w_none rfl) rfl (mv_p rfl rfl) ?_
  refine s_run (w_none rfl) rfl (d_nepn rfl rfl rfl (by kernel_rfl)) ?_
  refine l_nil ?_
  refine k_condF rfl rfl ?_
  refine k_skip ?_
  refine k_seq ?_
  refine k_region ?_
  refine s_run (w_none rfl) rfl (d_ldm0 rfl H rfl ta38 ts38 (by rw [List.length_map, List.length_replicate])) ?_
  refine s_eff (e_stoK (((List.replicate 16 (0 : UInt8)).map u8v)) (w_none rfl) rfl rfl rfl rfl rfl ts38 (by rw [List.length_map, List.length_replicate]) (all_u8L _) H (by simp) (spl_all rfl) ?_)
  clear H; intro W H
  refine l_nil ?_
  refine k_ret ?_
  repeat (first | refine r_then ?_ | refine r_blk ?_)
  exact q_retc (g := g6) (t' := 38) rfl H rfl ta38 (by rw [List.length_map, List.length_replicate]; exact ts38) ⟨_, rfl, rfl, H.under⟩

theorem signP {gn : Nat} {o : Int} {seed h : List UInt8} (w : World) (hL : Old.Gl w) (hn : Gat w gn (Sg.keysN seed 32)) (hh : h.length = 32) : Calls Tryd.prog 56 [.pointer (some ⟨gn, 0, none⟩), .int .i64 o, .agg (h.map u8v).toArray].toArray w (Ret (Is w (.agg ((Sg.sign seed o h).map u8v).toArray))) := by
  cases h : Sg.inB o with
  | false => exact signPO w h hh
  | true =>
    obtain ⟨i, hi, ho⟩ := Sg.in_of h
    exact signPI w hL hn hi ho hh

set_option maxHeartbeats 4000000 in
theorem verPI {gn i : Nat} {o : Int} {seed h t : List UInt8} (w : World) (hL : Old.Gl w) (hn : Gat w gn (Sg.keysN seed 32)) (hi : i < 32) (ho : o = (i : Int) + 1) (hh : h.length = 32) (ht : t.length = 16) : Calls Tryd.prog 57 [.pointer (some ⟨gn, 0, none⟩), .int .i64 o, .agg (h.map u8v).toArray, .agg (t.map u8v).toArray].toArray w (Ret (Is w (.bool (Sg.verify seed o h t)))) := by
  have hzz : Sg.verify seed o h t = (Sg.sign seed o h == t) := by unfold Sg.verify; rw [ho, (Sg.key_in (seed := seed) hi).1, Bool.true_and]
  rw [hzz]
  refine k_enter (l := [_, _, _, _]) Tryd.func57 rfl rfl ?_
  have H := St.start nT w
  refine k_seq ?_
  refine k_region ?_
  refine s_eff (e_box (vs := (h.map u8v)) (w_none rfl) rfl rfl rfl rfl H ?_)
  clear H; intro g6 W H
  refine s_eff (e_box (vs := (t.map u8v)) (w_none rfl) rfl rfl rfl rfl H ?_)
  clear H; intro g7 W H
  refine s_run (w_none rfl) rfl (as_b rfl rfl) ?_
  refine l_nil ?_
  refine k_seq ?_
  refine k_draw [(0, true), (1, true), (2, false), (3, true), (4, true), (5, true), (6, true), (7, true), (9, true), (8, false), (10, true), (11, true), (12, true)] [Fact.blk g7 (t.map u8v) 38, Fact.blk g6 (h.map u8v) 36] (by kernel_rfl) (by kernel_rfl) H (.refl _) ?_
  clear H; intro W H
  refine c_run rfl (w_none rfl) rfl (fun W H => mv_p rfl rfl) ?_
  refine c_run rfl (w_none rfl) rfl (fun W H => mv_i rfl rfl) ?_
  refine c_eff rfl (e_call (w_none rfl) rfl rfl Tryd.func92 rfl rfl rfl (keyIn _ hi ho) ?_)
  rintro _ W ⟨rfl, hb⟩
  replace H := H.below hb
  clear hb
  refine ⟨H.sub (by repeat (first | exact List.Sublist.refl _ | exact List.nil_sublist _ | refine List.Sublist.cons_cons _ ?_ | refine List.Sublist.cons _ ?_)), ?_⟩
  refine c_run rfl (w_none rfl) rfl (fun W H => d_nepn rfl rfl rfl (by kernel_rfl)) ?_
  refine c_run rfl (w_none rfl) rfl (fun W H => mv_bx (c := true) rfl rfl (rfl)) ?_
  refine c_run rfl (w_g rfl rfl rfl rfl) rfl (fun W H => mv_p rfl rfl) ?_
  refine c_run rfl (w_g rfl rfl rfl rfl) rfl (fun W H => mv_i rfl rfl) ?_
  refine c_run rfl (w_g rfl rfl rfl rfl) rfl (fun W H => d_ldm0 rfl H rfl ta36 ts36 (by rw [List.length_map, hh])) ?_
  refine c_run rfl (w_g rfl rfl rfl rfl) rfl (fun W H => d_ldm0 rfl H rfl ta38 ts38 (by rw [List.length_map, ht])) ?_
  refine c_eff rfl (e_call (w_g rfl rfl rfl rfl) rfl rfl Tryd.func56 rfl rfl rfl (signP _ (H.gl hL) (H.gat hn) hh) ?_)
  rintro _ W ⟨rfl, hb⟩
  replace H := H.below hb
  clear hb
  refine ⟨H.sub (by repeat (first | exact List.Sublist.refl _ | exact List.nil_sublist _ | refine List.Sublist.cons_cons _ ?_ | refine List.Sublist.cons _ ?_)), ?_⟩
  refine c_run rfl (w_g rfl rfl rfl rfl) rfl (fun W H => d_eqarr rfl rfl rfl tu38 tu5 ts5 Sg.len_sign ht (by kernel_rfl)) ?_
  refine c_run rfl (w_none rfl) rfl (fun W H => d_pickT rfl rfl rfl) ?_
  refine c_run rfl (w_none rfl) rfl (fun W H => as_b rfl rfl) ?_
  refine c_nil ?_
  refine k_ret ?_
  repeat (first | refine r_then ?_ | refine r_blk ?_)
  exact q_ret (v := .bool _) rfl rfl ⟨_, rfl, rfl, H.under⟩

set_option maxHeartbeats 4000000 in
theorem verPO {gn : Nat} {o : Int} {seed h t : List UInt8} (w : World) (ho : Sg.inB o = false) : Calls Tryd.prog 57 [.pointer (some ⟨gn, 0, none⟩), .int .i64 o, .agg (h.map u8v).toArray, .agg (t.map u8v).toArray].toArray w (Ret (Is w (.bool (Sg.verify seed o h t)))) := by
  have hzz : Sg.verify seed o h t = false := by unfold Sg.verify; rw [ho]; rfl
  rw [hzz]
  refine k_enter (l := [_, _, _, _]) Tryd.func57 rfl rfl ?_
  have H := St.start nT w
  refine k_seq ?_
  refine k_region ?_
  refine s_eff (e_box (vs := (h.map u8v)) (w_none rfl) rfl rfl rfl rfl H ?_)
  clear H; intro g6 W H
  refine s_eff (e_box (vs := (t.map u8v)) (w_none rfl) rfl rfl rfl rfl H ?_)
  clear H; intro g7 W H
  refine s_run (w_none rfl) rfl (as_b rfl rfl) ?_
  refine l_nil ?_
  refine k_seq ?_
  refine k_draw [(0, true), (1, true), (2, false), (3, true), (4, true), (5, true), (6, true), (7, true), (8, true), (9, true), (10, true), (11, true), (12, true)] [Fact.blk g7 (t.map u8v) 38, Fact.blk g6 (h.map u8v) 36] (by kernel_rfl) (by kernel_rfl) H (.refl _) ?_
  clear H; intro W H
  refine c_run rfl (w_none rfl) rfl (fun W H => mv_p rfl rfl) ?_
  refine c_run rfl (w_none rfl) rfl (fun W H => mv_i rfl rfl) ?_
  refine c_eff rfl (e_call (w_none rfl) rfl rfl Tryd.func92 rfl rfl rfl (keyOut _ ho) ?_)
  rintro _ W ⟨rfl, hb⟩
  replace H := H.below hb
  clear hb
  refine ⟨H.sub (by repeat (first | exact List.Sublist.refl _ | exact List.nil_sublist _ | refine List.Sublist.cons_cons _ ?_ | refine List.Sublist.cons _ ?_)), ?_⟩
  refine c_run rfl (w_none rfl) rfl (fun W H => d_nepn rfl rfl rfl (by kernel_rfl)) ?_
  refine c_run rfl (w_none rfl) rfl (fun W H => mv_bx (c := false) rfl rfl (rfl)) ?_
  refine c_skip rfl (w_gno rfl rfl rfl rfl rfl) rfl ?_
  refine c_skip rfl (w_gno rfl rfl rfl rfl rfl) rfl ?_
  refine c_skip rfl (w_gno rfl rfl rfl rfl rfl) rfl ?_
  refine c_skip rfl (w_gno rfl rfl rfl rfl rfl) rfl ?_
  refine c_skip rfl (w_gno rfl rfl rfl rfl rfl) rfl ?_
  refine c_skip rfl (w_gno rfl rfl rfl rfl rfl) rfl ?_
  refine c_run rfl (w_none rfl) rfl (fun W H => d_pickF rfl rfl rfl) ?_
  refine c_run rfl (w_none rfl) rfl (fun W H => as_b rfl rfl) ?_
  refine c_nil ?_
  refine k_ret ?_
  repeat (first | refine r_then ?_ | refine r_blk ?_)
  exact q_ret (v := .bool _) rfl rfl ⟨_, rfl, rfl, H.under⟩

theorem verP {gn : Nat} {o : Int} {seed h t : List UInt8} (w : World) (hL : Old.Gl w) (hn : Gat w gn (Sg.keysN seed 32)) (hh : h.length = 32) (ht : t.length = 16) : Calls Tryd.prog 57 [.pointer (some ⟨gn, 0, none⟩), .int .i64 o, .agg (h.map u8v).toArray, .agg (t.map u8v).toArray].toArray w (Ret (Is w (.bool (Sg.verify seed o h t)))) := by
  cases h : Sg.inB o with
  | false => exact verPO w h
  | true =>
    obtain ⟨i, hi, ho⟩ := Sg.in_of h
    exact verPI w hL hn hi ho hh ht

theorem thereR {o : Int} (w : World) : Calls Tryd.prog 90 [.int .i64 o].toArray w (Ret (Is w (.bool (Sg.inB o)))) := by
  refine k_enter (l := [_]) Tryd.func90 rfl rfl ?_
  have H := St.start nT w
  refine k_seq ?_
  refine k_region ?_
  refine s_run (w_none rfl) rfl (as_b rfl rfl) ?_
  refine l_nil ?_
  refine k_seq ?_
  rcases Int.lt_or_le o 1 with h1 | h1
  · skip
    refine k_region ?_
    refine s_run (w_none rfl) rfl (mv_i rfl rfl) ?_
    refine s_run (w_none rfl) rfl (d_ge rfl rfl rfl) ?_
    refine s_run (w_none rfl) rfl (mv_bx (c := false) rfl rfl (by simp; omega)) ?_
    refine s_skip (w_gno rfl rfl rfl rfl rfl) rfl ?_
    refine s_skip (w_gno rfl rfl rfl rfl rfl) rfl ?_
    refine s_run (w_none rfl) rfl (d_pickF rfl rfl rfl) ?_
    refine s_run (w_none rfl) rfl (as_b rfl rfl) ?_
    refine l_nil ?_
    refine k_ret ?_
    repeat (first | refine r_then ?_ | refine r_blk ?_)
    exact q_ret (v := .bool _) rfl rfl ⟨_, rfl, vb (by unfold Sg.inB; rw [decide_eq_false (by omega)]; rfl), H.under⟩
  · skip
    refine k_region ?_
    refine s_run (w_none rfl) rfl (mv_i rfl rfl) ?_
    refine s_run (w_none rfl) rfl (d_ge rfl rfl rfl) ?_
    refine s_run (w_none rfl) rfl (mv_bx (c := true) rfl rfl (by simp; omega)) ?_
    refine s_run (w_g rfl rfl rfl rfl) rfl (mv_i rfl rfl) ?_
    refine s_run (w_g rfl rfl rfl rfl) rfl (d_le rfl rfl rfl) ?_
    refine s_run (w_none rfl) rfl (d_pickT rfl rfl rfl) ?_
    refine s_run (w_none rfl) rfl (as_b rfl rfl) ?_
    refine l_nil ?_
    refine k_ret ?_
    repeat (first | refine r_then ?_ | refine r_blk ?_)
    exact q_ret (v := .bool _) rfl rfl ⟨_, rfl, vb (by unfold Sg.inB; rw [decide_eq_true h1]; rfl), H.under⟩

theorem refNew {S : Nat → Prop} {v : Value} {seed : List UInt8} (w : World) (hs : Bs w S v seed) (hl : seed.length ≤ 100000000) : Calls Tryd.prog 52 [v].toArray w (Ret (fun v' w' => ∃ gm A c, v' = .pointer (some ⟨gm, 0, none⟩) ∧ seed.length ≤ c ∧ c ≤ 9223372036854775807 ∧ St nT w w' [Fact.blk gm [.slice A seed.length c] 111, Fact.row 5 1 (.slice A seed.length c) seed.length (seed.map u8v)])) := by
  have hs0 := hs
  obtain ⟨A, c, rfl, _, _, _⟩ := hs.op
  refine k_enter (l := [_]) Tryd.func52 rfl rfl ?_
  have H := St.start nT w
  refine k_seq ?_
  refine k_region ?_
  refine s_run (w_none rfl) rfl (as_p rfl rfl) ?_
  refine l_nil ?_
  refine k_seq ?_
  refine k_region ?_
  refine s_run (w_none rfl) rfl (mv_s rfl rfl) ?_
  refine s_eff (e_call (w_none rfl) rfl rfl Tryd.func67 rfl rfl rfl (copyBytes _ _ _ (H.bs hs0) (by omega)) ?_)
  rintro _ W ⟨A1, c1, rfl, hc1, hd1, hn⟩
  replace H := H.new hn
  clear hn
  refine s_run (w_none rfl) rfl (d_build (vs := [.slice A1 seed.length c1]) rfl (by kernel_rfl)) ?_
  refine s_eff (e_box (vs := [.slice A1 seed.length c1]) (w_none rfl) rfl rfl rfl rfl H ?_)
  clear H; intro gm W H
  refine s_run (w_none rfl) rfl (as_p rfl rfl) ?_
  refine l_nil ?_
  refine k_ret ?_
  repeat (first | refine r_then ?_ | refine r_blk ?_)
  exact q_ret (v := .pointer _) rfl rfl ⟨_, rfl, gm, A1, c1, rfl, hc1, hd1, H⟩

set_option maxHeartbeats 4000000 in
theorem keyR {S : Nat → Prop} {gm c : Nat} {A : Option Addr} {o : Int} {seed : List UInt8} (w : World) (hm : Gat w gm [.slice A seed.length c]) (hs : Bs w S (.slice A seed.length c) seed) (hl : seed.length ≤ 100000000) : Calls Tryd.prog 55 [.pointer (some ⟨gm, 0, none⟩), .int .i64 o].toArray w (Ret (Is w (.agg ((Sg.key seed o).map u8v).toArray))) := by
  refine k_enter (l := [_, _]) Tryd.func55 rfl rfl ?_
  have H := St.start nT w
  refine k_seq ?_
  refine k_region ?_
  refine s_eff (e_alloc (w_none rfl) rfl rfl ((List.replicate 32 (0 : UInt8)).map u8v) (by kernel_rfl) H ?_)
  clear H; intro g4 W H
  refine l_nil ?_
  refine k_seq ?_
  refine k_seq ?_
  have hlk := Sg.len_key (seed := seed) (o := o)
  refine k_region ?_
  refine s_run (w_none rfl) rfl (mv_i rfl rfl) ?_
  refine s_eff (e_call (w_none rfl) rfl rfl Tryd.func90 rfl rfl rfl (thereR _) ?_)
  rintro _ W ⟨rfl, hb⟩
  replace H := H.below hb
  clear hb
  refine s_run (w_none rfl) rfl (d_not rfl rfl) ?_
  refine l_nil ?_
  refine k_cond rfl (fun hc7 => ?_) (fun hc7 => ?_)
  · have hin : Sg.inB o = false := by simpa using hc7
    have hzz : Sg.key seed o = List.replicate 32 0 := by unfold Sg.key; rw [hin]; rfl
    rw [hzz]
    refine k_seq ?_
    refine k_region ?_
    refine s_run (w_none rfl) rfl (d_build (vs := ((List.replicate 32 (0 : UInt8)).map u8v)) rfl (by kernel_rfl)) ?_
    refine s_eff (e_stoK (((List.replicate 32 (0 : UInt8)).map u8v)) (w_none rfl) rfl rfl rfl rfl rfl ts36 (by rw [List.length_map, List.length_replicate]) (all_u8L _) H (by simp) (spl_all rfl) ?_)
    clear H; intro W H
    refine l_nil ?_
    refine k_ret ?_
    repeat (first | refine r_then ?_ | refine r_blk ?_)
    exact q_retc (g := g4) (t' := 36) rfl H rfl ta36 (by rw [List.length_map, List.length_replicate]; exact ts36) ⟨_, rfl, rfl, H.under⟩
  · have hin : Sg.inB o = true := by simpa using hc7
    obtain ⟨i, hi, rfl⟩ := Sg.in_of hin
    rw [(Sg.key_in hi).2] at hlk ⊢
    refine k_skip ?_
    refine k_seq ?_
    refine k_draw [(0, true), (1, true), (2, true), (3, true), (4, true), (5, false), (6, false), (7, false)] [] (by kernel_rfl) (by kernel_rfl) H (List.nil_sublist _) ?_
    clear H; intro W H
    refine c_run rfl (w_none rfl) rfl (fun W H => mv_p rfl rfl) ?_
    refine c_run rfl (w_none rfl) rfl (fun W H => d_nil rfl rfl) ?_
    refine c_run rfl (w_none rfl) rfl (fun W H => d_fa rfl rfl tf111_0) ?_
    refine c_run rfl (w_none rfl) rfl (fun W H => d_ldG rfl (H.gat hm) rfl ta23 rfl) ?_
    refine c_run rfl (w_none rfl) rfl (fun W H => mv_i rfl rfl) ?_
    have hil := Pk.len_int (i + 1)
    refine c_eff rfl (e_call (w_none rfl) rfl rfl Tryd.func28 rfl rfl rfl (refInt (S := (0 ≤ ·)) (b := []) ((i : Int) + 1) _ Bs.nil (by omega) (by simp)) ?_)
    rintro _ W ⟨A1, c1, rfl, hc1, hd1, hn⟩
    replace H := H.new hn
    clear hn
    rw [List.nil_append, toU_succ (by omega)] at hc1 H ⊢
    refine ⟨H.sub (by repeat (first | exact List.Sublist.refl _ | exact List.nil_sublist _ | refine List.Sublist.cons_cons _ ?_ | refine List.Sublist.cons _ ?_)), ?_⟩
    refine c_eff rfl (e_call (w_none rfl) rfl rfl Tryd.func91 rfl rfl rfl (keyedR _ (H.bs hs) (H.rowbs (A := A1) rfl) (by omega) (by omega)) ?_)
    rintro _ W ⟨rfl, hb⟩
    replace H := H.below hb
    clear hb
    rw [show Old.Bl.keyed seed (Pk.int (i + 1)) = Sg.k seed i from rfl]
    refine ⟨H.sub (by repeat (first | exact List.Sublist.refl _ | exact List.nil_sublist _ | refine List.Sublist.cons_cons _ ?_ | refine List.Sublist.cons _ ?_)), ?_⟩
    refine c_eff rfl (e_stoK ((Sg.k seed i).map u8v) (w_none rfl) rfl rfl rfl rfl rfl ts36 (by rw [List.length_map, Sg.len_k]) (all_u8L _) H (by simp) (spl_all (by simp [Sg.len_k])) ?_)
    clear H; intro W H
    refine ⟨H.sub (by repeat (first | exact List.Sublist.refl _ | exact List.nil_sublist _ | refine List.Sublist.cons_cons _ ?_ | refine List.Sublist.cons _ ?_)), ?_⟩
    refine c_nil ?_
    refine k_ret ?_
    repeat (first | refine r_then ?_ | refine r_blk ?_)
    exact q_retc (g := g4) (t' := 36) rfl H rfl ta36 (by rw [List.length_map, Sg.len_k]; exact ts36) ⟨_, rfl, rfl, H.under⟩

set_option maxHeartbeats 4000000 in
theorem signR {S : Nat → Prop} {gm c : Nat} {A : Option Addr} {o : Int} {seed h : List UInt8} (w : World) (hm : Gat w gm [.slice A seed.length c]) (hs : Bs w S (.slice A seed.length c) seed) (hl : seed.length ≤ 100000000) (hh : h.length = 32) : Calls Tryd.prog 53 [.pointer (some ⟨gm, 0, none⟩), .int .i64 o, .agg (h.map u8v).toArray].toArray w (Ret (Is w (.agg ((Sg.sign seed o h).map u8v).toArray))) := by
  refine k_enter (l := [_, _, _]) Tryd.func53 rfl rfl ?_
  have H := St.start nT w
  refine k_seq ?_
  refine k_region ?_
  refine s_eff (e_box (vs := (h.map u8v)) (w_none rfl) rfl rfl rfl rfl H ?_)
  clear H; intro g5 W H
  refine s_eff (e_alloc (w_none rfl) rfl rfl ((List.replicate 16 (0 : UInt8)).map u8v) (by kernel_rfl) H ?_)
  clear H; intro g6 W H
  refine l_nil ?_
  refine k_seq ?_
  refine k_region ?_
  refine s_eff (e_alloc (w_none rfl) rfl rfl ((List.replicate 16 (0 : UInt8)).map u8v) (by kernel_rfl) H ?_)
  clear H; intro g7 W H
  refine l_nil ?_
  refine k_seq ?_
  refine k_seq ?_
  refine k_region ?_
  refine s_run (w_none rfl) rfl (mv_i rfl rfl) ?_
  refine s_eff (e_call (w_none rfl) rfl rfl Tryd.func90 rfl rfl rfl (thereR _) ?_)
  rintro _ W ⟨rfl, hb⟩
  replace H := H.below hb
  clear hb
  refine s_run (w_none rfl) rfl (d_not rfl rfl) ?_
  refine l_nil ?_
  refine k_cond rfl (fun hc13 => ?_) (fun hc13 => ?_)
  · have hin : Sg.inB o = false := by simpa using hc13
    have hzz : Sg.sign seed o h = List.replicate 16 0 := by unfold Sg.sign; rw [hin]; rfl
    rw [hzz]
    refine k_seq ?_
    refine k_region ?_
    refine s_run (w_none rfl) rfl (d_ldm0 (g := g7) rfl H rfl ta38 ts38 (by rw [List.length_map, List.length_replicate])) ?_
    refine s_eff (e_stoK (((List.replicate 16 (0 : UInt8)).map u8v)) (w_none rfl) rfl rfl rfl rfl rfl ts38 (by rw [List.length_map, List.length_replicate]) (all_u8L _) H (by simp) (spl_all rfl) ?_)
    clear H; intro W H
    refine l_nil ?_
    refine k_ret ?_
    repeat (first | refine r_then ?_ | refine r_blk ?_)
    exact q_retc (g := g6) (t' := 38) rfl H rfl ta38 (by rw [List.length_map, List.length_replicate]; exact ts38) ⟨_, rfl, rfl, H.under⟩
  · have hin : Sg.inB o = true := by simpa using hc13
    have hkk := Old.Bl.len_keyed (Sg.key seed o) h
    have hlk := Sg.len_key (seed := seed) (o := o)
    have hzz : Sg.sign seed o h = (Old.Bl.keyed (Sg.key seed o) h).take 16 := by unfold Sg.sign; rw [hin]; rfl
    rw [hzz]
    have h16 : ((Old.Bl.keyed (Sg.key seed o) h).take 16).length = 16 := by rw [List.length_take, hkk]; rfl
    refine k_skip ?_
    refine k_seq ?_
    refine k_region ?_
    refine s_run (w_none rfl) rfl (mv_p rfl rfl) ?_
    refine s_run (w_none rfl) rfl (mv_i rfl rfl) ?_
    refine s_eff (e_call (w_none rfl) rfl rfl Tryd.func55 rfl rfl rfl (keyR _ (H.gat hm) (H.bs hs) hl) ?_)
    rintro _ W ⟨rfl, hb⟩
    replace H := H.below hb
    clear hb
    refine s_eff (e_alloc (w_none rfl) rfl rfl ((List.replicate 32 (0 : UInt8)).map u8v) (by kernel_rfl) H ?_)
    clear H; intro g8 W H
    refine s_eff (e_stoK ((Sg.key seed o).map u8v) (w_none rfl) rfl rfl rfl rfl rfl ts36 (by rw [List.length_map, hlk]) (all_u8L _) H (by simp) (spl_all (by simp [hlk])) ?_)
    clear H; intro W H
    refine l_nil ?_
    refine k_seq ?_
    refine k_cut 18 [9] (fun sl W => ∃ g9 : Nat, sl = [(9, .pointer (some ⟨g9, 0, none⟩))] ∧ St nT w W [Fact.blk g9 ((Old.Bl.keyed (Sg.key seed o) h).map u8v) 36, Fact.blk g8 ((Sg.key seed o).map u8v) 36, Fact.blk g7 ((List.replicate 16 (0 : UInt8)).map u8v) 38, Fact.blk g6 ((List.replicate 16 (0 : UInt8)).map u8v) 38, Fact.blk g5 (h.map u8v) 36]) ?_ (fun sl ρv W hJ => ?_)
    · skip
      refine k_drawT (.rd 0 (.rd 1 (.many 2 [2, 3] fun j => (bif Nat.beq j 2 then (.ef 3 (.ef 4 .nil)) else (.ef 2 (.ef 4 .nil)))))) _ (by kernel_rfl) (by kernel_rfl) H (.refl _) ?_
      clear H; intro W H
      refine t_run rfl (w_none rfl) rfl (fun W H => d_arrA rfl rfl tu36 ts5) ?_
      refine t_run rfl (w_none rfl) rfl (fun W H => d_arrA rfl rfl tu36 ts5) ?_
      refine t_each ?_ ?_
      · skip
        refine t_eff rfl (e_call (w_none rfl) rfl rfl Tryd.func91 rfl rfl rfl (keyedR _ (gat_bs (gat_of (H.blk (g := g8))) (sub_all (by rw [List.length_map, hlk])) hlk (by decide)) (gat_bs (gat_of (H.blk (g := g5))) (sub_all (by rw [List.length_map, hh])) hh (by decide)) (by rw [hlk]; decide) (by rw [hh]; decide)) ?_)
        rintro _ W ⟨rfl, hb⟩
        replace H := H.below hb
        clear hb
        refine ⟨_, fun _ h => h, H.sub (by repeat (first | exact List.Sublist.refl _ | exact List.nil_sublist _ | refine List.Sublist.cons_cons _ ?_ | refine List.Sublist.cons _ ?_)), ?_⟩
        refine t_eff rfl (e_alloc (w_none rfl) rfl rfl ((List.replicate 32 (0 : UInt8)).map u8v) (by kernel_rfl) H ?_)
        clear H; intro g9 W H
        refine ⟨_, fun _ h => h, H.sub (by repeat (first | exact List.Sublist.refl _ | exact List.nil_sublist _ | refine List.Sublist.cons_cons _ ?_ | refine List.Sublist.cons _ ?_)), ?_⟩
        refine t_eff rfl (e_stoK ((Old.Bl.keyed (Sg.key seed o) h).map u8v) (w_none rfl) rfl rfl rfl rfl rfl ts36 (by rw [List.length_map, hkk]) (all_u8L _) H (by simp) (spl_all (by simp [hkk])) ?_)
        clear H; intro W H
        refine ⟨_, fun _ h => h, H.sub (by repeat (first | exact List.Sublist.refl _ | exact List.nil_sublist _ | refine List.Sublist.cons_cons _ ?_ | refine List.Sublist.cons _ ?_)), ?_⟩
        refine t_nil ?_
        refine k_nil ?_
        refine n_then ?_
        refine ⟨_, _, rfl, ?_, ?_, ⟨g9, rfl, H⟩⟩
        · repeat (first | (with_reducible exact Eqo.refl) | ((with_reducible refine Eqo.updl _ (Eqo.ovr2 ?_ ?_) ?_); rotate_left; exact rfl; exact rfl) | ((with_reducible refine Eqo.upd ?_ ?_); rotate_left; exact rfl))
        · refine ⟨?_, trivial⟩
          · exact rfl
      refine t_each ?_ ?_
      · skip
        refine t_eff rfl (e_alloc (w_none rfl) rfl rfl ((List.replicate 32 (0 : UInt8)).map u8v) (by kernel_rfl) H ?_)
        clear H; intro g9 W H
        refine ⟨_, fun _ h => h, H.sub (by repeat (first | exact List.Sublist.refl _ | exact List.nil_sublist _ | refine List.Sublist.cons_cons _ ?_ | refine List.Sublist.cons _ ?_)), ?_⟩
        refine t_eff rfl (e_call (w_none rfl) rfl rfl Tryd.func91 rfl rfl rfl (keyedR _ (gat_bs (gat_of (H.blk (g := g8))) (sub_all (by rw [List.length_map, hlk])) hlk (by decide)) (gat_bs (gat_of (H.blk (g := g5))) (sub_all (by rw [List.length_map, hh])) hh (by decide)) (by rw [hlk]; decide) (by rw [hh]; decide)) ?_)
        rintro _ W ⟨rfl, hb⟩
        replace H := H.below hb
        clear hb
        refine ⟨_, fun _ h => h, H.sub (by repeat (first | exact List.Sublist.refl _ | exact List.nil_sublist _ | refine List.Sublist.cons_cons _ ?_ | refine List.Sublist.cons _ ?_)), ?_⟩
        refine t_eff rfl (e_stoK ((Old.Bl.keyed (Sg.key seed o) h).map u8v) (w_none rfl) rfl rfl rfl rfl rfl ts36 (by rw [List.length_map, hkk]) (all_u8L _) H (by simp) (spl_all (by simp [hkk])) ?_)
        clear H; intro W H
        refine ⟨_, fun _ h => h, H.sub (by repeat (first | exact List.Sublist.refl _ | exact List.nil_sublist _ | refine List.Sublist.cons_cons _ ?_ | refine List.Sublist.cons _ ?_)), ?_⟩
        refine t_nil ?_
        refine k_nil ?_
        refine n_then ?_
        refine ⟨_, _, rfl, ?_, ?_, ⟨g9, rfl, H⟩⟩
        · repeat (first | (with_reducible exact Eqo.refl) | ((with_reducible refine Eqo.updl _ (Eqo.ovr2 ?_ ?_) ?_); rotate_left; exact rfl; exact rfl) | ((with_reducible refine Eqo.upd ?_ ?_); rotate_left; exact rfl))
        · refine ⟨?_, trivial⟩
          · exact rfl
      exact t_none
    clear H; obtain ⟨g9, rfl, H⟩ := hJ
    refine k_seq ?_
    refine k_seq ?_
    refine k_region ?_
    refine s_run (w_none rfl) rfl (as_i rfl rfl) ?_
    refine l_nil ?_
    refine k_block ?_
    refine k_loop 21 [10] (fun mm sl W => ∃ k : Nat, 16 - k = mm ∧ sl = [(10, .int .i64 (k : Int))] ∧ (k ≤ 16) ∧ St nT w W [Fact.blk g9 ((Old.Bl.keyed (Sg.key seed o) h).map u8v) 36, Fact.blk g7 (hz 16 k ((Old.Bl.keyed (Sg.key seed o) h).take 16)) 38, Fact.blk g6 ((List.replicate 16 (0 : UInt8)).map u8v) 38]) _ _ ⟨0, rfl, rfl, Nat.zero_le _, (by rw [hz_zero]; exact H.sub (by repeat (first | exact List.Sublist.refl _ | exact List.nil_sublist _ | refine List.Sublist.cons_cons _ ?_ | refine List.Sublist.cons _ ?_)))⟩ ⟨rfl, trivial⟩ (fun mm sl ρv W hJ => ?_)
    clear H; obtain ⟨k, rfl, rfl, hk, H⟩ := hJ
    refine k_one ?_
    refine k_seq ?_
    refine k_seq ?_
    refine k_region ?_
    refine s_run (w_none rfl) rfl (mv_i rfl rfl) ?_
    refine s_run (w_none rfl) rfl (d_lt rfl rfl rfl) ?_
    refine l_nil ?_
    refine k_cond rfl (fun hc22 => ?_) (fun hc22 => ?_)
    · first | (replace hc22 := of_decide_eq_true hc22) | simp at hc22
      refine k_skip ?_
      refine k_seq ?_
      refine k_block ?_
      refine k_region ?_
      refine s_run (w_none rfl) rfl (mv_i rfl rfl) ?_
      refine s_run (w_none rfl) rfl (mv_i rfl rfl) ?_
      refine s_run (w_none rfl) rfl (d_iaA rfl rfl rfl (q := k) rfl tu36 (by omega) ts5) ?_
      refine s_run (w_none rfl) rfl (d_ldX (off := k) rfl H (sub_u8 (by omega)) rfl (by omega) ta5) ?_
      refine s_run (w_none rfl) rfl (d_iaA rfl rfl rfl (q := k) rfl tu38 (by omega) ts5) ?_
      refine s_eff (e_stoK (hz 16 (k + 1) ((Old.Bl.keyed (Sg.key seed o) h).take 16)) (w_none rfl) rfl rfl rfl rfl rfl ts5 rfl rfl H (by rw [len_hz (by omega)]; omega) (by rw [show 0 + k * 1 = k by omega, ← take_getD (by omega) (show k < 16 by omega)]; exact hz_step (by omega) (by omega)) ?_)
      clear H; intro W H
      refine l_nil ?_
      refine k_nil ?_
      refine b_end ?_
      refine k_region ?_
      refine s_run (w_none rfl) rfl (mv_i rfl rfl) ?_
      refine s_run (w_none rfl) rfl (d_add rfl rfl rfl (by omega)) ?_
      refine s_run (w_none rfl) rfl (as_i rfl rfl) ?_
      refine l_nil ?_
      refine k_nil ?_
      refine k_next ?_
      refine ⟨_, _, _, ?_, rfl, ?_, ?_, ⟨k + 1, rfl, rfl, by omega, H⟩⟩
      · omega
      · repeat (first | ((with_reducible refine Eqo.updl _ Eqo.ovr ?_); exact rfl) | ((with_reducible refine Eqo.updl _ (Eqo.ovr2 ?_ ?_) ?_); rotate_left; exact rfl; exact rfl) | ((with_reducible refine Eqo.upd ?_ ?_); rotate_left; exact rfl))
      · refine ⟨?_, trivial⟩
        · exact vi (by omega)
    · first | (replace hc22 := of_decide_eq_false hc22) | simp at hc22
      refine k_exit ?_
      refine x_then (x_then ?_)
      refine x_hit ?_
      refine k_seq ?_
      obtain rfl : k = 16 := by omega
      have e16 := hz_end (n := 16) (b := (Old.Bl.keyed (Sg.key seed o) h).take 16)
      rw [h16] at e16
      rw [e16, show Pk.full 16 ((Old.Bl.keyed (Sg.key seed o) h).take 16) = (Old.Bl.keyed (Sg.key seed o) h).take 16 by unfold Pk.full; rw [h16]; simp] at H
      refine k_region ?_
      refine s_run (w_none rfl) rfl (d_ldm0 (g := g7) rfl H rfl ta38 ts38 (by rw [List.length_map, h16])) ?_
      refine s_eff (e_stoK (((Old.Bl.keyed (Sg.key seed o) h).take 16).map u8v) (w_none rfl) rfl rfl rfl rfl rfl ts38 (by rw [List.length_map, h16]) (all_u8L _) H (by simp) (spl_all (by simp [hkk])) ?_)
      clear H; intro W H
      refine l_nil ?_
      refine k_ret ?_
      repeat (first | refine r_then ?_ | refine r_blk ?_)
      exact q_retc (g := g6) (t' := 38) rfl H rfl ta38 (by rw [List.length_map, h16]; exact ts38) ⟨_, rfl, rfl, H.under⟩

set_option maxHeartbeats 4000000 in
theorem verR {S : Nat → Prop} {gm c : Nat} {A : Option Addr} {o : Int} {seed h t : List UInt8} (w : World) (hm : Gat w gm [.slice A seed.length c]) (hs : Bs w S (.slice A seed.length c) seed) (hl : seed.length ≤ 100000000) (hh : h.length = 32) (ht : t.length = 16) : Calls Tryd.prog 58 [.pointer (some ⟨gm, 0, none⟩), .int .i64 o, .agg (h.map u8v).toArray, .agg (t.map u8v).toArray].toArray w (Ret (Is w (.bool (Sg.verify seed o h t)))) := by
  refine k_enter (l := [_, _, _, _]) Tryd.func58 rfl rfl ?_
  have H := St.start nT w
  refine k_seq ?_
  refine k_region ?_
  refine s_eff (e_box (vs := (h.map u8v)) (w_none rfl) rfl rfl rfl rfl H ?_)
  clear H; intro g6 W H
  refine s_eff (e_box (vs := (t.map u8v)) (w_none rfl) rfl rfl rfl rfl H ?_)
  clear H; intro g7 W H
  refine s_run (w_none rfl) rfl (as_b rfl rfl) ?_
  refine l_nil ?_
  refine k_seq ?_
  cases hin : Sg.inB o
  · have hzz : Sg.verify seed o h t = false := by unfold Sg.verify; rw [hin]; rfl
    rw [hzz]
    refine k_draw [(0, true), (1, false), (2, true), (3, true), (4, true), (5, true), (6, true), (7, true), (8, true), (9, true), (10, true)] [Fact.blk g7 (t.map u8v) 38, Fact.blk g6 (h.map u8v) 36] (by kernel_rfl) (by kernel_rfl) H (.refl _) ?_
    clear H; intro W H
    refine c_run rfl (w_none rfl) rfl (fun W H => mv_i rfl rfl) ?_
    refine c_eff rfl (e_call (w_none rfl) rfl rfl Tryd.func90 rfl rfl rfl (thereR _) ?_)
    rw [hin]
    rintro _ W ⟨rfl, hb⟩
    replace H := H.below hb
    clear hb
    refine ⟨H.sub (by repeat (first | exact List.Sublist.refl _ | exact List.nil_sublist _ | refine List.Sublist.cons_cons _ ?_ | refine List.Sublist.cons _ ?_)), ?_⟩
    refine c_run rfl (w_none rfl) rfl (fun W H => mv_bx (c := false) rfl rfl (rfl)) ?_
    refine c_skip rfl (w_gno rfl rfl rfl rfl rfl) rfl ?_
    refine c_skip rfl (w_gno rfl rfl rfl rfl rfl) rfl ?_
    refine c_skip rfl (w_gno rfl rfl rfl rfl rfl) rfl ?_
    refine c_skip rfl (w_gno rfl rfl rfl rfl rfl) rfl ?_
    refine c_skip rfl (w_gno rfl rfl rfl rfl rfl) rfl ?_
    refine c_skip rfl (w_gno rfl rfl rfl rfl rfl) rfl ?_
    refine c_run rfl (w_none rfl) rfl (fun W H => d_pickF rfl rfl rfl) ?_
    refine c_run rfl (w_none rfl) rfl (fun W H => as_b rfl rfl) ?_
    refine c_nil ?_
    refine k_ret ?_
    repeat (first | refine r_then ?_ | refine r_blk ?_)
    exact q_ret (v := .bool _) rfl rfl ⟨_, rfl, rfl, H.under⟩
  · have hzz : Sg.verify seed o h t = (t == Sg.sign seed o h) := by unfold Sg.verify; rw [hin, Bool.true_and, Bool.beq_comm]
    rw [hzz]
    refine k_draw [(0, true), (1, false), (2, true), (3, true), (4, true), (5, true), (6, true), (7, false), (8, true), (9, true), (10, true)] [Fact.blk g7 (t.map u8v) 38, Fact.blk g6 (h.map u8v) 36] (by kernel_rfl) (by kernel_rfl) H (.refl _) ?_
    clear H; intro W H
    refine c_run rfl (w_none rfl) rfl (fun W H => mv_i rfl rfl) ?_
    refine c_eff rfl (e_call (w_none rfl) rfl rfl Tryd.func90 rfl rfl rfl (thereR _) ?_)
    rw [hin]
    rintro _ W ⟨rfl, hb⟩
    replace H := H.below hb
    clear hb
    refine ⟨H.sub (by repeat (first | exact List.Sublist.refl _ | exact List.nil_sublist _ | refine List.Sublist.cons_cons _ ?_ | refine List.Sublist.cons _ ?_)), ?_⟩
    refine c_run rfl (w_none rfl) rfl (fun W H => mv_bx (c := true) rfl rfl (rfl)) ?_
    refine c_run rfl (w_g rfl rfl rfl rfl) rfl (fun W H => d_ldm0 rfl H rfl ta38 ts38 (by rw [List.length_map, ht])) ?_
    refine c_run rfl (w_g rfl rfl rfl rfl) rfl (fun W H => mv_p rfl rfl) ?_
    refine c_run rfl (w_g rfl rfl rfl rfl) rfl (fun W H => mv_i rfl rfl) ?_
    refine c_run rfl (w_g rfl rfl rfl rfl) rfl (fun W H => d_ldm0 rfl H rfl ta36 ts36 (by rw [List.length_map, hh])) ?_
    refine c_eff rfl (e_call (w_g rfl rfl rfl rfl) rfl rfl Tryd.func53 rfl rfl rfl (signR _ (H.gat hm) (H.bs hs) hl hh) ?_)
    rintro _ W ⟨rfl, hb⟩
    replace H := H.below hb
    clear hb
    refine ⟨H.sub (by repeat (first | exact List.Sublist.refl _ | exact List.nil_sublist _ | refine List.Sublist.cons_cons _ ?_ | refine List.Sublist.cons _ ?_)), ?_⟩
    refine c_run rfl (w_g rfl rfl rfl rfl) rfl (fun W H => d_eqarr rfl rfl rfl tu38 tu5 ts5 ht Sg.len_sign (by kernel_rfl)) ?_
    refine c_run rfl (w_none rfl) rfl (fun W H => d_pickT rfl rfl rfl) ?_
    refine c_run rfl (w_none rfl) rfl (fun W H => as_b rfl rfl) ?_
    refine c_nil ?_
    refine k_ret ?_
    repeat (first | refine r_then ?_ | refine r_blk ?_)
    exact q_ret (v := .bool _) rfl rfl ⟨_, rfl, rfl, H.under⟩
end Go.Proofs.YtejaohlijaodjaaDoor

namespace Go.Proofs.YtejaohlijaodjaaDoor
open Go Go.RowKit
attribute [local irreducible] wpList

theorem as_bx {P : Program} {o : Oper} {n : Nat} {ρ : Nat → Value} {W : World} {x : Operand} {b c : Bool} (ho : o.op = .assign x) (hx : ev n ρ x = .bool b) (hb : b = c) : Runs P n ρ o W (.bool c) W := d_asg ho (by rw [hx, hb])
def h5 : List UInt8 := 5 :: List.replicate 31 0
namespace Sg
theorem verify_self {seed h : List UInt8} {o : Int} : verify seed o h (sign seed o h) = inB o := by unfold verify; simp
theorem key_2 : key [1] 2 = Old.Bl.keyed [1] [2] := by
  unfold key
  rw [show inB 2 = true by decide, cond_true, show Pk.int (2 : Int).toNat = [2] by decide]
theorem sign_out {seed h : List UInt8} {o : Int} (ho : inB o = false) : sign seed o h = List.replicate 16 0 := by unfold sign; rw [ho]; rfl
theorem key_out {seed : List UInt8} {o : Int} (ho : inB o = false) : key seed o = List.replicate 32 0 := by unfold key; rw [ho]; rfl
theorem ver_out {seed h t : List UInt8} {o : Int} (ho : inB o = false) : verify seed o h t = false := by unfold verify; rw [ho]; rfl
theorem ver_in {seed h t : List UInt8} {o : Int} (ho : inB o = true) : verify seed o h t = (sign seed o h == t) := by unfold verify; rw [ho]; rfl
end Sg
def xorL (a b : List UInt8) : List UInt8 := List.zipWith (· ^^^ ·) a b
theorem xor_u8 {t : TypeId} {a b : UInt8} : binOp .xor t (.int .u8 (a.toNat : Int)) (.int .u8 (b.toNat : Int)) = pure (.int .u8 ((a ^^^ b).toNat : Int)) := by
  have e : bits .xor .u8 (a.toNat : Int) (b.toNat : Int) = ((a ^^^ b).toNat : Int) := by
    rw [u8_xor_nat _ _ a.toNat_lt b.toNat_lt, UInt8.toNat_xor]
  show Op.intBits .xor .u8 _ _ = _
  rw [intBits_xor, e]
theorem xor_zero : ∀ (s t : List UInt8), s.length = t.length → ((s == xorL s t) = (t == List.replicate s.length 0))
  | [], [], _ => rfl
  | a :: s, b :: t, h => by
    have ih := xor_zero s t (by simpa using h)
    have e : (a == (a ^^^ b)) = (b == 0) := by
      rw [Bool.eq_iff_iff, beq_iff_eq, beq_iff_eq]
      constructor
      · intro h
        have h2 : a ^^^ a = a ^^^ (a ^^^ b) := by rw [← h]
        rw [← UInt8.xor_assoc, UInt8.xor_self, UInt8.zero_xor] at h2
        exact h2.symm
      · intro h; subst h; simp
    show ((a == (a ^^^ b)) && (s == xorL s t)) = ((b == 0) && (t == List.replicate s.length 0))
    rw [ih, e]
theorem len_xor {a b : List UInt8} (h : a.length = b.length) : (xorL a b).length = a.length := by simp [xorL, h]
/-- The first k of one, then the other. -/
def part (a b : List UInt8) (k : Nat) : List Value := ((xorL a b).take k ++ a.drop k).map u8v
theorem len_part {a b : List UInt8} {k : Nat} (h : a.length = b.length) (hk : k ≤ a.length) : (part a b k).length = a.length := by
  have := len_xor h
  simp [part]; omega
theorem part_step {a b : List UInt8} {k : Nat} (h : a.length = b.length) (hk : k < a.length) : spl (part a b k) k [u8v (a.getD k 0 ^^^ b.getD k 0)] = part a b (k + 1) := by
  have hl := len_xor h
  rw [spl_len _ _ _ (by rw [len_part h (by omega)]; simp; omega)]
  unfold part
  have h1 : ((xorL a b).take k).length = k := by rw [List.length_take]; omega
  have h2 : (xorL a b)[k]? = some (a.getD k 0 ^^^ b.getD k 0) := by
    unfold xorL
    rw [List.getElem?_zipWith, l_get hk, l_get (by omega)]
  rw [List.take_add_one, h2]
  have e1 : (((xorL a b).take k ++ a.drop k).map u8v).take k = ((xorL a b).take k).map u8v := by
    rw [← List.map_take]
    congr 1
    rw [List.take_append_of_le_length (by omega), List.take_of_length_le (by omega)]
  have e2 : (((xorL a b).take k ++ a.drop k).map u8v).drop (k + 1) = (a.drop (k + 1)).map u8v := by
    rw [← List.map_drop]
    congr 1
    rw [List.drop_append, List.drop_eq_nil_of_le (by omega), h1, List.drop_drop]
    simp
  rw [List.length_singleton, e1, e2]
  simp
theorem part_0 {a b : List UInt8} : part a b 0 = a.map u8v := by simp [part]
theorem part_all {a b : List UInt8} (h : a.length = b.length) : part a b a.length = (xorL a b).map u8v := by
  unfold part
  rw [List.take_of_length_le (by rw [len_xor h]; exact Nat.le_refl _)]
  simp
theorem sub_part {a b : List UInt8} {k : Nat} (h : k < a.length) : sub (a.map u8v) k 1 = [u8v (a.getD k 0)] := sub_u8 h

set_option maxHeartbeats 4000000 in
theorem works05 (w : World) (hG : Gat w 0 formsC) (hL : Old.Gl w) : Calls Tryd.prog 50 [].toArray w (Ret (Is w (.bool true))) := by
  refine k_enter (l := []) Tryd.func50 rfl rfl ?_
  have H := St.start nT w
  have hh : h5.length = 32 := by decide
  refine k_seq ?_
  refine k_region ?_
  refine s_run (w_none rfl) rfl (as_b rfl rfl) ?_
  refine l_nil ?_
  refine k_seq ?_
  refine k_region ?_
  refine s_eff (e_bsl (xs := [.const (.int .u8 1)]) (vals := [.int .u8 _]) (vs := [.int .u8 _]) (w_none rfl) rfl rfl rfl rfl rfl rfl tu23 ts5 ty5 rfl rfl rfl H ?_)
  clear H; intro g3 W H
  refine s_eff (e_call (w_none rfl) rfl rfl Tryd.func51 rfl rfl rfl (signNew (seed := [1]) _ (H.gat hG) (H.gl hL) (Bs.mk (S := (· = g3)) (l := [1]) (rd_blk (H.blk (g := g3)) rfl) (by decide) (by decide)) (by decide)) ?_)
  rintro _ W ⟨gn, rfl, hnw⟩
  replace H := H.new hnw
  clear hnw
  refine s_run (w_none rfl) rfl (as_p rfl rfl) ?_
  refine l_nil ?_
  refine k_seq ?_
  refine k_region ?_
  refine s_run (w_none rfl) rfl (d_build (vs := h5.map u8v) rfl (by kernel_rfl)) ?_
  refine s_eff (e_alloc (w_none rfl) rfl rfl ((List.replicate 32 (0 : UInt8)).map u8v) (by kernel_rfl) H ?_)
  clear H; intro g2 W H
  refine s_eff (e_stoK (h5.map u8v) (w_none rfl) rfl rfl rfl rfl rfl ts36 (by rw [List.length_map, hh]) (all_u8L _) H (by simp) (spl_all (by simp [hh])) ?_)
  clear H; intro W H
  refine l_nil ?_
  refine k_seq ?_
  refine k_cut 6 [0] (fun sl W => sl = [(0, .bool true)] ∧ St nT w W []) ?_ (fun sl ρv W hJ => ?_)
  · skip
    refine k_drawT (.rd 0 (.many 34 [1, 2, 3] fun j => (bif Nat.beq j 1 then (.many 33 [2, 3] fun j => (bif Nat.beq j 2 then (.ef 3 (.ef 4 (.rd 5 (.rd 6 (.rd 7 (.rd 8 (.rd 9 (.rd 10 (.ef 11 (.ef 12 (.rd 13 (.rd 14 (.rd 15 (.rd 16 (.rd 18 (.ef 17 (.rd 19 (.rd 20 (.rd 21 (.rd 22 (.rd 23 (.rd 24 (.ef 25 (.rd 26 (.rd 27 (.rd 28 (.rd 29 (.rd 30 (.rd 31 (.ef 32 (.rd 33 (.rd 34 (.rd 35 .nil))))))))))))))))))))))))))))))))) else (.ef 2 (.ef 4 (.rd 5 (.rd 6 (.rd 7 (.rd 8 (.rd 9 (.rd 10 (.ef 11 (.ef 12 (.rd 13 (.rd 14 (.rd 15 (.rd 16 (.rd 18 (.ef 17 (.rd 19 (.rd 20 (.rd 21 (.rd 22 (.rd 23 (.rd 24 (.ef 25 (.rd 26 (.rd 27 (.rd 28 (.rd 29 (.rd 30 (.rd 31 (.ef 32 (.rd 33 (.rd 34 (.rd 35 .nil))))))))))))))))))))))))))))))))))) else (bif Nat.beq j 2 then (.many 33 [1, 3] fun j => (bif Nat.beq j 1 then (.ef 3 (.ef 4 (.rd 5 (.rd 6 (.rd 7 (.rd 8 (.rd 9 (.rd 10 (.ef 11 (.ef 12 (.rd 13 (.rd 14 (.rd 15 (.rd 16 (.rd 18 (.ef 17 (.rd 19 (.rd 20 (.rd 21 (.rd 22 (.rd 23 (.rd 24 (.ef 25 (.rd 26 (.rd 27 (.rd 28 (.rd 29 (.rd 30 (.rd 31 (.ef 32 (.rd 33 (.rd 34 (.rd 35 .nil))))))))))))))))))))))))))))))))) else (.ef 1 (.ef 4 (.rd 5 (.rd 6 (.rd 7 (.rd 8 (.rd 9 (.rd 10 (.ef 11 (.ef 12 (.rd 13 (.rd 14 (.rd 15 (.rd 16 (.rd 18 (.ef 17 (.rd 19 (.rd 20 (.rd 21 (.rd 22 (.rd 23 (.rd 24 (.ef 25 (.rd 26 (.rd 27 (.rd 28 (.rd 29 (.rd 30 (.rd 31 (.ef 32 (.rd 33 (.rd 34 (.rd 35 .nil))))))))))))))))))))))))))))))))))) else (.many 33 [1, 2] fun j => (bif Nat.beq j 1 then (.ef 2 (.ef 4 (.rd 5 (.rd 6 (.rd 7 (.rd 8 (.rd 9 (.rd 10 (.ef 11 (.ef 12 (.rd 13 (.rd 14 (.rd 15 (.rd 16 (.rd 18 (.ef 17 (.rd 19 (.rd 20 (.rd 21 (.rd 22 (.rd 23 (.rd 24 (.ef 25 (.rd 26 (.rd 27 (.rd 28 (.rd 29 (.rd 30 (.rd 31 (.ef 32 (.rd 33 (.rd 34 (.rd 35 .nil))))))))))))))))))))))))))))))))) else (.ef 1 (.ef 4 (.rd 5 (.rd 6 (.rd 7 (.rd 8 (.rd 9 (.rd 10 (.ef 11 (.ef 12 (.rd 13 (.rd 14 (.rd 15 (.rd 16 (.rd 18 (.ef 17 (.rd 19 (.rd 20 (.rd 21 (.rd 22 (.rd 23 (.rd 24 (.ef 25 (.rd 26 (.rd 27 (.rd 28 (.rd 29 (.rd 30 (.rd 31 (.ef 32 (.rd 33 (.rd 34 (.rd 35 .nil))))))))))))))))))))))))))))))))))))))) _ (by kernel_rfl) (by kernel_rfl) H (.refl _) ?_
    clear H; intro W H
    refine t_run rfl (w_none rfl) rfl (fun W H => mv_p rfl rfl) ?_
    refine t_each ?_ ?_
    · skip
      refine t_eff rfl (e_call (w_none rfl) rfl rfl Tryd.func54 rfl rfl rfl (keyP (seed := [1]) _ (gat_of (H.blk (g := gn)))) ?_)
      rintro _ W ⟨rfl, hb⟩
      replace H := H.below hb
      clear hb
      refine ⟨_, fun _ h => h, H.sub (by repeat (first | exact List.Sublist.refl _ | exact List.nil_sublist _ | refine List.Sublist.cons_cons _ ?_ | refine List.Sublist.cons _ ?_)), ?_⟩
      refine t_each ?_ ?_
      · skip
        refine t_eff rfl (e_bsl (xs := [.const (.int .u8 1)]) (vals := [.int .u8 _]) (vs := [.int .u8 _]) (w_none rfl) rfl rfl rfl rfl rfl rfl tu23 ts5 ty5 rfl rfl rfl H ?_)
        clear H; intro ga W H
        refine ⟨_, fun _ h => h, H.sub (by repeat (first | exact List.Sublist.refl _ | exact List.nil_sublist _ | refine List.Sublist.cons_cons _ ?_ | refine List.Sublist.cons _ ?_)), ?_⟩
        refine t_eff rfl (e_bsl (xs := [.const (.int .u8 2)]) (vals := [.int .u8 _]) (vs := [.int .u8 _]) (w_none rfl) rfl rfl rfl rfl rfl rfl tu23 ts5 ty5 rfl rfl rfl H ?_)
        clear H; intro gb W H
        refine ⟨_, fun _ h => h, H.sub (by repeat (first | exact List.Sublist.refl _ | exact List.nil_sublist _ | refine List.Sublist.cons_cons _ ?_ | refine List.Sublist.cons _ ?_)), ?_⟩
        refine t_eff rfl (e_call (w_none rfl) rfl rfl Tryd.func89 rfl rfl rfl (keyedP _ (H.gl hL) (Bs.mk (S := (· = ga)) (l := [1]) (rd_blk (H.blk (g := ga)) rfl) (by decide) (by decide)) (Bs.mk (S := (· = gb)) (l := [2]) (rd_blk (H.blk (g := gb)) rfl) (by decide) (by decide)) (by decide) (by decide)) ?_)
        rintro _ W ⟨rfl, hb⟩
        replace H := H.below hb
        clear hb
        refine ⟨_, fun _ h => h, H.sub (by repeat (first | exact List.Sublist.refl _ | exact List.nil_sublist _ | refine List.Sublist.cons_cons _ ?_ | refine List.Sublist.cons _ ?_)), ?_⟩
        refine t_run rfl (w_none rfl) rfl (fun W H => d_eqarr rfl rfl rfl tu36 tu5 ts5 Sg.len_key (Old.Bl.len_keyed _ _) (by kernel_rfl)) ?_
        refine t_run rfl (w_none rfl) rfl (fun W H => mv_bx (c := true) rfl rfl (by rw [Sg.key_2, beq_self_eq_true])) ?_
        refine t_run rfl (w_g rfl rfl rfl rfl) rfl (fun W H => mv_p rfl rfl) ?_
        refine t_run rfl (w_g rfl rfl rfl rfl) rfl (fun W H => d_ldm0 (g := g2) rfl H rfl ta36 ts36 (by rw [List.length_map, hh])) ?_
        refine t_run rfl (w_g rfl rfl rfl rfl) rfl (fun W H => mv_p rfl rfl) ?_
        refine t_run rfl (w_g rfl rfl rfl rfl) rfl (fun W H => d_ldm0 (g := g2) rfl H rfl ta36 ts36 (by rw [List.length_map, hh])) ?_
        refine t_eff rfl (e_call (w_g rfl rfl rfl rfl) rfl rfl Tryd.func56 rfl rfl rfl (signP (seed := [1]) _ (H.gl hL) (gat_of (H.blk (g := gn))) hh) ?_)
        rintro _ W ⟨rfl, hb⟩
        replace H := H.below hb
        clear hb
        refine ⟨_, fun _ h => h, H.sub (by repeat (first | exact List.Sublist.refl _ | exact List.nil_sublist _ | refine List.Sublist.cons_cons _ ?_ | refine List.Sublist.cons _ ?_)), ?_⟩
        refine t_eff rfl (e_call (w_g rfl rfl rfl rfl) rfl rfl Tryd.func57 rfl rfl rfl (verP (seed := [1]) _ (H.gl hL) (gat_of (H.blk (g := gn))) hh Sg.len_sign) ?_)
        rintro _ W ⟨rfl, hb⟩
        replace H := H.below hb
        clear hb
        refine ⟨_, fun _ h => h, H.sub (by repeat (first | exact List.Sublist.refl _ | exact List.nil_sublist _ | refine List.Sublist.cons_cons _ ?_ | refine List.Sublist.cons _ ?_)), ?_⟩
        refine t_run rfl (w_none rfl) rfl (fun W H => d_pickT rfl rfl rfl) ?_
        refine t_run rfl (w_none rfl) rfl (fun W H => mv_bx (c := true) rfl rfl (by rw [Sg.verify_self]; decide)) ?_
        refine t_run rfl (w_g rfl rfl rfl rfl) rfl (fun W H => mv_p rfl rfl) ?_
        refine t_run rfl (w_g rfl rfl rfl rfl) rfl (fun W H => d_ldm0 (g := g2) rfl H rfl ta36 ts36 (by rw [List.length_map, hh])) ?_
        refine t_run rfl (w_g rfl rfl rfl rfl) rfl (fun W H => d_build (vs := (List.replicate 16 (0 : UInt8)).map u8v) rfl (by kernel_rfl)) ?_
        refine t_eff rfl (e_call (w_g rfl rfl rfl rfl) rfl rfl Tryd.func56 rfl rfl rfl (signP (seed := [1]) _ (H.gl hL) (gat_of (H.blk (g := gn))) hh) ?_)
        rintro _ W ⟨rfl, hb⟩
        replace H := H.below hb
        clear hb
        refine ⟨_, fun _ h => h, H.sub (by repeat (first | exact List.Sublist.refl _ | exact List.nil_sublist _ | refine List.Sublist.cons_cons _ ?_ | refine List.Sublist.cons _ ?_)), ?_⟩
        refine t_run rfl (w_g rfl rfl rfl rfl) rfl (fun W H => d_eqarr rfl rfl rfl tu38 tu5 ts5 (b := (List.replicate 16 (0 : UInt8))) Sg.len_sign (by decide) (by kernel_rfl)) ?_
        refine t_run rfl (w_none rfl) rfl (fun W H => d_pickT rfl rfl rfl) ?_
        refine t_run rfl (w_none rfl) rfl (fun W H => mv_bx (c := true) rfl rfl (by rw [Sg.sign_out (by decide), beq_self_eq_true])) ?_
        refine t_run rfl (w_g rfl rfl rfl rfl) rfl (fun W H => mv_p rfl rfl) ?_
        refine t_run rfl (w_g rfl rfl rfl rfl) rfl (fun W H => d_ldm0 (g := g2) rfl H rfl ta36 ts36 (by rw [List.length_map, hh])) ?_
        refine t_run rfl (w_g rfl rfl rfl rfl) rfl (fun W H => d_build (vs := (List.replicate 16 (0 : UInt8)).map u8v) rfl (by kernel_rfl)) ?_
        refine t_eff rfl (e_call (w_g rfl rfl rfl rfl) rfl rfl Tryd.func57 rfl rfl rfl (verP (seed := [1]) (t := (List.replicate 16 (0 : UInt8))) _ (H.gl hL) (gat_of (H.blk (g := gn))) hh (by decide)) ?_)
        rintro _ W ⟨rfl, hb⟩
        replace H := H.below hb
        clear hb
        refine ⟨_, fun _ h => h, H.sub (by repeat (first | exact List.Sublist.refl _ | exact List.nil_sublist _ | refine List.Sublist.cons_cons _ ?_ | refine List.Sublist.cons _ ?_)), ?_⟩
        refine t_run rfl (w_g rfl rfl rfl rfl) rfl (fun W H => d_not rfl rfl) ?_
        refine t_run rfl (w_none rfl) rfl (fun W H => d_pickT rfl rfl rfl) ?_
        refine t_run rfl (w_none rfl) rfl (fun W H => mv_bx (c := true) rfl rfl (by rw [Sg.ver_out (by decide)]; rfl)) ?_
        refine t_run rfl (w_g rfl rfl rfl rfl) rfl (fun W H => mv_p rfl rfl) ?_
        refine t_run rfl (w_g rfl rfl rfl rfl) rfl (fun W H => d_ldm0 (g := g2) rfl H rfl ta36 ts36 (by rw [List.length_map, hh])) ?_
        refine t_run rfl (w_g rfl rfl rfl rfl) rfl (fun W H => d_build (vs := (List.replicate 16 (0 : UInt8)).map u8v) rfl (by kernel_rfl)) ?_
        refine t_eff rfl (e_call (w_g rfl rfl rfl rfl) rfl rfl Tryd.func57 rfl rfl rfl (verP (seed := [1]) (t := (List.replicate 16 (0 : UInt8))) _ (H.gl hL) (gat_of (H.blk (g := gn))) hh (by decide)) ?_)
        rintro _ W ⟨rfl, hb⟩
        replace H := H.below hb
        clear hb
        refine ⟨_, fun _ h => h, H.sub (by repeat (first | exact List.Sublist.refl _ | exact List.nil_sublist _ | refine List.Sublist.cons_cons _ ?_ | refine List.Sublist.cons _ ?_)), ?_⟩
        refine t_run rfl (w_g rfl rfl rfl rfl) rfl (fun W H => d_not rfl rfl) ?_
        refine t_run rfl (w_none rfl) rfl (fun W H => d_pickT rfl rfl rfl) ?_
        refine t_run rfl (w_none rfl) rfl (fun W H => as_b rfl rfl) ?_
        refine t_nil ?_
        refine k_nil ?_
        refine n_then ?_
        refine ⟨_, _, rfl, ?_, ?_, ⟨rfl, (H.sub (List.nil_sublist _))⟩⟩
        · repeat (first | (with_reducible exact Eqo.refl) | ((with_reducible refine Eqo.updl _ (Eqo.ovr2 ?_ ?_) ?_); rotate_left; exact rfl; exact rfl) | ((with_reducible refine Eqo.upd ?_ ?_); rotate_left; exact rfl))
        · refine ⟨?_, trivial⟩
          · exact vb (by rw [Sg.ver_out (by decide)]; rfl)
      refine t_each ?_ ?_
      · skip
        refine t_eff rfl (e_bsl (xs := [.const (.int .u8 2)]) (vals := [.int .u8 _]) (vs := [.int .u8 _]) (w_none rfl) rfl rfl rfl rfl rfl rfl tu23 ts5 ty5 rfl rfl rfl H ?_)
        clear H; intro gb W H
        refine ⟨_, fun _ h => h, H.sub (by repeat (first | exact List.Sublist.refl _ | exact List.nil_sublist _ | refine List.Sublist.cons_cons _ ?_ | refine List.Sublist.cons _ ?_)), ?_⟩
        refine t_eff rfl (e_bsl (xs := [.const (.int .u8 1)]) (vals := [.int .u8 _]) (vs := [.int .u8 _]) (w_none rfl) rfl rfl rfl rfl rfl rfl tu23 ts5 ty5 rfl rfl rfl H ?_)
        clear H; intro ga W H
        refine ⟨_, fun _ h => h, H.sub (by repeat (first | exact List.Sublist.refl _ | exact List.nil_sublist _ | refine List.Sublist.cons_cons _ ?_ | refine List.Sublist.cons _ ?_)), ?_⟩
        refine t_eff rfl (e_call (w_none rfl) rfl rfl Tryd.func89 rfl rfl rfl (keyedP _ (H.gl hL) (Bs.mk (S := (· = ga)) (l := [1]) (rd_blk (H.blk (g := ga)) rfl) (by decide) (by decide)) (Bs.mk (S := (· = gb)) (l := [2]) (rd_blk (H.blk (g := gb)) rfl) (by decide) (by decide)) (by decide) (by decide)) ?_)
        rintro _ W ⟨rfl, hb⟩
        replace H := H.below hb
        clear hb
        refine ⟨_, fun _ h => h, H.sub (by repeat (first | exact List.Sublist.refl _ | exact List.nil_sublist _ | refine List.Sublist.cons_cons _ ?_ | refine List.Sublist.cons _ ?_)), ?_⟩
        refine t_run rfl (w_none rfl) rfl (fun W H => d_eqarr rfl rfl rfl tu36 tu5 ts5 Sg.len_key (Old.Bl.len_keyed _ _) (by kernel_rfl)) ?_
        refine t_run rfl (w_none rfl) rfl (fun W H => mv_bx (c := true) rfl rfl (by rw [Sg.key_2, beq_self_eq_true])) ?_
        refine t_run rfl (w_g rfl rfl rfl rfl) rfl (fun W H => mv_p rfl rfl) ?_
        refine t_run rfl (w_g rfl rfl rfl rfl) rfl (fun W H => d_ldm0 (g := g2) rfl H rfl ta36 ts36 (by rw [List.length_map, hh])) ?_
        refine t_run rfl (w_g rfl rfl rfl rfl) rfl (fun W H => mv_p rfl rfl) ?_
        refine t_run rfl (w_g rfl rfl rfl rfl) rfl (fun W H => d_ldm0 (g := g2) rfl H rfl ta36 ts36 (by rw [List.length_map, hh])) ?_
        refine t_eff rfl (e_call (w_g rfl rfl rfl rfl) rfl rfl Tryd.func56 rfl rfl rfl (signP (seed := [1]) _ (H.gl hL) (gat_of (H.blk (g := gn))) hh) ?_)
        rintro _ W ⟨rfl, hb⟩
        replace H := H.below hb
        clear hb
        refine ⟨_, fun _ h => h, H.sub (by repeat (first | exact List.Sublist.refl _ | exact List.nil_sublist _ | refine List.Sublist.cons_cons _ ?_ | refine List.Sublist.cons _ ?_)), ?_⟩
        refine t_eff rfl (e_call (w_g rfl rfl rfl rfl) rfl rfl Tryd.func57 rfl rfl rfl (verP (seed := [1]) _ (H.gl hL) (gat_of (H.blk (g := gn))) hh Sg.len_sign) ?_)
        rintro _ W ⟨rfl, hb⟩
        replace H := H.below hb
        clear hb
        refine ⟨_, fun _ h => h, H.sub (by repeat (first | exact List.Sublist.refl _ | exact List.nil_sublist _ | refine List.Sublist.cons_cons _ ?_ | refine List.Sublist.cons _ ?_)), ?_⟩
        refine t_run rfl (w_none rfl) rfl (fun W H => d_pickT rfl rfl rfl) ?_
        refine t_run rfl (w_none rfl) rfl (fun W H => mv_bx (c := true) rfl rfl (by rw [Sg.verify_self]; decide)) ?_
        refine t_run rfl (w_g rfl rfl rfl rfl) rfl (fun W H => mv_p rfl rfl) ?_
        refine t_run rfl (w_g rfl rfl rfl rfl) rfl (fun W H => d_ldm0 (g := g2) rfl H rfl ta36 ts36 (by rw [List.length_map, hh])) ?_
        refine t_run rfl (w_g rfl rfl rfl rfl) rfl (fun W H => d_build (vs := (List.replicate 16 (0 : UInt8)).map u8v) rfl (by kernel_rfl)) ?_
        refine t_eff rfl (e_call (w_g rfl rfl rfl rfl) rfl rfl Tryd.func56 rfl rfl rfl (signP (seed := [1]) _ (H.gl hL) (gat_of (H.blk (g := gn))) hh) ?_)
        rintro _ W ⟨rfl, hb⟩
        replace H := H.below hb
        clear hb
        refine ⟨_, fun _ h => h, H.sub (by repeat (first | exact List.Sublist.refl _ | exact List.nil_sublist _ | refine List.Sublist.cons_cons _ ?_ | refine List.Sublist.cons _ ?_)), ?_⟩
        refine t_run rfl (w_g rfl rfl rfl rfl) rfl (fun W H => d_eqarr rfl rfl rfl tu38 tu5 ts5 (b := (List.replicate 16 (0 : UInt8))) Sg.len_sign (by decide) (by kernel_rfl)) ?_
        refine t_run rfl (w_none rfl) rfl (fun W H => d_pickT rfl rfl rfl) ?_
        refine t_run rfl (w_none rfl) rfl (fun W H => mv_bx (c := true) rfl rfl (by rw [Sg.sign_out (by decide), beq_self_eq_true])) ?_
        refine t_run rfl (w_g rfl rfl rfl rfl) rfl (fun W H => mv_p rfl rfl) ?_
        refine t_run rfl (w_g rfl rfl rfl rfl) rfl (fun W H => d_ldm0 (g := g2) rfl H rfl ta36 ts36 (by rw [List.length_map, hh])) ?_
        refine t_run rfl (w_g rfl rfl rfl rfl) rfl (fun W H => d_build (vs := (List.replicate 16 (0 : UInt8)).map u8v) rfl (by kernel_rfl)) ?_
        refine t_eff rfl (e_call (w_g rfl rfl rfl rfl) rfl rfl Tryd.func57 rfl rfl rfl (verP (seed := [1]) (t := (List.replicate 16 (0 : UInt8))) _ (H.gl hL) (gat_of (H.blk (g := gn))) hh (by decide)) ?_)
        rintro _ W ⟨rfl, hb⟩
        replace H := H.below hb
        clear hb
        refine ⟨_, fun _ h => h, H.sub (by repeat (first | exact List.Sublist.refl _ | exact List.nil_sublist _ | refine List.Sublist.cons_cons _ ?_ | refine List.Sublist.cons _ ?_)), ?_⟩
        refine t_run rfl (w_g rfl rfl rfl rfl) rfl (fun W H => d_not rfl rfl) ?_
        refine t_run rfl (w_none rfl) rfl (fun W H => d_pickT rfl rfl rfl) ?_
        refine t_run rfl (w_none rfl) rfl (fun W H => mv_bx (c := true) rfl rfl (by rw [Sg.ver_out (by decide)]; rfl)) ?_
        refine t_run rfl (w_g rfl rfl rfl rfl) rfl (fun W H => mv_p rfl rfl) ?_
        refine t_run rfl (w_g rfl rfl rfl rfl) rfl (fun W H => d_ldm0 (g := g2) rfl H rfl ta36 ts36 (by rw [List.length_map, hh])) ?_
        refine t_run rfl (w_g rfl rfl rfl rfl) rfl (fun W H => d_build (vs := (List.replicate 16 (0 : UInt8)).map u8v) rfl (by kernel_rfl)) ?_
        refine t_eff rfl (e_call (w_g rfl rfl rfl rfl) rfl rfl Tryd.func57 rfl rfl rfl (verP (seed := [1]) (t := (List.replicate 16 (0 : UInt8))) _ (H.gl hL) (gat_of (H.blk (g := gn))) hh (by decide)) ?_)
        rintro _ W ⟨rfl, hb⟩
        replace H := H.below hb
        clear hb
        refine ⟨_, fun _ h => h, H.sub (by repeat (first | exact List.Sublist.refl _ | exact List.nil_sublist _ | refine List.Sublist.cons_cons _ ?_ | refine List.Sublist.cons _ ?_)), ?_⟩
        refine t_run rfl (w_g rfl rfl rfl rfl) rfl (fun W H => d_not rfl rfl) ?_
        refine t_run rfl (w_none rfl) rfl (fun W H => d_pickT rfl rfl rfl) ?_
        refine t_run rfl (w_none rfl) rfl (fun W H => as_b rfl rfl) ?_
        refine t_nil ?_
        refine k_nil ?_
        refine n_then ?_
        refine ⟨_, _, rfl, ?_, ?_, ⟨rfl, (H.sub (List.nil_sublist _))⟩⟩
        · repeat (first | (with_reducible exact Eqo.refl) | ((with_reducible refine Eqo.updl _ (Eqo.ovr2 ?_ ?_) ?_); rotate_left; exact rfl; exact rfl) | ((with_reducible refine Eqo.upd ?_ ?_); rotate_left; exact rfl))
        · refine ⟨?_, trivial⟩
          · exact vb (by rw [Sg.ver_out (by decide)]; rfl)
      exact t_none
    refine t_each ?_ ?_
    · skip
      refine t_eff rfl (e_bsl (xs := [.const (.int .u8 1)]) (vals := [.int .u8 _]) (vs := [.int .u8 _]) (w_none rfl) rfl rfl rfl rfl rfl rfl tu23 ts5 ty5 rfl rfl rfl H ?_)
      clear H; intro ga W H
      refine ⟨_, fun _ h => h, H.sub (by repeat (first | exact List.Sublist.refl _ | exact List.nil_sublist _ | refine List.Sublist.cons_cons _ ?_ | refine List.Sublist.cons _ ?_)), ?_⟩
      refine t_each ?_ ?_
      · skip
        refine t_eff rfl (e_call (w_none rfl) rfl rfl Tryd.func54 rfl rfl rfl (keyP (seed := [1]) _ (gat_of (H.blk (g := gn)))) ?_)
        rintro _ W ⟨rfl, hb⟩
        replace H := H.below hb
        clear hb
        refine ⟨_, fun _ h => h, H.sub (by repeat (first | exact List.Sublist.refl _ | exact List.nil_sublist _ | refine List.Sublist.cons_cons _ ?_ | refine List.Sublist.cons _ ?_)), ?_⟩
        refine t_eff rfl (e_bsl (xs := [.const (.int .u8 2)]) (vals := [.int .u8 _]) (vs := [.int .u8 _]) (w_none rfl) rfl rfl rfl rfl rfl rfl tu23 ts5 ty5 rfl rfl rfl H ?_)
        clear H; intro gb W H
        refine ⟨_, fun _ h => h, H.sub (by repeat (first | exact List.Sublist.refl _ | exact List.nil_sublist _ | refine List.Sublist.cons_cons _ ?_ | refine List.Sublist.cons _ ?_)), ?_⟩
        refine t_eff rfl (e_call (w_none rfl) rfl rfl Tryd.func89 rfl rfl rfl (keyedP _ (H.gl hL) (Bs.mk (S := (· = ga)) (l := [1]) (rd_blk (H.blk (g := ga)) rfl) (by decide) (by decide)) (Bs.mk (S := (· = gb)) (l := [2]) (rd_blk (H.blk (g := gb)) rfl) (by decide) (by decide)) (by decide) (by decide)) ?_)
        rintro _ W ⟨rfl, hb⟩
        replace H := H.below hb
        clear hb
        refine ⟨_, fun _ h => h, H.sub (by repeat (first | exact List.Sublist.refl _ | exact List.nil_sublist _ | refine List.Sublist.cons_cons _ ?_ | refine List.Sublist.cons _ ?_)), ?_⟩
        refine t_run rfl (w_none rfl) rfl (fun W H => d_eqarr rfl rfl rfl tu36 tu5 ts5 Sg.len_key (Old.Bl.len_keyed _ _) (by kernel_rfl)) ?_
        refine t_run rfl (w_none rfl) rfl (fun W H => mv_bx (c := true) rfl rfl (by rw [Sg.key_2, beq_self_eq_true])) ?_
        refine t_run rfl (w_g rfl rfl rfl rfl) rfl (fun W H => mv_p rfl rfl) ?_
        refine t_run rfl (w_g rfl rfl rfl rfl) rfl (fun W H => d_ldm0 (g := g2) rfl H rfl ta36 ts36 (by rw [List.length_map, hh])) ?_
        refine t_run rfl (w_g rfl rfl rfl rfl) rfl (fun W H => mv_p rfl rfl) ?_
        refine t_run rfl (w_g rfl rfl rfl rfl) rfl (fun W H => d_ldm0 (g := g2) rfl H rfl ta36 ts36 (by rw [List.length_map, hh])) ?_
        refine t_eff rfl (e_call (w_g rfl rfl rfl rfl) rfl rfl Tryd.func56 rfl rfl rfl (signP (seed := [1]) _ (H.gl hL) (gat_of (H.blk (g := gn))) hh) ?_)
        rintro _ W ⟨rfl, hb⟩
        replace H := H.below hb
        clear hb
        refine ⟨_, fun _ h => h, H.sub (by repeat (first | exact List.Sublist.refl _ | exact List.nil_sublist _ | refine List.Sublist.cons_cons _ ?_ | refine List.Sublist.cons _ ?_)), ?_⟩
        refine t_eff rfl (e_call (w_g rfl rfl rfl rfl) rfl rfl Tryd.func57 rfl rfl rfl (verP (seed := [1]) _ (H.gl hL) (gat_of (H.blk (g := gn))) hh Sg.len_sign) ?_)
        rintro _ W ⟨rfl, hb⟩
        replace H := H.below hb
        clear hb
        refine ⟨_, fun _ h => h, H.sub (by repeat (first | exact List.Sublist.refl _ | exact List.nil_sublist _ | refine List.Sublist.cons_cons _ ?_ | refine List.Sublist.cons _ ?_)), ?_⟩
        refine t_run rfl (w_none rfl) rfl (fun W H => d_pickT rfl rfl rfl) ?_
        refine t_run rfl (w_none rfl) rfl (fun W H => mv_bx (c := true) rfl rfl (by rw [Sg.verify_self]; decide)) ?_
        refine t_run rfl (w_g rfl rfl rfl rfl) rfl (fun W H => mv_p rfl rfl) ?_
        refine t_run rfl (w_g rfl rfl rfl rfl) rfl (fun W H => d_ldm0 (g := g2) rfl H rfl ta36 ts36 (by rw [List.length_map, hh])) ?_
        refine t_run rfl (w_g rfl rfl rfl rfl) rfl (fun W H => d_build (vs := (List.replicate 16 (0 : UInt8)).map u8v) rfl (by kernel_rfl)) ?_
        refine t_eff rfl (e_call (w_g rfl rfl rfl rfl) rfl rfl Tryd.func56 rfl rfl rfl (signP (seed := [1]) _ (H.gl hL) (gat_of (H.blk (g := gn))) hh) ?_)
        rintro _ W ⟨rfl, hb⟩
        replace H := H.below hb
        clear hb
        refine ⟨_, fun _ h => h, H.sub (by repeat (first | exact List.Sublist.refl _ | exact List.nil_sublist _ | refine List.Sublist.cons_cons _ ?_ | refine List.Sublist.cons _ ?_)), ?_⟩
        refine t_run rfl (w_g rfl rfl rfl rfl) rfl (fun W H => d_eqarr rfl rfl rfl tu38 tu5 ts5 (b := (List.replicate 16 (0 : UInt8))) Sg.len_sign (by decide) (by kernel_rfl)) ?_
        refine t_run rfl (w_none rfl) rfl (fun W H => d_pickT rfl rfl rfl) ?_
        refine t_run rfl (w_none rfl) rfl (fun W H => mv_bx (c := true) rfl rfl (by rw [Sg.sign_out (by decide), beq_self_eq_true])) ?_
        refine t_run rfl (w_g rfl rfl rfl rfl) rfl (fun W H => mv_p rfl rfl) ?_
        refine t_run rfl (w_g rfl rfl rfl rfl) rfl (fun W H => d_ldm0 (g := g2) rfl H rfl ta36 ts36 (by rw [List.length_map, hh])) ?_
        refine t_run rfl (w_g rfl rfl rfl rfl) rfl (fun W H => d_build (vs := (List.replicate 16 (0 : UInt8)).map u8v) rfl (by kernel_rfl)) ?_
        refine t_eff rfl (e_call (w_g rfl rfl rfl rfl) rfl rfl Tryd.func57 rfl rfl rfl (verP (seed := [1]) (t := (List.replicate 16 (0 : UInt8))) _ (H.gl hL) (gat_of (H.blk (g := gn))) hh (by decide)) ?_)
        rintro _ W ⟨rfl, hb⟩
        replace H := H.below hb
        clear hb
        refine ⟨_, fun _ h => h, H.sub (by repeat (first | exact List.Sublist.refl _ | exact List.nil_sublist _ | refine List.Sublist.cons_cons _ ?_ | refine List.Sublist.cons _ ?_)), ?_⟩
        refine t_run rfl (w_g rfl rfl rfl rfl) rfl (fun W H => d_not rfl rfl) ?_
        refine t_run rfl (w_none rfl) rfl (fun W H => d_pickT rfl rfl rfl) ?_
        refine t_run rfl (w_none rfl) rfl (fun W H => mv_bx (c := true) rfl rfl (by rw [Sg.ver_out (by decide)]; rfl)) ?_
        refine t_run rfl (w_g rfl rfl rfl rfl) rfl (fun W H => mv_p rfl rfl) ?_
        refine t_run rfl (w_g rfl rfl rfl rfl) rfl (fun W H => d_ldm0 (g := g2) rfl H rfl ta36 ts36 (by rw [List.length_map, hh])) ?_
        refine t_run rfl (w_g rfl rfl rfl rfl) rfl (fun W H => d_build (vs := (List.replicate 16 (0 : UInt8)).map u8v) rfl (by kernel_rfl)) ?_
        refine t_eff rfl (e_call (w_g rfl rfl rfl rfl) rfl rfl Tryd.func57 rfl rfl rfl (verP (seed := [1]) (t := (List.replicate 16 (0 : UInt8))) _ (H.gl hL) (gat_of (H.blk (g := gn))) hh (by decide)) ?_)
        rintro _ W ⟨rfl, hb⟩
        replace H := H.below hb
        clear hb
        refine ⟨_, fun _ h => h, H.sub (by repeat (first | exact List.Sublist.refl _ | exact List.nil_sublist _ | refine List.Sublist.cons_cons _ ?_ | refine List.Sublist.cons _ ?_)), ?_⟩
        refine t_run rfl (w_g rfl rfl rfl rfl) rfl (fun W H => d_not rfl rfl) ?_
        refine t_run rfl (w_none rfl) rfl (fun W H => d_pickT rfl rfl rfl) ?_
        refine t_run rfl (w_none rfl) rfl (fun W H => as_b rfl rfl) ?_
        refine t_nil ?_
        refine k_nil ?_
        refine n_then ?_
        refine ⟨_, _, rfl, ?_, ?_, ⟨rfl, (H.sub (List.nil_sublist _))⟩⟩
        · repeat (first | (with_reducible exact Eqo.refl) | ((with_reducible refine Eqo.updl _ (Eqo.ovr2 ?_ ?_) ?_); rotate_left; exact rfl; exact rfl) | ((with_reducible refine Eqo.upd ?_ ?_); rotate_left; exact rfl))
        · refine ⟨?_, trivial⟩
          · exact vb (by rw [Sg.ver_out (by decide)]; rfl)
      refine t_each ?_ ?_
      · skip
        refine t_eff rfl (e_bsl (xs := [.const (.int .u8 2)]) (vals := [.int .u8 _]) (vs := [.int .u8 _]) (w_none rfl) rfl rfl rfl rfl rfl rfl tu23 ts5 ty5 rfl rfl rfl H ?_)
        clear H; intro gb W H
        refine ⟨_, fun _ h => h, H.sub (by repeat (first | exact List.Sublist.refl _ | exact List.nil_sublist _ | refine List.Sublist.cons_cons _ ?_ | refine List.Sublist.cons _ ?_)), ?_⟩
        refine t_eff rfl (e_call (w_none rfl) rfl rfl Tryd.func54 rfl rfl rfl (keyP (seed := [1]) _ (gat_of (H.blk (g := gn)))) ?_)
        rintro _ W ⟨rfl, hb⟩
        replace H := H.below hb
        clear hb
        refine ⟨_, fun _ h => h, H.sub (by repeat (first | exact List.Sublist.refl _ | exact List.nil_sublist _ | refine List.Sublist.cons_cons _ ?_ | refine List.Sublist.cons _ ?_)), ?_⟩
        refine t_eff rfl (e_call (w_none rfl) rfl rfl Tryd.func89 rfl rfl rfl (keyedP _ (H.gl hL) (Bs.mk (S := (· = ga)) (l := [1]) (rd_blk (H.blk (g := ga)) rfl) (by decide) (by decide)) (Bs.mk (S := (· = gb)) (l := [2]) (rd_blk (H.blk (g := gb)) rfl) (by decide) (by decide)) (by decide) (by decide)) ?_)
        rintro _ W ⟨rfl, hb⟩
        replace H := H.below hb
        clear hb
        refine ⟨_, fun _ h => h, H.sub (by repeat (first | exact List.Sublist.refl _ | exact List.nil_sublist _ | refine List.Sublist.cons_cons _ ?_ | refine List.Sublist.cons _ ?_)), ?_⟩
        refine t_run rfl (w_none rfl) rfl (fun W H => d_eqarr rfl rfl rfl tu36 tu5 ts5 Sg.len_key (Old.Bl.len_keyed _ _) (by kernel_rfl)) ?_
        refine t_run rfl (w_none rfl) rfl (fun W H => mv_bx (c := true) rfl rfl (by rw [Sg.key_2, beq_self_eq_true])) ?_
        refine t_run rfl (w_g rfl rfl rfl rfl) rfl (fun W H => mv_p rfl rfl) ?_
        refine t_run rfl (w_g rfl rfl rfl rfl) rfl (fun W H => d_ldm0 (g := g2) rfl H rfl ta36 ts36 (by rw [List.length_map, hh])) ?_
        refine t_run rfl (w_g rfl rfl rfl rfl) rfl (fun W H => mv_p rfl rfl) ?_
        refine t_run rfl (w_g rfl rfl rfl rfl) rfl (fun W H => d_ldm0 (g := g2) rfl H rfl ta36 ts36 (by rw [List.length_map, hh])) ?_
        refine t_eff rfl (e_call (w_g rfl rfl rfl rfl) rfl rfl Tryd.func56 rfl rfl rfl (signP (seed := [1]) _ (H.gl hL) (gat_of (H.blk (g := gn))) hh) ?_)
        rintro _ W ⟨rfl, hb⟩
        replace H := H.below hb
        clear hb
        refine ⟨_, fun _ h => h, H.sub (by repeat (first | exact List.Sublist.refl _ | exact List.nil_sublist _ | refine List.Sublist.cons_cons _ ?_ | refine List.Sublist.cons _ ?_)), ?_⟩
        refine t_eff rfl (e_call (w_g rfl rfl rfl rfl) rfl rfl Tryd.func57 rfl rfl rfl (verP (seed := [1]) _ (H.gl hL) (gat_of (H.blk (g := gn))) hh Sg.len_sign) ?_)
        rintro _ W ⟨rfl, hb⟩
        replace H := H.below hb
        clear hb
        refine ⟨_, fun _ h => h, H.sub (by repeat (first | exact List.Sublist.refl _ | exact List.nil_sublist _ | refine List.Sublist.cons_cons _ ?_ | refine List.Sublist.cons _ ?_)), ?_⟩
        refine t_run rfl (w_none rfl) rfl (fun W H => d_pickT rfl rfl rfl) ?_
        refine t_run rfl (w_none rfl) rfl (fun W H => mv_bx (c := true) rfl rfl (by rw [Sg.verify_self]; decide)) ?_
        refine t_run rfl (w_g rfl rfl rfl rfl) rfl (fun W H => mv_p rfl rfl) ?_
        refine t_run rfl (w_g rfl rfl rfl rfl) rfl (fun W H => d_ldm0 (g := g2) rfl H rfl ta36 ts36 (by rw [List.length_map, hh])) ?_
        refine t_run rfl (w_g rfl rfl rfl rfl) rfl (fun W H => d_build (vs := (List.replicate 16 (0 : UInt8)).map u8v) rfl (by kernel_rfl)) ?_
        refine t_eff rfl (e_call (w_g rfl rfl rfl rfl) rfl rfl Tryd.func56 rfl rfl rfl (signP (seed := [1]) _ (H.gl hL) (gat_of (H.blk (g := gn))) hh) ?_)
        rintro _ W ⟨rfl, hb⟩
        replace H := H.below hb
        clear hb
        refine ⟨_, fun _ h => h, H.sub (by repeat (first | exact List.Sublist.refl _ | exact List.nil_sublist _ | refine List.Sublist.cons_cons _ ?_ | refine List.Sublist.cons _ ?_)), ?_⟩
        refine t_run rfl (w_g rfl rfl rfl rfl) rfl (fun W H => d_eqarr rfl rfl rfl tu38 tu5 ts5 (b := (List.replicate 16 (0 : UInt8))) Sg.len_sign (by decide) (by kernel_rfl)) ?_
        refine t_run rfl (w_none rfl) rfl (fun W H => d_pickT rfl rfl rfl) ?_
        refine t_run rfl (w_none rfl) rfl (fun W H => mv_bx (c := true) rfl rfl (by rw [Sg.sign_out (by decide), beq_self_eq_true])) ?_
        refine t_run rfl (w_g rfl rfl rfl rfl) rfl (fun W H => mv_p rfl rfl) ?_
        refine t_run rfl (w_g rfl rfl rfl rfl) rfl (fun W H => d_ldm0 (g := g2) rfl H rfl ta36 ts36 (by rw [List.length_map, hh])) ?_
        refine t_run rfl (w_g rfl rfl rfl rfl) rfl (fun W H => d_build (vs := (List.replicate 16 (0 : UInt8)).map u8v) rfl (by kernel_rfl)) ?_
        refine t_eff rfl (e_call (w_g rfl rfl rfl rfl) rfl rfl Tryd.func57 rfl rfl rfl (verP (seed := [1]) (t := (List.replicate 16 (0 : UInt8))) _ (H.gl hL) (gat_of (H.blk (g := gn))) hh (by decide)) ?_)
        rintro _ W ⟨rfl, hb⟩
        replace H := H.below hb
        clear hb
        refine ⟨_, fun _ h => h, H.sub (by repeat (first | exact List.Sublist.refl _ | exact List.nil_sublist _ | refine List.Sublist.cons_cons _ ?_ | refine List.Sublist.cons _ ?_)), ?_⟩
        refine t_run rfl (w_g rfl rfl rfl rfl) rfl (fun W H => d_not rfl rfl) ?_
        refine t_run rfl (w_none rfl) rfl (fun W H => d_pickT rfl rfl rfl) ?_
        refine t_run rfl (w_none rfl) rfl (fun W H => mv_bx (c := true) rfl rfl (by rw [Sg.ver_out (by decide)]; rfl)) ?_
        refine t_run rfl (w_g rfl rfl rfl rfl) rfl (fun W H => mv_p rfl rfl) ?_
        refine t_run rfl (w_g rfl rfl rfl rfl) rfl (fun W H => d_ldm0 (g := g2) rfl H rfl ta36 ts36 (by rw [List.length_map, hh])) ?_
        refine t_run rfl (w_g rfl rfl rfl rfl) rfl (fun W H => d_build (vs := (List.replicate 16 (0 : UInt8)).map u8v) rfl (by kernel_rfl)) ?_
        refine t_eff rfl (e_call (w_g rfl rfl rfl rfl) rfl rfl Tryd.func57 rfl rfl rfl (verP (seed := [1]) (t := (List.replicate 16 (0 : UInt8))) _ (H.gl hL) (gat_of (H.blk (g := gn))) hh (by decide)) ?_)
        rintro _ W ⟨rfl, hb⟩
        replace H := H.below hb
        clear hb
        refine ⟨_, fun _ h => h, H.sub (by repeat (first | exact List.Sublist.refl _ | exact List.nil_sublist _ | refine List.Sublist.cons_cons _ ?_ | refine List.Sublist.cons _ ?_)), ?_⟩
        refine t_run rfl (w_g rfl rfl rfl rfl) rfl (fun W H => d_not rfl rfl) ?_
        refine t_run rfl (w_none rfl) rfl (fun W H => d_pickT rfl rfl rfl) ?_
        refine t_run rfl (w_none rfl) rfl (fun W H => as_b rfl rfl) ?_
        refine t_nil ?_
        refine k_nil ?_
        refine n_then ?_
        refine ⟨_, _, rfl, ?_, ?_, ⟨rfl, (H.sub (List.nil_sublist _))⟩⟩
        · repeat (first | (with_reducible exact Eqo.refl) | ((with_reducible refine Eqo.updl _ (Eqo.ovr2 ?_ ?_) ?_); rotate_left; exact rfl; exact rfl) | ((with_reducible refine Eqo.upd ?_ ?_); rotate_left; exact rfl))
        · refine ⟨?_, trivial⟩
          · exact vb (by rw [Sg.ver_out (by decide)]; rfl)
      exact t_none
    refine t_each ?_ ?_
    · skip
      refine t_eff rfl (e_bsl (xs := [.const (.int .u8 2)]) (vals := [.int .u8 _]) (vs := [.int .u8 _]) (w_none rfl) rfl rfl rfl rfl rfl rfl tu23 ts5 ty5 rfl rfl rfl H ?_)
      clear H; intro gb W H
      refine ⟨_, fun _ h => h, H.sub (by repeat (first | exact List.Sublist.refl _ | exact List.nil_sublist _ | refine List.Sublist.cons_cons _ ?_ | refine List.Sublist.cons _ ?_)), ?_⟩
      refine t_each ?_ ?_
      · skip
        refine t_eff rfl (e_call (w_none rfl) rfl rfl Tryd.func54 rfl rfl rfl (keyP (seed := [1]) _ (gat_of (H.blk (g := gn)))) ?_)
        rintro _ W ⟨rfl, hb⟩
        replace H := H.below hb
        clear hb
        refine ⟨_, fun _ h => h, H.sub (by repeat (first | exact List.Sublist.refl _ | exact List.nil_sublist _ | refine List.Sublist.cons_cons _ ?_ | refine List.Sublist.cons _ ?_)), ?_⟩
        refine t_eff rfl (e_bsl (xs := [.const (.int .u8 1)]) (vals := [.int .u8 _]) (vs := [.int .u8 _]) (w_none rfl) rfl rfl rfl rfl rfl rfl tu23 ts5 ty5 rfl rfl rfl H ?_)
        clear H; intro ga W H
        refine ⟨_, fun _ h => h, H.sub (by repeat (first | exact List.Sublist.refl _ | exact List.nil_sublist _ | refine List.Sublist.cons_cons _ ?_ | refine List.Sublist.cons _ ?_)), ?_⟩
        refine t_eff rfl (e_call (w_none rfl) rfl rfl Tryd.func89 rfl rfl rfl (keyedP _ (H.gl hL) (Bs.mk (S := (· = ga)) (l := [1]) (rd_blk (H.blk (g := ga)) rfl) (by decide) (by decide)) (Bs.mk (S := (· = gb)) (l := [2]) (rd_blk (H.blk (g := gb)) rfl) (by decide) (by decide)) (by decide) (by decide)) ?_)
        rintro _ W ⟨rfl, hb⟩
        replace H := H.below hb
        clear hb
        refine ⟨_, fun _ h => h, H.sub (by repeat (first | exact List.Sublist.refl _ | exact List.nil_sublist _ | refine List.Sublist.cons_cons _ ?_ | refine List.Sublist.cons _ ?_)), ?_⟩
        refine t_run rfl (w_none rfl) rfl (fun W H => d_eqarr rfl rfl rfl tu36 tu5 ts5 Sg.len_key (Old.Bl.len_keyed _ _) (by kernel_rfl)) ?_
        refine t_run rfl (w_none rfl) rfl (fun W H => mv_bx (c := true) rfl rfl (by rw [Sg.key_2, beq_self_eq_true])) ?_
        refine t_run rfl (w_g rfl rfl rfl rfl) rfl (fun W H => mv_p rfl rfl) ?_
        refine t_run rfl (w_g rfl rfl rfl rfl) rfl (fun W H => d_ldm0 (g := g2) rfl H rfl ta36 ts36 (by rw [List.length_map, hh])) ?_
        refine t_run rfl (w_g rfl rfl rfl rfl) rfl (fun W H => mv_p rfl rfl) ?_
        refine t_run rfl (w_g rfl rfl rfl rfl) rfl (fun W H => d_ldm0 (g := g2) rfl H rfl ta36 ts36 (by rw [List.length_map, hh])) ?_
        refine t_eff rfl (e_call (w_g rfl rfl rfl rfl) rfl rfl Tryd.func56 rfl rfl rfl (signP (seed := [1]) _ (H.gl hL) (gat_of (H.blk (g := gn))) hh) ?_)
        rintro _ W ⟨rfl, hb⟩
        replace H := H.below hb
        clear hb
        refine ⟨_, fun _ h => h, H.sub (by repeat (first | exact List.Sublist.refl _ | exact List.nil_sublist _ | refine List.Sublist.cons_cons _ ?_ | refine List.Sublist.cons _ ?_)), ?_⟩
        refine t_eff rfl (e_call (w_g rfl rfl rfl rfl) rfl rfl Tryd.func57 rfl rfl rfl (verP (seed := [1]) _ (H.gl hL) (gat_of (H.blk (g := gn))) hh Sg.len_sign) ?_)
        rintro _ W ⟨rfl, hb⟩
        replace H := H.below hb
        clear hb
        refine ⟨_, fun _ h => h, H.sub (by repeat (first | exact List.Sublist.refl _ | exact List.nil_sublist _ | refine List.Sublist.cons_cons _ ?_ | refine List.Sublist.cons _ ?_)), ?_⟩
        refine t_run rfl (w_none rfl) rfl (fun W H => d_pickT rfl rfl rfl) ?_
        refine t_run rfl (w_none rfl) rfl (fun W H => mv_bx (c := true) rfl rfl (by rw [Sg.verify_self]; decide)) ?_
        refine t_run rfl (w_g rfl rfl rfl rfl) rfl (fun W H => mv_p rfl rfl) ?_
        refine t_run rfl (w_g rfl rfl rfl rfl) rfl (fun W H => d_ldm0 (g := g2) rfl H rfl ta36 ts36 (by rw [List.length_map, hh])) ?_
        refine t_run rfl (w_g rfl rfl rfl rfl) rfl (fun W H => d_build (vs := (List.replicate 16 (0 : UInt8)).map u8v) rfl (by kernel_rfl)) ?_
        refine t_eff rfl (e_call (w_g rfl rfl rfl rfl) rfl rfl Tryd.func56 rfl rfl rfl (signP (seed := [1]) _ (H.gl hL) (gat_of (H.blk (g := gn))) hh) ?_)
        rintro _ W ⟨rfl, hb⟩
        replace H := H.below hb
        clear hb
        refine ⟨_, fun _ h => h, H.sub (by repeat (first | exact List.Sublist.refl _ | exact List.nil_sublist _ | refine List.Sublist.cons_cons _ ?_ | refine List.Sublist.cons _ ?_)), ?_⟩
        refine t_run rfl (w_g rfl rfl rfl rfl) rfl (fun W H => d_eqarr rfl rfl rfl tu38 tu5 ts5 (b := (List.replicate 16 (0 : UInt8))) Sg.len_sign (by decide) (by kernel_rfl)) ?_
        refine t_run rfl (w_none rfl) rfl (fun W H => d_pickT rfl rfl rfl) ?_
        refine t_run rfl (w_none rfl) rfl (fun W H => mv_bx (c := true) rfl rfl (by rw [Sg.sign_out (by decide), beq_self_eq_true])) ?_
        refine t_run rfl (w_g rfl rfl rfl rfl) rfl (fun W H => mv_p rfl rfl) ?_
        refine t_run rfl (w_g rfl rfl rfl rfl) rfl (fun W H => d_ldm0 (g := g2) rfl H rfl ta36 ts36 (by rw [List.length_map, hh])) ?_
        refine t_run rfl (w_g rfl rfl rfl rfl) rfl (fun W H => d_build (vs := (List.replicate 16 (0 : UInt8)).map u8v) rfl (by kernel_rfl)) ?_
        refine t_eff rfl (e_call (w_g rfl rfl rfl rfl) rfl rfl Tryd.func57 rfl rfl rfl (verP (seed := [1]) (t := (List.replicate 16 (0 : UInt8))) _ (H.gl hL) (gat_of (H.blk (g := gn))) hh (by decide)) ?_)
        rintro _ W ⟨rfl, hb⟩
        replace H := H.below hb
        clear hb
        refine ⟨_, fun _ h => h, H.sub (by repeat (first | exact List.Sublist.refl _ | exact List.nil_sublist _ | refine List.Sublist.cons_cons _ ?_ | refine List.Sublist.cons _ ?_)), ?_⟩
        refine t_run rfl (w_g rfl rfl rfl rfl) rfl (fun W H => d_not rfl rfl) ?_
        refine t_run rfl (w_none rfl) rfl (fun W H => d_pickT rfl rfl rfl) ?_
        refine t_run rfl (w_none rfl) rfl (fun W H => mv_bx (c := true) rfl rfl (by rw [Sg.ver_out (by decide)]; rfl)) ?_
        refine t_run rfl (w_g rfl rfl rfl rfl) rfl (fun W H => mv_p rfl rfl) ?_
        refine t_run rfl (w_g rfl rfl rfl rfl) rfl (fun W H => d_ldm0 (g := g2) rfl H rfl ta36 ts36 (by rw [List.length_map, hh])) ?_
        refine t_run rfl (w_g rfl rfl rfl rfl) rfl (fun W H => d_build (vs := (List.replicate 16 (0 : UInt8)).map u8v) rfl (by kernel_rfl)) ?_
        refine t_eff rfl (e_call (w_g rfl rfl rfl rfl) rfl rfl Tryd.func57 rfl rfl rfl (verP (seed := [1]) (t := (List.replicate 16 (0 : UInt8))) _ (H.gl hL) (gat_of (H.blk (g := gn))) hh (by decide)) ?_)
        rintro _ W ⟨rfl, hb⟩
        replace H := H.below hb
        clear hb
        refine ⟨_, fun _ h => h, H.sub (by repeat (first | exact List.Sublist.refl _ | exact List.nil_sublist _ | refine List.Sublist.cons_cons _ ?_ | refine List.Sublist.cons _ ?_)), ?_⟩
        refine t_run rfl (w_g rfl rfl rfl rfl) rfl (fun W H => d_not rfl rfl) ?_
        refine t_run rfl (w_none rfl) rfl (fun W H => d_pickT rfl rfl rfl) ?_
        refine t_run rfl (w_none rfl) rfl (fun W H => as_b rfl rfl) ?_
        refine t_nil ?_
        refine k_nil ?_
        refine n_then ?_
        refine ⟨_, _, rfl, ?_, ?_, ⟨rfl, (H.sub (List.nil_sublist _))⟩⟩
        · repeat (first | (with_reducible exact Eqo.refl) | ((with_reducible refine Eqo.updl _ (Eqo.ovr2 ?_ ?_) ?_); rotate_left; exact rfl; exact rfl) | ((with_reducible refine Eqo.upd ?_ ?_); rotate_left; exact rfl))
        · refine ⟨?_, trivial⟩
          · exact vb (by rw [Sg.ver_out (by decide)]; rfl)
      refine t_each ?_ ?_
      · skip
        refine t_eff rfl (e_bsl (xs := [.const (.int .u8 1)]) (vals := [.int .u8 _]) (vs := [.int .u8 _]) (w_none rfl) rfl rfl rfl rfl rfl rfl tu23 ts5 ty5 rfl rfl rfl H ?_)
        clear H; intro ga W H
        refine ⟨_, fun _ h => h, H.sub (by repeat (first | exact List.Sublist.refl _ | exact List.nil_sublist _ | refine List.Sublist.cons_cons _ ?_ | refine List.Sublist.cons _ ?_)), ?_⟩
        refine t_eff rfl (e_call (w_none rfl) rfl rfl Tryd.func54 rfl rfl rfl (keyP (seed := [1]) _ (gat_of (H.blk (g := gn)))) ?_)
        rintro _ W ⟨rfl, hb⟩
        replace H := H.below hb
        clear hb
        refine ⟨_, fun _ h => h, H.sub (by repeat (first | exact List.Sublist.refl _ | exact List.nil_sublist _ | refine List.Sublist.cons_cons _ ?_ | refine List.Sublist.cons _ ?_)), ?_⟩
        refine t_eff rfl (e_call (w_none rfl) rfl rfl Tryd.func89 rfl rfl rfl (keyedP _ (H.gl hL) (Bs.mk (S := (· = ga)) (l := [1]) (rd_blk (H.blk (g := ga)) rfl) (by decide) (by decide)) (Bs.mk (S := (· = gb)) (l := [2]) (rd_blk (H.blk (g := gb)) rfl) (by decide) (by decide)) (by decide) (by decide)) ?_)
        rintro _ W ⟨rfl, hb⟩
        replace H := H.below hb
        clear hb
        refine ⟨_, fun _ h => h, H.sub (by repeat (first | exact List.Sublist.refl _ | exact List.nil_sublist _ | refine List.Sublist.cons_cons _ ?_ | refine List.Sublist.cons _ ?_)), ?_⟩
        refine t_run rfl (w_none rfl) rfl (fun W H => d_eqarr rfl rfl rfl tu36 tu5 ts5 Sg.len_key (Old.Bl.len_keyed _ _) (by kernel_rfl)) ?_
        refine t_run rfl (w_none rfl) rfl (fun W H => mv_bx (c := true) rfl rfl (by rw [Sg.key_2, beq_self_eq_true])) ?_
        refine t_run rfl (w_g rfl rfl rfl rfl) rfl (fun W H => mv_p rfl rfl) ?_
        refine t_run rfl (w_g rfl rfl rfl rfl) rfl (fun W H => d_ldm0 (g := g2) rfl H rfl ta36 ts36 (by rw [List.length_map, hh])) ?_
        refine t_run rfl (w_g rfl rfl rfl rfl) rfl (fun W H => mv_p rfl rfl) ?_
        refine t_run rfl (w_g rfl rfl rfl rfl) rfl (fun W H => d_ldm0 (g := g2) rfl H rfl ta36 ts36 (by rw [List.length_map, hh])) ?_
        refine t_eff rfl (e_call (w_g rfl rfl rfl rfl) rfl rfl Tryd.func56 rfl rfl rfl (signP (seed := [1]) _ (H.gl hL) (gat_of (H.blk (g := gn))) hh) ?_)
        rintro _ W ⟨rfl, hb⟩
        replace H := H.below hb
        clear hb
        refine ⟨_, fun _ h => h, H.sub (by repeat (first | exact List.Sublist.refl _ | exact List.nil_sublist _ | refine List.Sublist.cons_cons _ ?_ | refine List.Sublist.cons _ ?_)), ?_⟩
        refine t_eff rfl (e_call (w_g rfl rfl rfl rfl) rfl rfl Tryd.func57 rfl rfl rfl (verP (seed := [1]) _ (H.gl hL) (gat_of (H.blk (g := gn))) hh Sg.len_sign) ?_)
        rintro _ W ⟨rfl, hb⟩
        replace H := H.below hb
        clear hb
        refine ⟨_, fun _ h => h, H.sub (by repeat (first | exact List.Sublist.refl _ | exact List.nil_sublist _ | refine List.Sublist.cons_cons _ ?_ | refine List.Sublist.cons _ ?_)), ?_⟩
        refine t_run rfl (w_none rfl) rfl (fun W H => d_pickT rfl rfl rfl) ?_
        refine t_run rfl (w_none rfl) rfl (fun W H => mv_bx (c := true) rfl rfl (by rw [Sg.verify_self]; decide)) ?_
        refine t_run rfl (w_g rfl rfl rfl rfl) rfl (fun W H => mv_p rfl rfl) ?_
        refine t_run rfl (w_g rfl rfl rfl rfl) rfl (fun W H => d_ldm0 (g := g2) rfl H rfl ta36 ts36 (by rw [List.length_map, hh])) ?_
        refine t_run rfl (w_g rfl rfl rfl rfl) rfl (fun W H => d_build (vs := (List.replicate 16 (0 : UInt8)).map u8v) rfl (by kernel_rfl)) ?_
        refine t_eff rfl (e_call (w_g rfl rfl rfl rfl) rfl rfl Tryd.func56 rfl rfl rfl (signP (seed := [1]) _ (H.gl hL) (gat_of (H.blk (g := gn))) hh) ?_)
        rintro _ W ⟨rfl, hb⟩
        replace H := H.below hb
        clear hb
        refine ⟨_, fun _ h => h, H.sub (by repeat (first | exact List.Sublist.refl _ | exact List.nil_sublist _ | refine List.Sublist.cons_cons _ ?_ | refine List.Sublist.cons _ ?_)), ?_⟩
        refine t_run rfl (w_g rfl rfl rfl rfl) rfl (fun W H => d_eqarr rfl rfl rfl tu38 tu5 ts5 (b := (List.replicate 16 (0 : UInt8))) Sg.len_sign (by decide) (by kernel_rfl)) ?_
        refine t_run rfl (w_none rfl) rfl (fun W H => d_pickT rfl rfl rfl) ?_
        refine t_run rfl (w_none rfl) rfl (fun W H => mv_bx (c := true) rfl rfl (by rw [Sg.sign_out (by decide), beq_self_eq_true])) ?_
        refine t_run rfl (w_g rfl rfl rfl rfl) rfl (fun W H => mv_p rfl rfl) ?_
        refine t_run rfl (w_g rfl rfl rfl rfl) rfl (fun W H => d_ldm0 (g := g2) rfl H rfl ta36 ts36 (by rw [List.length_map, hh])) ?_
        refine t_run rfl (w_g rfl rfl rfl rfl) rfl (fun W H => d_build (vs := (List.replicate 16 (0 : UInt8)).map u8v) rfl (by kernel_rfl)) ?_
        refine t_eff rfl (e_call (w_g rfl rfl rfl rfl) rfl rfl Tryd.func57 rfl rfl rfl (verP (seed := [1]) (t := (List.replicate 16 (0 : UInt8))) _ (H.gl hL) (gat_of (H.blk (g := gn))) hh (by decide)) ?_)
        rintro _ W ⟨rfl, hb⟩
        replace H := H.below hb
        clear hb
        refine ⟨_, fun _ h => h, H.sub (by repeat (first | exact List.Sublist.refl _ | exact List.nil_sublist _ | refine List.Sublist.cons_cons _ ?_ | refine List.Sublist.cons _ ?_)), ?_⟩
        refine t_run rfl (w_g rfl rfl rfl rfl) rfl (fun W H => d_not rfl rfl) ?_
        refine t_run rfl (w_none rfl) rfl (fun W H => d_pickT rfl rfl rfl) ?_
        refine t_run rfl (w_none rfl) rfl (fun W H => mv_bx (c := true) rfl rfl (by rw [Sg.ver_out (by decide)]; rfl)) ?_
        refine t_run rfl (w_g rfl rfl rfl rfl) rfl (fun W H => mv_p rfl rfl) ?_
        refine t_run rfl (w_g rfl rfl rfl rfl) rfl (fun W H => d_ldm0 (g := g2) rfl H rfl ta36 ts36 (by rw [List.length_map, hh])) ?_
        refine t_run rfl (w_g rfl rfl rfl rfl) rfl (fun W H => d_build (vs := (List.replicate 16 (0 : UInt8)).map u8v) rfl (by kernel_rfl)) ?_
        refine t_eff rfl (e_call (w_g rfl rfl rfl rfl) rfl rfl Tryd.func57 rfl rfl rfl (verP (seed := [1]) (t := (List.replicate 16 (0 : UInt8))) _ (H.gl hL) (gat_of (H.blk (g := gn))) hh (by decide)) ?_)
        rintro _ W ⟨rfl, hb⟩
        replace H := H.below hb
        clear hb
        refine ⟨_, fun _ h => h, H.sub (by repeat (first | exact List.Sublist.refl _ | exact List.nil_sublist _ | refine List.Sublist.cons_cons _ ?_ | refine List.Sublist.cons _ ?_)), ?_⟩
        refine t_run rfl (w_g rfl rfl rfl rfl) rfl (fun W H => d_not rfl rfl) ?_
        refine t_run rfl (w_none rfl) rfl (fun W H => d_pickT rfl rfl rfl) ?_
        refine t_run rfl (w_none rfl) rfl (fun W H => as_b rfl rfl) ?_
        refine t_nil ?_
        refine k_nil ?_
        refine n_then ?_
        refine ⟨_, _, rfl, ?_, ?_, ⟨rfl, (H.sub (List.nil_sublist _))⟩⟩
        · repeat (first | (with_reducible exact Eqo.refl) | ((with_reducible refine Eqo.updl _ (Eqo.ovr2 ?_ ?_) ?_); rotate_left; exact rfl; exact rfl) | ((with_reducible refine Eqo.upd ?_ ?_); rotate_left; exact rfl))
        · refine ⟨?_, trivial⟩
          · exact vb (by rw [Sg.ver_out (by decide)]; rfl)
      exact t_none
    exact t_none
  clear H; obtain ⟨rfl, H⟩ := hJ
  refine k_ret ?_
  repeat (first | refine r_then ?_ | refine r_blk ?_)
  exact q_ret (v := .bool _) rfl rfl ⟨_, rfl, rfl, H.under⟩

set_option maxHeartbeats 4000000 in
theorem signAnswersA {S : Nat → Prop} {v : Value} {seed h t : List UInt8} {o : Int} (w : World) (hG : Gat w 0 formsC) (hL : Old.Gl w) (hs : Bs w S v seed) (hh : h.length = 32) (ht : t.length = 16) (hm : 4096 < seed.length) : Calls Tryd.prog 10 [v, .int .i64 o, .agg (h.map u8v).toArray, .agg (t.map u8v).toArray].toArray w (Ret (Is w (.bool true))) := by
  have hs0 := hs
  obtain ⟨A, c, rfl, _, _, _⟩ := hs.op
  refine k_enter (l := [_, _, _, _]) Tryd.func10 rfl rfl ?_
  have H := St.start nT w
  refine k_seq ?_
  refine k_region ?_
  refine s_eff (e_box (vs := (h.map u8v)) (w_none rfl) rfl rfl rfl rfl H ?_)
  clear H; intro g6 W H
  refine s_eff (e_box (vs := (t.map u8v)) (w_none rfl) rfl rfl rfl rfl H ?_)
  clear H; intro g7 W H
  refine s_run (w_none rfl) rfl (as_b rfl rfl) ?_
  refine l_nil ?_
  refine k_seq ?_
  refine k_seq ?_
  refine k_region ?_
  refine s_run (w_none rfl) rfl (mv_s rfl rfl) ?_
  refine s_run (w_none rfl) rfl (d_len rfl rfl tu23) ?_
  refine s_run (w_none rfl) rfl (d_gt rfl rfl rfl) ?_
  refine l_nil ?_
  refine k_condT rfl (by simp; omega) ?_
  refine k_seq ?_
  refine k_region ?_
  refine s_eff (e_call (w_none rfl) rfl rfl Tryd.func50 rfl rfl rfl (works05 _ (H.gat hG) (H.gl hL)) ?_)
  rintro _ W ⟨rfl, hb⟩
  replace H := H.below hb
  clear hb
  refine s_run (w_none rfl) rfl (as_b rfl rfl) ?_
  refine l_nil ?_
  refine k_ret ?_
  repeat (first | refine r_then ?_ | refine r_blk ?_)
  exact q_ret (v := .bool _) rfl rfl ⟨_, rfl, rfl, H.under⟩

set_option maxHeartbeats 4000000 in
theorem signAnswersB {S : Nat → Prop} {v : Value} {seed h t : List UInt8} {o : Int} (w : World) (hG : Gat w 0 formsC) (hL : Old.Gl w) (hs : Bs w S v seed) (hh : h.length = 32) (ht : t.length = 16) (hm : seed.length ≤ 4096) : Calls Tryd.prog 10 [v, .int .i64 o, .agg (h.map u8v).toArray, .agg (t.map u8v).toArray].toArray w (Ret (Is w (.bool true))) := by
  have hs0 := hs
  obtain ⟨A, c, rfl, _, _, _⟩ := hs.op
  refine k_enter (l := [_, _, _, _]) Tryd.func10 rfl rfl ?_
  have H := St.start nT w
  refine k_seq ?_
  refine k_region ?_
  refine s_eff (e_box (vs := (h.map u8v)) (w_none rfl) rfl rfl rfl rfl H ?_)
  clear H; intro g6 W H
  refine s_eff (e_box (vs := (t.map u8v)) (w_none rfl) rfl rfl rfl rfl H ?_)
  clear H; intro g7 W H
  refine s_run (w_none rfl) rfl (as_b rfl rfl) ?_
  refine l_nil ?_
  refine k_seq ?_
  refine k_seq ?_
  refine k_region ?_
  refine s_run (w_none rfl) rfl (mv_s rfl rfl) ?_
  refine s_run (w_none rfl) rfl (d_len rfl rfl tu23) ?_
  refine s_run (w_none rfl) rfl (d_gt rfl rfl rfl) ?_
  refine l_nil ?_
  refine k_condF rfl (by simp; omega) ?_
  refine k_skip ?_
  refine k_seq ?_
  refine k_region ?_
  refine s_run (w_none rfl) rfl (mv_s rfl rfl) ?_
  refine s_eff (e_call (w_none rfl) rfl rfl Tryd.func24 rfl rfl rfl (lentBytes _ _ _ (H.bs hs0) (by omega)) ?_)
  rintro _ W ⟨A1, c1, rfl, hc1, hd1, hn⟩
  replace H := H.new hn
  clear hn
  refine s_run (w_none rfl) rfl (as_s rfl rfl) ?_
  refine l_nil ?_
  refine k_seq ?_
  refine k_region ?_
  refine s_run (w_none rfl) rfl (mv_s rfl rfl) ?_
  refine s_run (w_none rfl) rfl (mv_s rfl rfl) ?_
  refine s_run (w_none rfl) rfl (d_len rfl rfl tu23) ?_
  refine s_run (w_none rfl) rfl (d_cutP rfl rfl (h := seed.length) rfl (by have := hc1; rw [List.length_append] at this; omega) rfl tu23 ts5) ?_
  refine s_eff (e_call (w_none rfl) rfl rfl Tryd.func51 rfl rfl rfl (signNew _ (H.gat hG) (H.gl hL) (lent_pre (H.rowbs (A := A1) (l := seed ++ marks 5) rfl) rfl) (by omega)) ?_)
  rintro _ W ⟨gn, rfl, hnw⟩
  replace H := H.new hnw
  clear hnw
  refine s_run (w_none rfl) rfl (as_p rfl rfl) ?_
  refine l_nil ?_
  refine k_seq ?_
  refine k_region ?_
  refine s_run (w_none rfl) rfl (mv_s rfl rfl) ?_
  refine s_eff (e_call (w_none rfl) rfl rfl Tryd.func52 rfl rfl rfl (refNew _ (H.bs hs0) (by omega)) ?_)
  rintro _ W ⟨gm, Am, cm, rfl, hcm1, hcm2, hS⟩
  replace H := H.add hS
  clear hS
  simp only [List.cons_append, List.nil_append] at H
  refine s_run (w_none rfl) rfl (as_p rfl rfl) ?_
  refine l_nil ?_
  refine k_seq ?_
  refine k_seq ?_
  refine k_region ?_
  refine s_run (w_none rfl) rfl (mv_p rfl rfl) ?_
  refine s_run (w_none rfl) rfl (d_eqpn rfl rfl rfl (by kernel_rfl)) ?_
  refine s_run (w_none rfl) rfl (mv_bx (c := false) rfl rfl (rfl)) ?_
  refine s_run (w_g rfl rfl rfl rfl) rfl (mv_s rfl rfl) ?_
  refine s_run (w_g rfl rfl rfl rfl) rfl (mv_s rfl rfl) ?_
  refine s_eff (e_call (w_g rfl rfl rfl rfl) rfl rfl Tryd.func33 rfl rfl rfl (kept _ (H.rowbs (A := A1) (l := seed ++ marks 5) rfl) (H.bs hs0) rfl (by omega)) ?_)
  rintro _ W ⟨rfl, hb⟩
  replace H := H.below hb
  clear hb
  refine s_run (w_g rfl rfl rfl rfl) rfl (d_not rfl rfl) ?_
  refine s_run (w_none rfl) rfl (d_pickF rfl rfl rfl) ?_
  refine l_nil ?_
  refine k_condF rfl rfl ?_
  refine k_skip ?_
  refine k_seq ?_
  refine k_region ?_
  refine s_run (w_none rfl) rfl (mv_s rfl rfl) ?_
  refine s_eff (e_call (w_none rfl) rfl rfl Tryd.func32 rfl rfl rfl (spoilAll _ (H.get (f := Fact.row 5 1 (.slice A1 (seed ++ marks 5).length c1) (seed ++ marks 5).length ((seed ++ marks 5).map u8v))) (by rw [List.length_append, marks_len]; omega)) ?_)
  rintro _ W ⟨rfl, ⟨ys, hys⟩, hf⟩
  replace H := H.mut (f := Fact.row 5 1 (.slice A1 (seed ++ marks 5).length c1) (seed ++ marks 5).length ((seed ++ marks 5).map u8v)) (f' := Fact.row 5 1 (.slice A1 (seed ++ marks 5).length c1) (seed ++ marks 5).length (ys.map u8v)) hf hys (fun _ h => h)
  clear hys hf
  refine l_nil ?_
  refine k_seq ?_
  refine k_region ?_
  refine s_run (w_none rfl) rfl (mv_p rfl rfl) ?_
  refine s_run (w_none rfl) rfl (mv_i rfl rfl) ?_
  refine s_run (w_none rfl) rfl (d_ldm0 (g := g6) rfl H rfl ta36 ts36 (by rw [List.length_map, hh])) ?_
  refine s_eff (e_call (w_none rfl) rfl rfl Tryd.func53 rfl rfl rfl (signR _ (gat_of (H.blk (g := gm))) (H.rowbs (A := Am) rfl) (by omega) hh) ?_)
  rintro _ W ⟨rfl, hb⟩
  replace H := H.below hb
  clear hb
  refine s_eff (e_alloc (w_none rfl) rfl rfl ((List.replicate 16 (0 : UInt8)).map u8v) (by kernel_rfl) H ?_)
  clear H; intro g12 W H
  refine s_eff (e_stoK ((Sg.sign seed o h).map u8v) (w_none rfl) rfl rfl rfl rfl rfl ts38 (by rw [List.length_map, Sg.len_sign]) (all_u8L _) H (by simp) (spl_all (by simp [Sg.len_sign])) ?_)
  clear H; intro W H
  refine l_nil ?_
  refine k_seq ?_
  refine k_draw [(0, true), (1, true), (3, true), (4, true), (2, false), (5, false), (6, true), (7, true), (8, true), (9, true), (10, true), (12, true), (11, false), (13, true), (14, true), (15, true), (16, true), (17, true), (18, true), (19, true), (21, true), (22, true), (23, true), (24, true), (20, false), (25, false), (26, true), (27, true), (28, true), (29, true), (30, true), (31, true), (32, true), (34, true), (35, true), (36, true), (37, true), (33, false), (38, false), (39, true), (40, true), (41, true), (42, false), (43, true), (44, true)] _ (by kernel_rfl) (by kernel_rfl) H (.refl _) ?_
  clear H; intro W H
  refine c_run rfl (w_none rfl) rfl (fun W H => mv_p rfl rfl) ?_
  refine c_run rfl (w_none rfl) rfl (fun W H => mv_i rfl rfl) ?_
  refine c_run rfl (w_none rfl) rfl (fun W H => mv_p rfl rfl) ?_
  refine c_run rfl (w_none rfl) rfl (fun W H => mv_i rfl rfl) ?_
  refine c_eff rfl (e_call (w_none rfl) rfl rfl Tryd.func54 rfl rfl rfl (keyP _ (gat_of (H.blk (g := gn)))) ?_)
  rintro _ W ⟨rfl, hb⟩
  replace H := H.below hb
  clear hb
  refine ⟨H.sub (by repeat (first | exact List.Sublist.refl _ | exact List.nil_sublist _ | refine List.Sublist.cons_cons _ ?_ | refine List.Sublist.cons _ ?_)), ?_⟩
  refine c_eff rfl (e_call (w_none rfl) rfl rfl Tryd.func55 rfl rfl rfl (keyR _ (gat_of (H.blk (g := gm))) (H.rowbs (A := Am) rfl) (by omega)) ?_)
  rintro _ W ⟨rfl, hb⟩
  replace H := H.below hb
  clear hb
  refine ⟨H.sub (by repeat (first | exact List.Sublist.refl _ | exact List.nil_sublist _ | refine List.Sublist.cons_cons _ ?_ | refine List.Sublist.cons _ ?_)), ?_⟩
  refine c_run rfl (w_none rfl) rfl (fun W H => d_eqarr rfl rfl rfl tu36 tu5 ts5 Sg.len_key Sg.len_key (by kernel_rfl)) ?_
  refine c_run rfl (w_none rfl) rfl (fun W H => mv_bx (c := true) rfl rfl (by rw [beq_self_eq_true])) ?_
  refine c_run rfl (w_g rfl rfl rfl rfl) rfl (fun W H => mv_p rfl rfl) ?_
  refine c_run rfl (w_g rfl rfl rfl rfl) rfl (fun W H => mv_i rfl rfl) ?_
  refine c_run rfl (w_g rfl rfl rfl rfl) rfl (fun W H => d_ldm0 (g := g6) rfl H rfl ta36 ts36 (by rw [List.length_map, hh])) ?_
  refine c_run rfl (w_g rfl rfl rfl rfl) rfl (fun W H => d_ldm0 (g := g12) rfl H rfl ta38 ts38 (by rw [List.length_map, Sg.len_sign])) ?_
  refine c_eff rfl (e_call (w_g rfl rfl rfl rfl) rfl rfl Tryd.func56 rfl rfl rfl (signP _ (H.gl hL) (gat_of (H.blk (g := gn))) hh) ?_)
  rintro _ W ⟨rfl, hb⟩
  replace H := H.below hb
  clear hb
  refine ⟨H.sub (by repeat (first | exact List.Sublist.refl _ | exact List.nil_sublist _ | refine List.Sublist.cons_cons _ ?_ | refine List.Sublist.cons _ ?_)), ?_⟩
  refine c_run rfl (w_g rfl rfl rfl rfl) rfl (fun W H => d_eqarr rfl rfl rfl tu38 tu5 ts5 Sg.len_sign Sg.len_sign (by kernel_rfl)) ?_
  refine c_run rfl (w_none rfl) rfl (fun W H => d_pickT rfl rfl rfl) ?_
  refine c_run rfl (w_none rfl) rfl (fun W H => mv_bx (c := true) rfl rfl (by rw [beq_self_eq_true])) ?_
  refine c_run rfl (w_g rfl rfl rfl rfl) rfl (fun W H => mv_p rfl rfl) ?_
  refine c_run rfl (w_g rfl rfl rfl rfl) rfl (fun W H => mv_i rfl rfl) ?_
  refine c_run rfl (w_g rfl rfl rfl rfl) rfl (fun W H => d_ldm0 (g := g6) rfl H rfl ta36 ts36 (by rw [List.length_map, hh])) ?_
  refine c_run rfl (w_g rfl rfl rfl rfl) rfl (fun W H => d_ldm0 (g := g7) rfl H rfl ta38 ts38 (by rw [List.length_map, ht])) ?_
  refine c_run rfl (w_g rfl rfl rfl rfl) rfl (fun W H => mv_p rfl rfl) ?_
  refine c_run rfl (w_g rfl rfl rfl rfl) rfl (fun W H => mv_i rfl rfl) ?_
  refine c_run rfl (w_g rfl rfl rfl rfl) rfl (fun W H => d_ldm0 (g := g6) rfl H rfl ta36 ts36 (by rw [List.length_map, hh])) ?_
  refine c_run rfl (w_g rfl rfl rfl rfl) rfl (fun W H => d_ldm0 (g := g7) rfl H rfl ta38 ts38 (by rw [List.length_map, ht])) ?_
  refine c_eff rfl (e_call (w_g rfl rfl rfl rfl) rfl rfl Tryd.func57 rfl rfl rfl (verP _ (H.gl hL) (gat_of (H.blk (g := gn))) hh ht) ?_)
  rintro _ W ⟨rfl, hb⟩
  replace H := H.below hb
  clear hb
  refine ⟨H.sub (by repeat (first | exact List.Sublist.refl _ | exact List.nil_sublist _ | refine List.Sublist.cons_cons _ ?_ | refine List.Sublist.cons _ ?_)), ?_⟩
  refine c_eff rfl (e_call (w_g rfl rfl rfl rfl) rfl rfl Tryd.func58 rfl rfl rfl (verR _ (gat_of (H.blk (g := gm))) (H.rowbs (A := Am) rfl) (by omega) hh ht) ?_)
  rintro _ W ⟨rfl, hb⟩
  replace H := H.below hb
  clear hb
  refine ⟨H.sub (by repeat (first | exact List.Sublist.refl _ | exact List.nil_sublist _ | refine List.Sublist.cons_cons _ ?_ | refine List.Sublist.cons _ ?_)), ?_⟩
  refine c_run rfl (w_g rfl rfl rfl rfl) rfl (fun W H => d_same rfl rfl rfl tu4) ?_
  refine c_run rfl (w_none rfl) rfl (fun W H => d_pickT rfl rfl rfl) ?_
  refine c_run rfl (w_none rfl) rfl (fun W H => mv_bx (c := true) rfl rfl (by rw [beq_self_eq_true])) ?_
  refine c_run rfl (w_g rfl rfl rfl rfl) rfl (fun W H => mv_p rfl rfl) ?_
  refine c_run rfl (w_g rfl rfl rfl rfl) rfl (fun W H => mv_i rfl rfl) ?_
  refine c_run rfl (w_g rfl rfl rfl rfl) rfl (fun W H => d_ldm0 (g := g6) rfl H rfl ta36 ts36 (by rw [List.length_map, hh])) ?_
  refine c_run rfl (w_g rfl rfl rfl rfl) rfl (fun W H => d_ldm0 (g := g12) rfl H rfl ta38 ts38 (by rw [List.length_map, Sg.len_sign])) ?_
  refine c_run rfl (w_g rfl rfl rfl rfl) rfl (fun W H => mv_p rfl rfl) ?_
  refine c_run rfl (w_g rfl rfl rfl rfl) rfl (fun W H => mv_i rfl rfl) ?_
  refine c_run rfl (w_g rfl rfl rfl rfl) rfl (fun W H => d_ldm0 (g := g6) rfl H rfl ta36 ts36 (by rw [List.length_map, hh])) ?_
  refine c_run rfl (w_g rfl rfl rfl rfl) rfl (fun W H => d_ldm0 (g := g12) rfl H rfl ta38 ts38 (by rw [List.length_map, Sg.len_sign])) ?_
  refine c_eff rfl (e_call (w_g rfl rfl rfl rfl) rfl rfl Tryd.func57 rfl rfl rfl (verP _ (H.gl hL) (gat_of (H.blk (g := gn))) hh Sg.len_sign) ?_)
  rintro _ W ⟨rfl, hb⟩
  replace H := H.below hb
  clear hb
  refine ⟨H.sub (by repeat (first | exact List.Sublist.refl _ | exact List.nil_sublist _ | refine List.Sublist.cons_cons _ ?_ | refine List.Sublist.cons _ ?_)), ?_⟩
  refine c_eff rfl (e_call (w_g rfl rfl rfl rfl) rfl rfl Tryd.func58 rfl rfl rfl (verR _ (gat_of (H.blk (g := gm))) (H.rowbs (A := Am) rfl) (by omega) hh Sg.len_sign) ?_)
  rintro _ W ⟨rfl, hb⟩
  replace H := H.below hb
  clear hb
  refine ⟨H.sub (by repeat (first | exact List.Sublist.refl _ | exact List.nil_sublist _ | refine List.Sublist.cons_cons _ ?_ | refine List.Sublist.cons _ ?_)), ?_⟩
  refine c_run rfl (w_g rfl rfl rfl rfl) rfl (fun W H => d_same rfl rfl rfl tu4) ?_
  refine c_run rfl (w_none rfl) rfl (fun W H => d_pickT rfl rfl rfl) ?_
  refine c_run rfl (w_none rfl) rfl (fun W H => mv_bx (c := true) rfl rfl (by rw [beq_self_eq_true])) ?_
  refine c_eff rfl (e_call (w_g rfl rfl rfl rfl) rfl rfl Tryd.func50 rfl rfl rfl (works05 _ (H.gat hG) (H.gl hL)) ?_)
  rintro _ W ⟨rfl, hb⟩
  replace H := H.below hb
  clear hb
  refine ⟨H.sub (by repeat (first | exact List.Sublist.refl _ | exact List.nil_sublist _ | refine List.Sublist.cons_cons _ ?_ | refine List.Sublist.cons _ ?_)), ?_⟩
  refine c_run rfl (w_none rfl) rfl (fun W H => d_pickT rfl rfl rfl) ?_
  refine c_run rfl (w_none rfl) rfl (fun W H => as_b rfl rfl) ?_
  refine c_nil ?_
  refine k_ret ?_
  repeat (first | refine r_then ?_ | refine r_blk ?_)
  exact q_ret (v := .bool _) rfl rfl ⟨_, rfl, rfl, H.under⟩

set_option maxHeartbeats 4000000 in
theorem signOwnA {S : Nat → Prop} {v : Value} {seed h q t : List UInt8} {o p : Int} (w : World) (hG : Gat w 0 formsC) (hL : Old.Gl w) (hs : Bs w S v seed) (hh : h.length = 32) (hq : q.length = 32) (ht : t.length = 16) (hm : 4096 < seed.length) : Calls Tryd.prog 11 [v, .int .i64 o, .int .i64 p, .agg (h.map u8v).toArray, .agg (q.map u8v).toArray, .agg (t.map u8v).toArray].toArray w (Ret (Is w (.bool true))) := by
  have hs0 := hs
  obtain ⟨A, c, rfl, _, _, _⟩ := hs.op
  refine k_enter (l := [_, _, _, _, _, _]) Tryd.func11 rfl rfl ?_
  have H := St.start nT w
  refine k_seq ?_
  refine k_region ?_
  refine s_eff (e_box (vs := (h.map u8v)) (w_none rfl) rfl rfl rfl rfl H ?_)
  clear H; intro g9 W H
  refine s_eff (e_box (vs := (q.map u8v)) (w_none rfl) rfl rfl rfl rfl H ?_)
  clear H; intro g10 W H
  refine s_eff (e_box (vs := (t.map u8v)) (w_none rfl) rfl rfl rfl rfl H ?_)
  clear H; intro g11 W H
  refine s_run (w_none rfl) rfl (as_b rfl rfl) ?_
  refine l_nil ?_
  refine k_seq ?_
  refine k_seq ?_
  refine k_region ?_
  refine s_run (w_none rfl) rfl (mv_s rfl rfl) ?_
  refine s_run (w_none rfl) rfl (d_len rfl rfl tu23) ?_
  refine s_run (w_none rfl) rfl (d_gt rfl rfl rfl) ?_
  refine l_nil ?_
  refine k_condT rfl (by simp; omega) ?_
  refine k_seq ?_
  refine k_region ?_
  refine s_eff (e_call (w_none rfl) rfl rfl Tryd.func50 rfl rfl rfl (works05 _ (H.gat hG) (H.gl hL)) ?_)
  rintro _ W ⟨rfl, hb⟩
  replace H := H.below hb
  clear hb
  refine s_run (w_none rfl) rfl (as_b rfl rfl) ?_
  refine l_nil ?_
  refine k_ret ?_
  repeat (first | refine r_then ?_ | refine r_blk ?_)
  exact q_ret (v := .bool _) rfl rfl ⟨_, rfl, rfl, H.under⟩

set_option maxHeartbeats 4000000 in
theorem signOwnB {S : Nat → Prop} {v : Value} {seed h q t : List UInt8} {o p : Int} (w : World) (hG : Gat w 0 formsC) (hL : Old.Gl w) (hs : Bs w S v seed) (hh : h.length = 32) (hq : q.length = 32) (ht : t.length = 16) (hm : seed.length ≤ 4096) : Calls Tryd.prog 11 [v, .int .i64 o, .int .i64 p, .agg (h.map u8v).toArray, .agg (q.map u8v).toArray, .agg (t.map u8v).toArray].toArray w (Ret (Is w (.bool true))) := by
  have hs0 := hs
  obtain ⟨A, c, rfl, _, _, _⟩ := hs.op
  refine k_enter (l := [_, _, _, _, _, _]) Tryd.func11 rfl rfl ?_
  have H := St.start nT w
  have hsl := Sg.len_sign (seed := seed) (h := h) (o := o)
  have hst : (Sg.sign seed o h).length = t.length := by rw [hsl, ht]
  have hxl := len_xor hst
  have hxz := xor_zero _ _ hst
  rw [hsl] at hxl hxz
  refine k_seq ?_
  refine k_region ?_
  refine s_eff (e_box (vs := (h.map u8v)) (w_none rfl) rfl rfl rfl rfl H ?_)
  clear H; intro g9 W H
  refine s_eff (e_box (vs := (q.map u8v)) (w_none rfl) rfl rfl rfl rfl H ?_)
  clear H; intro g10 W H
  refine s_eff (e_box (vs := (t.map u8v)) (w_none rfl) rfl rfl rfl rfl H ?_)
  clear H; intro g11 W H
  refine s_run (w_none rfl) rfl (as_b rfl rfl) ?_
  refine l_nil ?_
  refine k_seq ?_
  refine k_seq ?_
  refine k_region ?_
  refine s_run (w_none rfl) rfl (mv_s rfl rfl) ?_
  refine s_run (w_none rfl) rfl (d_len rfl rfl tu23) ?_
  refine s_run (w_none rfl) rfl (d_gt rfl rfl rfl) ?_
  refine l_nil ?_
  refine k_condF rfl (by simp; omega) ?_
  refine k_skip ?_
  refine k_seq ?_
  refine k_region ?_
  refine s_run (w_none rfl) rfl (mv_s rfl rfl) ?_
  refine s_eff (e_call (w_none rfl) rfl rfl Tryd.func51 rfl rfl rfl (signNew _ (H.gat hG) (H.gl hL) (H.bs hs0) (by omega)) ?_)
  rintro _ W ⟨gn, rfl, hnw⟩
  replace H := H.new hnw
  clear hnw
  refine s_run (w_none rfl) rfl (as_p rfl rfl) ?_
  refine l_nil ?_
  refine k_seq ?_
  refine k_region ?_
  refine s_run (w_none rfl) rfl (mv_p rfl rfl) ?_
  refine s_run (w_none rfl) rfl (mv_i rfl rfl) ?_
  refine s_run (w_none rfl) rfl (d_ldm0 (g := g10) rfl H rfl ta36 ts36 (by rw [List.length_map, hq])) ?_
  refine s_eff (e_call (w_none rfl) rfl rfl Tryd.func56 rfl rfl rfl (signP _ (H.gl hL) (gat_of (H.blk (g := gn))) hq) ?_)
  rintro _ W ⟨rfl, hb⟩
  replace H := H.below hb
  clear hb
  refine l_nil ?_
  refine k_seq ?_
  refine k_region ?_
  refine s_run (w_none rfl) rfl (mv_p rfl rfl) ?_
  refine s_run (w_none rfl) rfl (mv_i rfl rfl) ?_
  refine s_run (w_none rfl) rfl (d_ldm0 (g := g9) rfl H rfl ta36 ts36 (by rw [List.length_map, hh])) ?_
  refine s_eff (e_call (w_none rfl) rfl rfl Tryd.func56 rfl rfl rfl (signP _ (H.gl hL) (gat_of (H.blk (g := gn))) hh) ?_)
  rintro _ W ⟨rfl, hb⟩
  replace H := H.below hb
  clear hb
  refine s_eff (e_alloc (w_none rfl) rfl rfl ((List.replicate 16 (0 : UInt8)).map u8v) (by kernel_rfl) H ?_)
  clear H; intro g14 W H
  refine s_eff (e_stoK ((Sg.sign seed o h).map u8v) (w_none rfl) rfl rfl rfl rfl rfl ts38 (by rw [List.length_map, hsl]) (all_u8L _) H (by simp) (spl_all (by simp [hsl])) ?_)
  clear H; intro W H
  refine l_nil ?_
  refine k_seq ?_
  refine k_region ?_
  refine s_run (w_none rfl) rfl (mv_s rfl rfl) ?_
  refine s_eff (e_call (w_none rfl) rfl rfl Tryd.func51 rfl rfl rfl (signNew _ (H.gat hG) (H.gl hL) (H.bs hs0) (by omega)) ?_)
  rintro _ W ⟨gm, rfl, hnw⟩
  replace H := H.new hnw
  clear hnw
  refine s_run (w_none rfl) rfl (as_p rfl rfl) ?_
  refine l_nil ?_
  refine k_seq ?_
  refine k_seq ?_
  refine k_draw [(0, true), (1, true), (2, true), (4, true), (3, false), (5, true), (6, true), (7, true), (8, true), (10, true), (11, true), (9, false), (12, false), (13, true), (14, true)] _ (by kernel_rfl) (by kernel_rfl) H (.refl _) ?_
  clear H; intro W H
  refine c_run rfl (w_none rfl) rfl (fun W H => mv_p rfl rfl) ?_
  refine c_run rfl (w_none rfl) rfl (fun W H => mv_i rfl rfl) ?_
  refine c_run rfl (w_none rfl) rfl (fun W H => d_ldm0 (g := g9) rfl H rfl ta36 ts36 (by rw [List.length_map, hh])) ?_
  refine c_run rfl (w_none rfl) rfl (fun W H => d_ldm0 (g := g14) rfl H rfl ta38 ts38 (by rw [List.length_map, hsl])) ?_
  refine c_eff rfl (e_call (w_none rfl) rfl rfl Tryd.func56 rfl rfl rfl (signP _ (H.gl hL) (gat_of (H.blk (g := gm))) hh) ?_)
  rintro _ W ⟨rfl, hb⟩
  replace H := H.below hb
  clear hb
  refine ⟨H.sub (by repeat (first | exact List.Sublist.refl _ | exact List.nil_sublist _ | refine List.Sublist.cons_cons _ ?_ | refine List.Sublist.cons _ ?_)), ?_⟩
  refine c_run rfl (w_none rfl) rfl (fun W H => d_nearr rfl rfl rfl tu38 tu5 ts5 hsl hsl (by kernel_rfl)) ?_
  refine c_run rfl (w_none rfl) rfl (fun W H => mv_bx (c := false) rfl rfl (by rw [beq_self_eq_true]; rfl)) ?_
  refine c_run rfl (w_g rfl rfl rfl rfl) rfl (fun W H => mv_p rfl rfl) ?_
  refine c_run rfl (w_g rfl rfl rfl rfl) rfl (fun W H => mv_i rfl rfl) ?_
  refine c_run rfl (w_g rfl rfl rfl rfl) rfl (fun W H => mv_p rfl rfl) ?_
  refine c_run rfl (w_g rfl rfl rfl rfl) rfl (fun W H => mv_i rfl rfl) ?_
  refine c_eff rfl (e_call (w_g rfl rfl rfl rfl) rfl rfl Tryd.func54 rfl rfl rfl (keyP _ (gat_of (H.blk (g := gm)))) ?_)
  rintro _ W ⟨rfl, hb⟩
  replace H := H.below hb
  clear hb
  refine ⟨H.sub (by repeat (first | exact List.Sublist.refl _ | exact List.nil_sublist _ | refine List.Sublist.cons_cons _ ?_ | refine List.Sublist.cons _ ?_)), ?_⟩
  refine c_eff rfl (e_call (w_g rfl rfl rfl rfl) rfl rfl Tryd.func54 rfl rfl rfl (keyP _ (gat_of (H.blk (g := gn)))) ?_)
  rintro _ W ⟨rfl, hb⟩
  replace H := H.below hb
  clear hb
  refine ⟨H.sub (by repeat (first | exact List.Sublist.refl _ | exact List.nil_sublist _ | refine List.Sublist.cons_cons _ ?_ | refine List.Sublist.cons _ ?_)), ?_⟩
  refine c_run rfl (w_g rfl rfl rfl rfl) rfl (fun W H => d_nearr rfl rfl rfl tu36 tu5 ts5 Sg.len_key Sg.len_key (by kernel_rfl)) ?_
  refine c_run rfl (w_none rfl) rfl (fun W H => d_pickF rfl rfl rfl) ?_
  refine c_nil ?_
  refine k_condF rfl (by rw [beq_self_eq_true]; rfl) ?_
  refine k_skip ?_
  refine k_seq ?_
  refine k_cut 50 [16] (fun sl W => sl = [(16, .bool (Sg.inB o))] ∧ St nT w W [Fact.blk gm (Sg.keysN seed 32) 109, Fact.blk g14 ((Sg.sign seed o h).map u8v) 38, Fact.blk gn (Sg.keysN seed 32) 109, Fact.blk g11 (t.map u8v) 38, Fact.blk g10 (q.map u8v) 36, Fact.blk g9 (h.map u8v) 36]) ?_ (fun sl ρv W hJ => ?_)
  · skip
    rcases Int.lt_or_le o 1 with h1 | h1
    · skip
      refine k_region ?_
      refine s_run (w_none rfl) rfl (mv_i rfl rfl) ?_
      refine s_run (w_none rfl) rfl (d_ge rfl rfl rfl) ?_
      refine s_run (w_none rfl) rfl (mv_bx (c := false) rfl rfl (by simp; omega)) ?_
      refine s_skip (w_gno rfl rfl rfl rfl rfl) rfl ?_
      refine s_skip (w_gno rfl rfl rfl rfl rfl) rfl ?_
      refine s_run (w_none rfl) rfl (d_pickF rfl rfl rfl) ?_
      refine s_run (w_none rfl) rfl (as_b rfl rfl) ?_
      refine l_nil ?_
      refine k_nil ?_
      refine n_then ?_
      refine ⟨_, _, rfl, ?_, ?_, ⟨rfl, H⟩⟩
      · repeat (first | (with_reducible exact Eqo.refl) | ((with_reducible refine Eqo.updl _ (Eqo.ovr2 ?_ ?_) ?_); rotate_left; exact rfl; exact rfl) | ((with_reducible refine Eqo.upd ?_ ?_); rotate_left; exact rfl))
      · refine ⟨?_, trivial⟩
        · exact vb (by unfold Sg.inB; rw [decide_eq_false (by omega)]; rfl)
    · skip
      refine k_region ?_
      refine s_run (w_none rfl) rfl (mv_i rfl rfl) ?_
      refine s_run (w_none rfl) rfl (d_ge rfl rfl rfl) ?_
      refine s_run (w_none rfl) rfl (mv_bx (c := true) rfl rfl (by simp; omega)) ?_
      refine s_run (w_g rfl rfl rfl rfl) rfl (mv_i rfl rfl) ?_
      refine s_run (w_g rfl rfl rfl rfl) rfl (d_le rfl rfl rfl) ?_
      refine s_run (w_none rfl) rfl (d_pickT rfl rfl rfl) ?_
      refine s_run (w_none rfl) rfl (as_b rfl rfl) ?_
      refine l_nil ?_
      refine k_nil ?_
      refine n_then ?_
      refine ⟨_, _, rfl, ?_, ?_, ⟨rfl, H⟩⟩
      · repeat (first | (with_reducible exact Eqo.refl) | ((with_reducible refine Eqo.updl _ (Eqo.ovr2 ?_ ?_) ?_); rotate_left; exact rfl; exact rfl) | ((with_reducible refine Eqo.upd ?_ ?_); rotate_left; exact rfl))
      · refine ⟨?_, trivial⟩
        · exact vb (by unfold Sg.inB; rw [decide_eq_true h1]; rfl)
  clear H; obtain ⟨rfl, H⟩ := hJ
  refine k_seq ?_
  refine k_region ?_
  refine s_run (w_none rfl) rfl (d_ldm0 (g := g14) rfl H rfl ta38 ts38 (by rw [List.length_map, hsl])) ?_
  refine s_eff (e_alloc (w_none rfl) rfl rfl ((List.replicate 16 (0 : UInt8)).map u8v) (by kernel_rfl) H ?_)
  clear H; intro g17 W H
  refine s_eff (e_stoK ((Sg.sign seed o h).map u8v) (w_none rfl) rfl rfl rfl rfl rfl ts38 (by rw [List.length_map, hsl]) (all_u8L _) H (by simp) (spl_all (by simp [hsl])) ?_)
  clear H; intro W H
  refine l_nil ?_
  refine k_seq ?_
  refine k_seq ?_
  refine k_region ?_
  refine s_run (w_none rfl) rfl (as_i rfl rfl) ?_
  refine l_nil ?_
  refine k_block ?_
  refine k_loop 57 [18] (fun mm sl W => ∃ k : Nat, 16 - k = mm ∧ sl = [(18, .int .i64 (k : Int))] ∧ (k ≤ 16) ∧ St nT w W [Fact.blk g17 (part (Sg.sign seed o h) t k) 38, Fact.blk gm (Sg.keysN seed 32) 109, Fact.blk g14 ((Sg.sign seed o h).map u8v) 38, Fact.blk gn (Sg.keysN seed 32) 109, Fact.blk g11 (t.map u8v) 38, Fact.blk g10 (q.map u8v) 36, Fact.blk g9 (h.map u8v) 36]) _ _ ⟨0, rfl, rfl, Nat.zero_le _, (by rw [part_0]; exact H)⟩ ⟨rfl, trivial⟩ (fun mm sl ρv W hJ => ?_)
  clear H; obtain ⟨k, rfl, rfl, hk, H⟩ := hJ
  refine k_one ?_
  refine k_seq ?_
  refine k_seq ?_
  refine k_region ?_
  refine s_run (w_none rfl) rfl (mv_i rfl rfl) ?_
  refine s_run (w_none rfl) rfl (d_lt rfl rfl rfl) ?_
  refine l_nil ?_
  refine k_cond rfl (fun hc58 => ?_) (fun hc58 => ?_)
  · first | (replace hc58 := of_decide_eq_true hc58) | simp at hc58
    refine k_skip ?_
    refine k_seq ?_
    refine k_block ?_
    refine k_draw [(0, true), (1, true), (2, true), (3, true), (4, true), (5, true), (6, true), (7, true), (8, true), (9, false)] [Fact.blk gm (Sg.keysN seed 32) 109, Fact.blk g14 ((Sg.sign seed o h).map u8v) 38, Fact.blk gn (Sg.keysN seed 32) 109, Fact.blk g11 (t.map u8v) 38, Fact.blk g10 (q.map u8v) 36, Fact.blk g9 (h.map u8v) 36] (by kernel_rfl) (by kernel_rfl) H (List.sublist_cons_self _ _) ?_
    clear H; intro W H
    refine c_run rfl (w_none rfl) rfl (fun W H => mv_i rfl rfl) ?_
    refine c_run rfl (w_none rfl) rfl (fun W H => mv_i rfl rfl) ?_
    refine c_run rfl (w_none rfl) rfl (fun W H => d_iaA rfl rfl rfl (q := k) rfl tu38 (by omega) ts5) ?_
    refine c_run rfl (w_none rfl) rfl (fun W H => d_ldX (g := g14) (off := k) rfl H (sub_u8 (by omega)) rfl (by omega) ta5) ?_
    refine c_run rfl (w_none rfl) rfl (fun W H => mv_i rfl rfl) ?_
    refine c_run rfl (w_none rfl) rfl (fun W H => d_iaA rfl rfl rfl (q := k) rfl tu38 (by omega) ts5) ?_
    refine c_run rfl (w_none rfl) rfl (fun W H => d_ldX (g := g11) (off := k) rfl H (sub_u8 (by omega)) rfl (by omega) ta5) ?_
    refine c_run rfl (w_none rfl) rfl (fun W H => d_bitW rfl rfl rfl xor_u8) ?_
    refine c_run rfl (w_none rfl) rfl (fun W H => d_iaA rfl rfl rfl (q := k) rfl tu38 (by omega) ts5) ?_
    refine c_eff rfl (e_stoK (part (Sg.sign seed o h) t (k + 1)) (w_none rfl) rfl rfl rfl rfl rfl ts5 rfl rfl H (by rw [len_part hst (by omega)]; omega) (by rw [show 0 + k * 1 = k by omega]; exact part_step hst (by omega)) ?_)
    clear H; intro W H
    refine ⟨H.sub (by repeat (first | exact List.Sublist.refl _ | exact List.nil_sublist _ | refine List.Sublist.cons_cons _ ?_ | refine List.Sublist.cons _ ?_)), ?_⟩
    refine c_nil ?_
    refine k_nil ?_
    refine b_end ?_
    refine k_region ?_
    refine s_run (w_none rfl) rfl (mv_i rfl rfl) ?_
    refine s_run (w_none rfl) rfl (d_add rfl rfl rfl (by omega)) ?_
    refine s_run (w_none rfl) rfl (as_i rfl rfl) ?_
    refine l_nil ?_
    refine k_nil ?_
    refine k_next ?_
    refine ⟨_, _, _, ?_, rfl, ?_, ?_, ⟨k + 1, rfl, rfl, by omega, H⟩⟩
    · omega
    · repeat (first | ((with_reducible refine Eqo.updl _ Eqo.ovr ?_); exact rfl) | ((with_reducible refine Eqo.updl _ (Eqo.ovr2 ?_ ?_) ?_); rotate_left; exact rfl; exact rfl) | ((with_reducible refine Eqo.upd ?_ ?_); rotate_left; exact rfl))
    · refine ⟨?_, trivial⟩
      · exact vi (by omega)
  · first | (replace hc58 := of_decide_eq_false hc58) | simp at hc58
    refine k_exit ?_
    refine x_then (x_then ?_)
    refine x_hit ?_
    refine k_seq ?_
    refine k_seq ?_
    cases hin : Sg.inB o
    · skip
      obtain rfl : k = 16 := by omega
      have e16 := part_all hst
      rw [hsl] at e16
      rw [e16] at H
      refine k_region ?_
      refine s_run (w_none rfl) rfl (mv_p rfl rfl) ?_
      refine s_run (w_none rfl) rfl (mv_i rfl rfl) ?_
      refine s_run (w_none rfl) rfl (d_ldm0 (g := g9) rfl H rfl ta36 ts36 (by rw [List.length_map, hh])) ?_
      refine s_run (w_none rfl) rfl (d_ldm0 (g := g14) rfl H rfl ta38 ts38 (by rw [List.length_map, hsl])) ?_
      refine s_eff (e_call (w_none rfl) rfl rfl Tryd.func57 rfl rfl rfl (verP _ (H.gl hL) (gat_of (H.blk (g := gn))) hh hsl) ?_)
      rw [Sg.verify_self, hin]
      rintro _ W ⟨rfl, hb⟩
      replace H := H.below hb
      clear hb
      refine s_run (w_none rfl) rfl (mv_b rfl rfl) ?_
      refine s_run (w_none rfl) rfl (d_diff rfl rfl rfl tu4) ?_
      refine s_run (w_none rfl) rfl (mv_bx (c := false) rfl rfl (rfl)) ?_
      refine s_run (w_g rfl rfl rfl rfl) rfl (mv_p rfl rfl) ?_
      refine s_run (w_g rfl rfl rfl rfl) rfl (mv_i rfl rfl) ?_
      refine s_run (w_g rfl rfl rfl rfl) rfl (d_ldm0 (g := g9) rfl H rfl ta36 ts36 (by rw [List.length_map, hh])) ?_
      refine s_run (w_g rfl rfl rfl rfl) rfl (d_ldm0 (g := g17) rfl H rfl ta38 ts38 (by rw [List.length_map, hxl])) ?_
      refine s_eff (e_call (w_g rfl rfl rfl rfl) rfl rfl Tryd.func57 rfl rfl rfl (verP (t := (xorL (Sg.sign seed o h) t)) _ (H.gl hL) (gat_of (H.blk (g := gm))) hh hxl) ?_)
      rintro _ W ⟨rfl, hb⟩
      replace H := H.below hb
      clear hb
      refine s_run (w_g rfl rfl rfl rfl) rfl (mv_b rfl rfl) ?_
      refine s_run (w_g rfl rfl rfl rfl) rfl (mv_bx (c := false) rfl rfl (rfl)) ?_
      refine s_skip (w_gno rfl rfl rfl rfl rfl) rfl ?_
      refine s_skip (w_gno rfl rfl rfl rfl rfl) rfl ?_
      refine s_skip (w_gno rfl rfl rfl rfl rfl) rfl ?_
      refine s_run (w_g rfl rfl rfl rfl) rfl (d_pickF rfl rfl rfl) ?_
      refine s_run (w_g rfl rfl rfl rfl) rfl (d_diff rfl rfl rfl tu4) ?_
      refine s_run (w_none rfl) rfl (d_pickF rfl rfl rfl) ?_
      refine l_nil ?_
      refine k_condF rfl (by rw [Sg.ver_out hin]; rfl) ?_
      refine k_skip ?_
      refine k_seq ?_
      refine k_region ?_
      refine s_run (w_none rfl) rfl (mv_b rfl rfl) ?_
      refine s_run (w_none rfl) rfl (mv_bx (c := false) rfl rfl (rfl)) ?_
      refine s_run (w_g rfl rfl rfl rfl) rfl (d_ldm0 (g := g14) rfl H rfl ta38 ts38 (by rw [List.length_map, hsl])) ?_
      refine s_run (w_g rfl rfl rfl rfl) rfl (d_build (vs := (List.replicate 16 (0 : UInt8)).map u8v) rfl (by kernel_rfl)) ?_
      refine s_run (w_g rfl rfl rfl rfl) rfl (d_eqarr rfl rfl rfl tu38 tu5 ts5 (b := (List.replicate 16 (0 : UInt8))) hsl (by decide) (by kernel_rfl)) ?_
      refine s_run (w_g rfl rfl rfl rfl) rfl (mv_bx (c := true) rfl rfl (by rw [Sg.sign_out hin, beq_self_eq_true])) ?_
      refine s_run (w_g rfl rfl rfl rfl) rfl (mv_p rfl rfl) ?_
      refine s_run (w_g rfl rfl rfl rfl) rfl (mv_i rfl rfl) ?_
      refine s_eff (e_call (w_g rfl rfl rfl rfl) rfl rfl Tryd.func54 rfl rfl rfl (keyP _ (gat_of (H.blk (g := gn)))) ?_)
      rintro _ W ⟨rfl, hb⟩
      replace H := H.below hb
      clear hb
      refine s_run (w_g rfl rfl rfl rfl) rfl (d_build (vs := (List.replicate 32 (0 : UInt8)).map u8v) rfl (by kernel_rfl)) ?_
      refine s_run (w_g rfl rfl rfl rfl) rfl (d_eqarr rfl rfl rfl tu36 tu5 ts5 (b := List.replicate 32 (0 : UInt8)) Sg.len_key (by decide) (by kernel_rfl)) ?_
      refine s_run (w_g rfl rfl rfl rfl) rfl (d_pickT rfl rfl rfl) ?_
      refine s_run (w_none rfl) rfl (d_pickF rfl rfl rfl) ?_
      refine s_run (w_none rfl) rfl (mv_bx (c := true) rfl rfl (by rw [Sg.key_out hin, beq_self_eq_true])) ?_
      refine s_eff (e_call (w_g rfl rfl rfl rfl) rfl rfl Tryd.func50 rfl rfl rfl (works05 _ (H.gat hG) (H.gl hL)) ?_)
      rintro _ W ⟨rfl, hb⟩
      replace H := H.below hb
      clear hb
      refine s_run (w_none rfl) rfl (d_pickT rfl rfl rfl) ?_
      refine s_run (w_none rfl) rfl (as_b rfl rfl) ?_
      refine l_nil ?_
      refine k_ret ?_
      repeat (first | refine r_then ?_ | refine r_blk ?_)
      exact q_ret (v := .bool _) rfl rfl ⟨_, rfl, rfl, H.under⟩
    · skip
      obtain rfl : k = 16 := by omega
      have e16 := part_all hst
      rw [hsl] at e16
      rw [e16] at H
      refine k_region ?_
      refine s_run (w_none rfl) rfl (mv_p rfl rfl) ?_
      refine s_run (w_none rfl) rfl (mv_i rfl rfl) ?_
      refine s_run (w_none rfl) rfl (d_ldm0 (g := g9) rfl H rfl ta36 ts36 (by rw [List.length_map, hh])) ?_
      refine s_run (w_none rfl) rfl (d_ldm0 (g := g14) rfl H rfl ta38 ts38 (by rw [List.length_map, hsl])) ?_
      refine s_eff (e_call (w_none rfl) rfl rfl Tryd.func57 rfl rfl rfl (verP _ (H.gl hL) (gat_of (H.blk (g := gn))) hh hsl) ?_)
      rw [Sg.verify_self, hin]
      rintro _ W ⟨rfl, hb⟩
      replace H := H.below hb
      clear hb
      refine s_run (w_none rfl) rfl (mv_b rfl rfl) ?_
      refine s_run (w_none rfl) rfl (d_diff rfl rfl rfl tu4) ?_
      refine s_run (w_none rfl) rfl (mv_bx (c := false) rfl rfl (rfl)) ?_
      refine s_run (w_g rfl rfl rfl rfl) rfl (mv_p rfl rfl) ?_
      refine s_run (w_g rfl rfl rfl rfl) rfl (mv_i rfl rfl) ?_
      refine s_run (w_g rfl rfl rfl rfl) rfl (d_ldm0 (g := g9) rfl H rfl ta36 ts36 (by rw [List.length_map, hh])) ?_
      refine s_run (w_g rfl rfl rfl rfl) rfl (d_ldm0 (g := g17) rfl H rfl ta38 ts38 (by rw [List.length_map, hxl])) ?_
      refine s_eff (e_call (w_g rfl rfl rfl rfl) rfl rfl Tryd.func57 rfl rfl rfl (verP (t := (xorL (Sg.sign seed o h) t)) _ (H.gl hL) (gat_of (H.blk (g := gm))) hh hxl) ?_)
      rintro _ W ⟨rfl, hb⟩
      replace H := H.below hb
      clear hb
      refine s_run (w_g rfl rfl rfl rfl) rfl (mv_b rfl rfl) ?_
      refine s_run (w_g rfl rfl rfl rfl) rfl (mv_bx (c := true) rfl rfl (rfl)) ?_
      refine s_run (w_g rfl rfl rfl rfl) rfl (d_ldm0 (g := g11) rfl H rfl ta38 ts38 (by rw [List.length_map, ht])) ?_
      refine s_run (w_g rfl rfl rfl rfl) rfl (d_build (vs := (List.replicate 16 (0 : UInt8)).map u8v) rfl (by kernel_rfl)) ?_
      refine s_run (w_g rfl rfl rfl rfl) rfl (d_eqarr rfl rfl rfl tu38 tu5 ts5 (b := (List.replicate 16 (0 : UInt8))) ht (by decide) (by kernel_rfl)) ?_
      refine s_run (w_g rfl rfl rfl rfl) rfl (d_pickT rfl rfl rfl) ?_
      refine s_run (w_g rfl rfl rfl rfl) rfl (d_diff rfl rfl rfl tu4) ?_
      refine s_run (w_none rfl) rfl (d_pickF rfl rfl rfl) ?_
      refine l_nil ?_
      refine k_condF rfl (by rw [Sg.ver_in hin, hxz, beq_self_eq_true]; rfl) ?_
      refine k_skip ?_
      refine k_seq ?_
      refine k_region ?_
      refine s_run (w_none rfl) rfl (mv_b rfl rfl) ?_
      refine s_run (w_none rfl) rfl (mv_bx (c := true) rfl rfl (rfl)) ?_
      refine s_skip (w_gno rfl rfl rfl rfl rfl) rfl ?_
      refine s_skip (w_gno rfl rfl rfl rfl rfl) rfl ?_
      refine s_skip (w_gno rfl rfl rfl rfl rfl) rfl ?_
      refine s_skip (w_gno rfl rfl rfl rfl rfl) rfl ?_
      refine s_skip (w_gu rfl rfl rfl rfl rfl) rfl ?_
      refine s_skip (w_gu rfl rfl rfl rfl rfl) rfl ?_
      refine s_skip (w_gu rfl rfl rfl rfl rfl) rfl ?_
      refine s_skip (w_gu rfl rfl rfl rfl rfl) rfl ?_
      refine s_skip (w_gu rfl rfl rfl rfl rfl) rfl ?_
      refine s_skip (w_gno rfl rfl rfl rfl rfl) rfl ?_
      refine s_run (w_none rfl) rfl (d_pickT rfl rfl rfl) ?_
      refine s_run (w_none rfl) rfl (mv_bx (c := true) rfl rfl (rfl)) ?_
      refine s_eff (e_call (w_g rfl rfl rfl rfl) rfl rfl Tryd.func50 rfl rfl rfl (works05 _ (H.gat hG) (H.gl hL)) ?_)
      rintro _ W ⟨rfl, hb⟩
      replace H := H.below hb
      clear hb
      refine s_run (w_none rfl) rfl (d_pickT rfl rfl rfl) ?_
      refine s_run (w_none rfl) rfl (as_b rfl rfl) ?_
      refine l_nil ?_
      refine k_ret ?_
      repeat (first | refine r_then ?_ | refine r_blk ?_)
      exact q_ret (v := .bool _) rfl rfl ⟨_, rfl, rfl, H.under⟩
end Go.Proofs.YtejaohlijaodjaaDoor

namespace Go.Proofs.YtejaohlijaodjaaDoor
open Go Go.RowKit

theorem of_is5 {P : Program} {f : FuncId} {args : Array Value} {w : World} {v : Value} (h : Calls P f args w (Ret (Is w v))) : Calls P f args w (fun e w' => e = .returned v ∧ Below w.heap.size w w') :=
  Calls.mono h (fun e w' h => by obtain ⟨x, h1, h2, h3⟩ := h; subst h2; exact ⟨h1, h3⟩)
theorem signAnswers_any {S S1 S2 S3 : Nat → Prop} {v : Value} {seed h t : List UInt8} {n o : Int} {c2 c3 : List Value} (w : World) (hg : Gat w 0 formsC ∧ Old.Gl w) (h0 : RB w S [v] seed) (h1 : RI w S1 [.int .i64 n] o) (h2 : RA 32 w S2 c2 h) (h3 : RA 16 w S3 c3 t) :
    Calls Tryd.prog 10 #[v, .int .i64 n, .agg c2.toArray, .agg c3.toArray] w (fun e w' => e = .returned (.bool true) ∧ Below w.heap.size w w') := by
  obtain ⟨v', hv, hb⟩ := h0
  cases hv
  obtain ⟨rfl, hh⟩ := h2
  obtain ⟨rfl, ht⟩ := h3
  rcases Nat.lt_or_ge 4096 seed.length with hm | hm
  · exact of_is5 (signAnswersA w hg.1 hg.2 hb hh ht hm)
  · exact of_is5 (signAnswersB w hg.1 hg.2 hb hh ht hm)
theorem signOwn_any {S S1 S2 S3 S4 S5 : Nat → Prop} {v : Value} {seed h q t : List UInt8} {n o n2 o2 : Int} {c3 c4 c5 : List Value} (w : World) (hg : Gat w 0 formsC ∧ Old.Gl w) (h0 : RB w S [v] seed) (h1 : RI w S1 [.int .i64 n] o) (h2 : RI w S2 [.int .i64 n2] o2) (h3 : RA 32 w S3 c3 h) (h4 : RA 32 w S4 c4 q) (h5 : RA 16 w S5 c5 t) :
    Calls Tryd.prog 11 #[v, .int .i64 n, .int .i64 n2, .agg c3.toArray, .agg c4.toArray, .agg c5.toArray] w (fun e w' => e = .returned (.bool true) ∧ Below w.heap.size w w') := by
  obtain ⟨v', hv, hb⟩ := h0
  cases hv
  obtain ⟨rfl, hh⟩ := h3
  obtain ⟨rfl, hq⟩ := h4
  obtain ⟨rfl, ht⟩ := h5
  rcases Nat.lt_or_ge 4096 seed.length with hm | hm
  · exact of_is5 (signOwnA w hg.1 hg.2 hb hh hq ht hm)
  · exact of_is5 (signOwnB w hg.1 hg.2 hb hh hq ht hm)
end Go.Proofs.YtejaohlijaodjaaDoor
