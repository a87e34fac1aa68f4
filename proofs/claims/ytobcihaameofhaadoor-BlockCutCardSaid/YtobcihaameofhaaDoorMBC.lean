/- Texts of this claim, laid together: K95. -/
import Derived.Test.YtobcihaameofhaaDoorMBG
set_option linter.unusedVariables false
set_option linter.unusedSimpArgs false

namespace Go.Proofs.YtobcihaameofhaaDoor
open Go Go.RowKit
attribute [local irreducible] wpList

theorem bs_first {W : World} {S : Nat → Prop} {A : Option Addr} {n c h : Nat} {l : List UInt8} (hb : Bs W S (.slice A n c) l) (hl : l.length = n) (hh : h ≤ n) : Bs W S (.slice A h c) (l.take h) := by
  obtain ⟨A', c', hv, h1, h2, h3⟩ := hb.op
  cases hv
  refine Bs.mk ?_ (by omega) h2
  refine ⟨by simp; omega, fun hn => ?_⟩
  obtain ⟨g, o, e1, e2, e3⟩ := h3.2 (by omega)
  refine ⟨g, o, e1, e2, fun j u hj => e3 j u ?_⟩
  rw [List.map_take, List.getElem?_take] at hj
  split at hj
  · exact hj
  · cases hj
theorem pick_ltB {v : Int} {n : Nat} (hn : 0 < n) : ∃ k : Nat, pick v (n : Int) = (k : Int) ∧ k < n := by
  have h : 0 ≤ pick v (n : Int) ∧ pick v (n : Int) < n := by
    unfold pick
    rw [if_neg (by omega)]
    exact ⟨Int.emod_nonneg _ (by omega), Int.emod_lt_of_pos _ (by omega)⟩
  exact ⟨(pick v (n : Int)).toNat, by omega, by omega⟩
theorem put_err (b : DBlock) : (Bk.put BTG b).2 = Bk.chk BTG b := by
  by_cases h : Bk.chk BTG b = 0
  · rw [put_ok h, h]
  · rw [put_bad h]
theorem len_putBk {b : DBlock} (hc : Bk.chk BTG b = 0) (hb : Bk.Ok b) : 64 ≤ (Bk.putB b).length ∧ (Bk.putB b).length ≤ 400000 := by
  obtain ⟨-, hn, hcs, -, -⟩ := Bk.chk_of hc
  have h1 := len_encH hb.1
  have h2 := Bk.len_flat_le (f := Bk.encT) (m := 16400) b.txs (fun t ht => len_encT (hcs t ht) (hb.2 t ht))
  have h3 := Pk.len_int b.txs.length
  have h4 : 64 ≤ (Bk.encH b.header).length := by
    unfold Bk.encH
    rw [List.length_append, List.length_append, hb.1.1, hb.1.2.1]
    omega
  have h5 : b.txs.length * 16400 ≤ 16 * 16400 := Nat.mul_le_mul_right _ (by omega)
  unfold Bk.putB encL
  rw [List.length_append, List.length_append]
  omega

set_option maxHeartbeats 4000000 in
theorem blockCutB {S : Nat → Prop} {A : Option Addr} {c : Nat} {b : DBlock} (w : World) (hl : RL 3 RTx w S [.slice A b.txs.length c] b.txs) (hh : Bk.OkH b.header) (hG : Gat w 0 formsC) (hB : Old.Gl w) (hz : ∀ t ∈ b.txs, Tx.Szd t) {S1 : Nat → Prop} {u : Value} {m : List UInt8} (hm : Bs w S1 u m) {ct : Int} : Calls Tryd.prog 3 [.agg (blkC b.header A b.txs.length c).toArray, .int .i64 ct, u].toArray w (Ret (Is w (.bool true))) := by
  have hok : Bk.Ok b := ⟨hh, rl_txs hl⟩
  have hm0 := hm
  obtain ⟨Am, cm, rfl, hcm1, hcm2, hmr⟩ := hm.op
  have hpe := put_err b
  refine k_enter (l := [_, _, _]) Tryd.func3 rfl rfl ?_
  have H := St.start nT w
  refine k_seq ?_
  refine k_region ?_
  refine s_eff (e_box (vs := (blkC b.header A b.txs.length c)) (w_none rfl) rfl rfl rfl rfl H ?_)
  clear H; intro gb W H
  refine s_run (w_none rfl) rfl (as_b rfl rfl) ?_
  refine l_nil ?_
  refine k_seq ?_
  refine k_seq ?_
  rcases hbig : bigL b.txs with _ | _
  · skip
    refine k_region ?_
    refine s_run (w_none rfl) rfl (d_fa rfl rfl tf28_1) ?_
    refine s_run (w_none rfl) rfl (d_ldX (g := gb) (off := 65) rfl H (sub_b_txs hh) rfl rfl ta26) ?_
    refine s_eff (e_call (w_none rfl) rfl rfl Tryd.func7 rfl rfl rfl (bigLP _ (keeps_L keeps_Tx _ _ _ _ _ hl (fun g hg _ => H.fr.block g hg (fun h => h))) hz) ?_)
    rintro _ W ⟨rfl, hb⟩
    replace H := H.below hb
    clear hb
    refine s_run (w_none rfl) rfl (mv_bx (c := false) rfl rfl (by rw [hbig])) ?_
    refine s_run (w_g rfl rfl rfl rfl) rfl (mv_s rfl rfl) ?_
    refine s_run (w_g rfl rfl rfl rfl) rfl (d_len rfl rfl tu29) ?_
    refine s_run (w_g rfl rfl rfl rfl) rfl (d_gt rfl rfl rfl) ?_
    refine s_run (w_none rfl) rfl (d_pickF rfl rfl rfl) ?_
    refine l_nil ?_
    refine k_cond rfl (fun hc21 => ?_) (fun hc21 => ?_)
    · skip
      refine k_seq ?_
      refine k_region ?_
      refine s_eff (e_call (w_none rfl) rfl rfl Tryd.func8 rfl rfl rfl (works09 _ (H.gat hG) (H.gl hB)) ?_)
      rintro _ W ⟨rfl, hb⟩
      replace H := H.below hb
      clear hb
      refine s_run (w_none rfl) rfl (as_b rfl rfl) ?_
      refine l_nil ?_
      refine k_ret ?_
      repeat (first | refine r_then ?_ | refine r_blk ?_)
      exact q_ret (v := .bool _) rfl rfl ⟨_, rfl, rfl, H.under⟩
    · have hbl : m.length ≤ 512 := by simp at hc21; omega
      refine k_skip ?_
      refine k_seq ?_
      refine k_region ?_
      refine s_run (w_none rfl) rfl (d_ldXM (g := gb) (off := 0) rfl H (sub_all (a := blkC b.header A b.txs.length c) (len_blk hh)) (len_blk hh) rfl rfl rfl ta28 ts28) ?_
      refine s_eff (e_call (w_none rfl) rfl rfl Tryd.func9 rfl rfl rfl (putBP _ (keeps_L keeps_Tx _ _ _ _ _ hl (fun g hg _ => H.fr.block g hg (fun h => h))) hh (H.gat hG) (H.gl hB)) ?_)
      rintro _ W ⟨_, rfl, A1, c1, rfl, hc1, hd1, hn⟩
      replace H := H.new hn
      clear hn
      refine s_run (w_none rfl) rfl (mv_t rfl rfl) ?_
      refine s_run (w_none rfl) rfl (d_ext rfl rfl rfl) ?_
      refine s_run (w_none rfl) rfl (d_ext rfl rfl rfl) ?_
      refine s_run (w_none rfl) rfl (as_s rfl rfl) ?_
      refine s_run (w_none rfl) rfl (as_i rfl rfl) ?_
      refine l_nil ?_
      refine k_seq ?_
      refine k_seq ?_
      refine k_region ?_
      refine s_run (w_none rfl) rfl (mv_i rfl rfl) ?_
      refine s_run (w_none rfl) rfl (d_ne rfl rfl rfl) ?_
      refine l_nil ?_
      refine k_cond rfl (fun hc29 => ?_) (fun hc29 => ?_)
      · skip
        refine k_seq ?_
        refine k_region ?_
        refine s_eff (e_call (w_none rfl) rfl rfl Tryd.func8 rfl rfl rfl (works09 _ (H.gat hG) (H.gl hB)) ?_)
        rintro _ W ⟨rfl, hb⟩
        replace H := H.below hb
        clear hb
        refine s_run (w_none rfl) rfl (as_b rfl rfl) ?_
        refine l_nil ?_
        refine k_ret ?_
        repeat (first | refine r_then ?_ | refine r_blk ?_)
        exact q_ret (v := .bool _) rfl rfl ⟨_, rfl, rfl, H.under⟩
      · have hne : Bk.chk BTG b = 0 := by rw [← hpe]; simpa using hc29
        have hp1 : (Bk.put BTG b).1 = Bk.putB b := by rw [put_ok hne]
        have hpl := len_putBk hne hok
        rw [hp1] at H hc1 ⊢
        obtain ⟨k, hk1, hk2⟩ := pick_ltB (v := ct) (show 0 < (Bk.putB b).length by omega)
        have hg1 : Bk.get BTG ((Bk.putB b).take k) = (Bk.zero, 4) := Bk.get_cut hne hok hk2
        have hg2 : Bk.get BTG (Bk.putB b ++ m) = if m = [] then (b, 0) else (Bk.zero, 5) := Bk.get_more hne hok m
        refine k_skip ?_
        refine k_seq ?_
        refine k_region ?_
        refine s_run (w_none rfl) rfl (mv_s rfl rfl) ?_
        refine s_run (w_none rfl) rfl (mv_i rfl rfl) ?_
        refine s_run (w_none rfl) rfl (mv_s rfl rfl) ?_
        refine s_run (w_none rfl) rfl (d_len rfl rfl tu29) ?_
        refine s_eff (e_call (w_none rfl) rfl rfl Tryd.func11 rfl rfl rfl (pick_any ct _ _ (by omega)) ?_)
        rintro _ W ⟨rfl, hb⟩
        replace H := H.below hb
        clear hb
        refine s_run (w_none rfl) rfl (d_cutP rfl rfl (h := k) hk1 (by omega) rfl tu29 ts5) ?_
        refine s_eff (e_call (w_none rfl) rfl rfl Tryd.func10 rfl rfl rfl (getBP _ (bs_first (h := k) (H.rowbs (A := A1) rfl) rfl (by omega)) (by rw [List.length_take]; omega) (H.gat hG) (H.gl hB)) ?_)
        rintro _ W ⟨Sb1, Ab1, cb1, rfl, hn⟩
        replace H := H.add1 hn
        clear hn
        refine s_run (w_none rfl) rfl (mv_t rfl rfl) ?_
        refine s_run (w_none rfl) rfl (d_ext rfl rfl rfl) ?_
        refine s_run (w_none rfl) rfl (d_ext rfl rfl rfl) ?_
        refine s_eff (e_alloc (w_none rfl) rfl rfl (blkC zHd none 0 0) tz28 H ?_)
        clear H; intro g5 W H
        refine s_eff (e_stoK (blkC (Bk.get BTG ((Bk.putB b).take k)).1.header Ab1 (Bk.get BTG ((Bk.putB b).take k)).1.txs.length cb1) (w_none rfl) rfl rfl rfl rfl rfl ts28 (len_blk (Bk.ok_get (TG := BTG) (b := ((Bk.putB b).take k))).1) blk_one H (by rw [len_blk zHd_ok]; decide) (spl_all ((len_blk (Bk.ok_get (TG := BTG) (b := ((Bk.putB b).take k))).1).trans (len_blk zHd_ok).symm)) ?_)
        clear H; intro W H
        refine s_run (w_none rfl) rfl (as_i rfl rfl) ?_
        refine l_nil ?_
        refine k_seq ?_
        refine k_region ?_
        refine s_run (w_none rfl) rfl (mv_s rfl rfl) ?_
        refine s_eff (e_call (w_none rfl) rfl rfl Tryd.func12 rfl rfl rfl (copyBytes _ (Bk.putB b) _ (H.rowbs (A := A1) rfl) (by omega)) ?_)
        rintro _ W ⟨A2, c2, rfl, hc2, hd2, hn⟩
        replace H := H.new hn
        clear hn
        refine s_run (w_none rfl) rfl (mv_s rfl rfl) ?_
        refine s_eff (e_app (w_none rfl) rfl rfl tu29 tx5 rfl rfl rfl H (H.rd hmr) (all_u8L _) (by omega) rfl ?_)
        clear H; intro A3 c3 W hc3 hd3 H
        rw [← List.map_append] at H
        refine s_eff (e_call (w_none rfl) rfl rfl Tryd.func10 rfl rfl rfl (getBP (b := (Bk.putB b ++ m)) _ (bs_row (H.holds _ (.head _)) (by rw [List.length_append])) (by rw [List.length_append]; omega) (H.gat hG) (H.gl hB)) ?_)
        rintro _ W ⟨Sb2, Ab2, cb2, rfl, hn⟩
        replace H := H.add1 hn
        clear hn
        refine s_run (w_none rfl) rfl (mv_t rfl rfl) ?_
        refine s_run (w_none rfl) rfl (d_ext rfl rfl rfl) ?_
        refine s_run (w_none rfl) rfl (d_ext rfl rfl rfl) ?_
        refine s_eff (e_alloc (w_none rfl) rfl rfl (blkC zHd none 0 0) tz28 H ?_)
        clear H; intro g6 W H
        refine s_eff (e_stoK (blkC (Bk.get BTG (Bk.putB b ++ m)).1.header Ab2 (Bk.get BTG (Bk.putB b ++ m)).1.txs.length cb2) (w_none rfl) rfl rfl rfl rfl rfl ts28 (len_blk (Bk.ok_get (TG := BTG) (b := (Bk.putB b ++ m))).1) blk_one H (by rw [len_blk zHd_ok]; decide) (spl_all ((len_blk (Bk.ok_get (TG := BTG) (b := (Bk.putB b ++ m))).1).trans (len_blk zHd_ok).symm)) ?_)
        clear H; intro W H
        refine s_run (w_none rfl) rfl (as_i rfl rfl) ?_
        refine l_nil ?_
        refine k_seq ?_
        refine k_region ?_
        refine s_run (w_none rfl) rfl (as_i rfl rfl) ?_
        refine l_nil ?_
        refine k_seq ?_
        refine k_seq ?_
        refine k_region ?_
        refine s_run (w_none rfl) rfl (mv_s rfl rfl) ?_
        refine s_run (w_none rfl) rfl (d_len rfl rfl tu29) ?_
        refine s_run (w_none rfl) rfl (d_eq rfl rfl rfl) ?_
        refine l_nil ?_
        refine k_cond rfl (fun hc51 => ?_) (fun hc51 => ?_)
        · have hm1 : m = [] := by simpa using hc51
          refine k_region ?_
          refine s_run (w_none rfl) rfl (as_i rfl rfl) ?_
          refine l_nil ?_
          refine k_seq ?_
          refine k_region ?_
          refine s_run (w_none rfl) rfl (mv_i rfl rfl) ?_
          refine s_run (w_none rfl) rfl (d_eq rfl rfl rfl) ?_
          refine s_run (w_none rfl) rfl (mv_bx (c := true) rfl rfl (by rw [hg1]; rfl)) ?_
          refine s_run (w_g rfl rfl rfl rfl) rfl (mv_i rfl rfl) ?_
          refine s_run (w_g rfl rfl rfl rfl) rfl (mv_i rfl rfl) ?_
          refine s_run (w_g rfl rfl rfl rfl) rfl (d_eq rfl rfl rfl) ?_
          refine s_run (w_none rfl) rfl (d_pickT rfl rfl rfl) ?_
          refine s_run (w_none rfl) rfl (mv_bx (c := true) rfl rfl (by rw [hg2, if_pos hm1]; rfl)) ?_
          refine s_eff (e_call (w_g rfl rfl rfl rfl) rfl rfl Tryd.func8 rfl rfl rfl (works09 _ (H.gat hG) (H.gl hB)) ?_)
          rintro _ W ⟨rfl, hb⟩
          replace H := H.below hb
          clear hb
          refine s_run (w_none rfl) rfl (d_pickT rfl rfl rfl) ?_
          refine s_run (w_none rfl) rfl (as_b rfl rfl) ?_
          refine l_nil ?_
          refine k_ret ?_
          repeat (first | refine r_then ?_ | refine r_blk ?_)
          exact q_ret (v := .bool _) rfl rfl ⟨_, rfl, rfl, H.under⟩
        · have hm1 : ¬ m = [] := by simpa using hc51
          refine k_skip ?_
          refine k_seq ?_
          refine k_region ?_
          refine s_run (w_none rfl) rfl (mv_i rfl rfl) ?_
          refine s_run (w_none rfl) rfl (d_eq rfl rfl rfl) ?_
          refine s_run (w_none rfl) rfl (mv_bx (c := true) rfl rfl (by rw [hg1]; rfl)) ?_
          refine s_run (w_g rfl rfl rfl rfl) rfl (mv_i rfl rfl) ?_
          refine s_run (w_g rfl rfl rfl rfl) rfl (mv_i rfl rfl) ?_
          refine s_run (w_g rfl rfl rfl rfl) rfl (d_eq rfl rfl rfl) ?_
          refine s_run (w_none rfl) rfl (d_pickT rfl rfl rfl) ?_
          refine s_run (w_none rfl) rfl (mv_bx (c := true) rfl rfl (by rw [hg2, if_neg hm1]; rfl)) ?_
          refine s_eff (e_call (w_g rfl rfl rfl rfl) rfl rfl Tryd.func8 rfl rfl rfl (works09 _ (H.gat hG) (H.gl hB)) ?_)
          rintro _ W ⟨rfl, hb⟩
          replace H := H.below hb
          clear hb
          refine s_run (w_none rfl) rfl (d_pickT rfl rfl rfl) ?_
          refine s_run (w_none rfl) rfl (as_b rfl rfl) ?_
          refine l_nil ?_
          refine k_ret ?_
          repeat (first | refine r_then ?_ | refine r_blk ?_)
          exact q_ret (v := .bool _) rfl rfl ⟨_, rfl, rfl, H.under⟩
  · skip
    refine k_region ?_
    refine s_run (w_none rfl) rfl (d_fa rfl rfl tf28_1) ?_
    refine s_run (w_none rfl) rfl (d_ldX (g := gb) (off := 65) rfl H (sub_b_txs hh) rfl rfl ta26) ?_
    refine s_eff (e_call (w_none rfl) rfl rfl Tryd.func7 rfl rfl rfl (bigLP _ (keeps_L keeps_Tx _ _ _ _ _ hl (fun g hg _ => H.fr.block g hg (fun h => h))) hz) ?_)
    rintro _ W ⟨rfl, hb⟩
    replace H := H.below hb
    clear hb
    refine s_run (w_none rfl) rfl (mv_bx (c := true) rfl rfl (by rw [hbig])) ?_
    refine s_skip (w_gno rfl rfl rfl rfl rfl) rfl ?_
    refine s_skip (w_gno rfl rfl rfl rfl rfl) rfl ?_
    refine s_skip (w_gno rfl rfl rfl rfl rfl) rfl ?_
    refine s_run (w_none rfl) rfl (d_pickT rfl rfl rfl) ?_
    refine l_nil ?_
    refine k_condT rfl rfl ?_
    refine k_seq ?_
    refine k_region ?_
    refine s_eff (e_call (w_none rfl) rfl rfl Tryd.func8 rfl rfl rfl (works09 _ (H.gat hG) (H.gl hB)) ?_)
    rintro _ W ⟨rfl, hb⟩
    replace H := H.below hb
    clear hb
    refine s_run (w_none rfl) rfl (as_b rfl rfl) ?_
    refine l_nil ?_
    refine k_ret ?_
    repeat (first | refine r_then ?_ | refine r_blk ?_)
    exact q_ret (v := .bool _) rfl rfl ⟨_, rfl, rfl, H.under⟩

set_option maxHeartbeats 4000000 in
theorem blockBackB {S : Nat → Prop} {A : Option Addr} {c : Nat} {b : DBlock} (w : World) (hl : RL 3 RTx w S [.slice A b.txs.length c] b.txs) (hh : Bk.OkH b.header) (hG : Gat w 0 formsC) (hB : Old.Gl w) (hz : ∀ t ∈ b.txs, Tx.Szd t) {S1 : Nat → Prop} {u : Value} {m : List UInt8} (hm : Bs w S1 u m) : Calls Tryd.prog 6 [.agg (blkC b.header A b.txs.length c).toArray, u].toArray w (Ret (Is w (.bool true))) := by
  have hok : Bk.Ok b := ⟨hh, rl_txs hl⟩
  have hm0 := hm
  obtain ⟨Am, cm, rfl, hcm1, hcm2, hmr⟩ := hm.op
  have hpe := put_err b
  refine k_enter (l := [_, _]) Tryd.func6 rfl rfl ?_
  have H := St.start nT w
  refine k_seq ?_
  refine k_region ?_
  refine s_eff (e_box (vs := (blkC b.header A b.txs.length c)) (w_none rfl) rfl rfl rfl rfl H ?_)
  clear H; intro gb W H
  refine s_run (w_none rfl) rfl (as_b rfl rfl) ?_
  refine l_nil ?_
  refine k_seq ?_
  refine k_seq ?_
  rcases hbig : bigL b.txs with _ | _
  · skip
    refine k_region ?_
    refine s_run (w_none rfl) rfl (d_fa rfl rfl tf28_1) ?_
    refine s_run (w_none rfl) rfl (d_ldX (g := gb) (off := 65) rfl H (sub_b_txs hh) rfl rfl ta26) ?_
    refine s_eff (e_call (w_none rfl) rfl rfl Tryd.func7 rfl rfl rfl (bigLP _ (keeps_L keeps_Tx _ _ _ _ _ hl (fun g hg _ => H.fr.block g hg (fun h => h))) hz) ?_)
    rintro _ W ⟨rfl, hb⟩
    replace H := H.below hb
    clear hb
    refine s_run (w_none rfl) rfl (mv_bx (c := false) rfl rfl (by rw [hbig])) ?_
    refine s_run (w_g rfl rfl rfl rfl) rfl (mv_s rfl rfl) ?_
    refine s_run (w_g rfl rfl rfl rfl) rfl (d_len rfl rfl tu29) ?_
    refine s_run (w_g rfl rfl rfl rfl) rfl (d_gt rfl rfl rfl) ?_
    refine s_run (w_none rfl) rfl (d_pickF rfl rfl rfl) ?_
    refine l_nil ?_
    refine k_cond rfl (fun hc20 => ?_) (fun hc20 => ?_)
    · skip
      refine k_seq ?_
      refine k_region ?_
      refine s_eff (e_call (w_none rfl) rfl rfl Tryd.func8 rfl rfl rfl (works09 _ (H.gat hG) (H.gl hB)) ?_)
      rintro _ W ⟨rfl, hb⟩
      replace H := H.below hb
      clear hb
      refine s_run (w_none rfl) rfl (as_b rfl rfl) ?_
      refine l_nil ?_
      refine k_ret ?_
      repeat (first | refine r_then ?_ | refine r_blk ?_)
      exact q_ret (v := .bool _) rfl rfl ⟨_, rfl, rfl, H.under⟩
    · have hbl : m.length ≤ 32768 := by simp at hc20; omega
      refine k_skip ?_
      refine k_seq ?_
      refine k_region ?_
      refine s_run (w_none rfl) rfl (d_ldXM (g := gb) (off := 0) rfl H (sub_all (a := blkC b.header A b.txs.length c) (len_blk hh)) (len_blk hh) rfl rfl rfl ta28 ts28) ?_
      refine s_eff (e_call (w_none rfl) rfl rfl Tryd.func9 rfl rfl rfl (putBP _ (keeps_L keeps_Tx _ _ _ _ _ hl (fun g hg _ => H.fr.block g hg (fun h => h))) hh (H.gat hG) (H.gl hB)) ?_)
      rintro _ W ⟨_, rfl, A1, c1, rfl, hc1, hd1, hn⟩
      replace H := H.new hn
      clear hn
      refine s_run (w_none rfl) rfl (mv_t rfl rfl) ?_
      refine s_run (w_none rfl) rfl (d_ext rfl rfl rfl) ?_
      refine s_run (w_none rfl) rfl (d_ext rfl rfl rfl) ?_
      refine s_run (w_none rfl) rfl (as_s rfl rfl) ?_
      refine s_run (w_none rfl) rfl (as_i rfl rfl) ?_
      refine l_nil ?_
      refine k_seq ?_
      refine k_seq ?_
      by_cases hne : Bk.chk BTG b = 0
      · have hp1 : (Bk.put BTG b).1 = Bk.putB b := by rw [put_ok hne]
        have hpl := len_putBk hne hok
        rw [hp1] at H hc1 ⊢
        have hge : Bk.get BTG (Bk.putB b) = (b, 0) := Bk.get_put hne hok
        refine k_region ?_
        refine s_run (w_none rfl) rfl (mv_i rfl rfl) ?_
        refine s_run (w_none rfl) rfl (d_ldXM (g := gb) (off := 0) rfl H (sub_all (a := blkC b.header A b.txs.length c) (len_blk hh)) (len_blk hh) rfl rfl rfl ta28 ts28) ?_
        refine s_eff (e_call (w_none rfl) rfl rfl Tryd.func21 rfl rfl rfl (checkBP _ (keeps_L keeps_Tx _ _ _ _ _ hl (fun g hg _ => H.fr.block g hg (fun h => h))) hh (H.gat hG) (H.gl hB)) ?_)
        rintro _ W ⟨rfl, hb⟩
        replace H := H.below hb
        clear hb
        refine s_run (w_none rfl) rfl (d_ne rfl rfl rfl) ?_
        refine s_run (w_none rfl) rfl (mv_bx (c := false) rfl rfl (by rw [hpe]; simp)) ?_
        refine s_run (w_g rfl rfl rfl rfl) rfl (mv_i rfl rfl) ?_
        refine s_run (w_g rfl rfl rfl rfl) rfl (d_ne rfl rfl rfl) ?_
        refine s_run (w_g rfl rfl rfl rfl) rfl (mv_bx (c := false) rfl rfl (by rw [hpe]; simp [hne])) ?_
        refine s_skip (w_gno rfl rfl rfl rfl rfl) rfl ?_
        refine s_skip (w_gno rfl rfl rfl rfl rfl) rfl ?_
        refine s_skip (w_gno rfl rfl rfl rfl rfl) rfl ?_
        refine s_run (w_g rfl rfl rfl rfl) rfl (d_pickF rfl rfl rfl) ?_
        refine s_run (w_none rfl) rfl (d_pickF rfl rfl rfl) ?_
        refine l_nil ?_
        refine k_condF rfl rfl ?_
        refine k_skip ?_
        refine k_seq ?_
        refine k_seq ?_
        refine k_region ?_
        refine s_run (w_none rfl) rfl (mv_i rfl rfl) ?_
        refine s_run (w_none rfl) rfl (d_eq rfl rfl rfl) ?_
        refine l_nil ?_
        refine k_condT rfl (by rw [hpe, hne]; rfl) ?_
        refine k_seq ?_
        refine k_region ?_
        refine s_run (w_none rfl) rfl (mv_s rfl rfl) ?_
        refine s_eff (e_call (w_none rfl) rfl rfl Tryd.func10 rfl rfl rfl (getBP _ (H.rowbs (A := A1) rfl) (by omega) (H.gat hG) (H.gl hB)) ?_)
        rintro _ W ⟨Sb1, Ab1, cb1, rfl, hn⟩
        replace H := H.add1 hn
        clear hn
        refine s_run (w_none rfl) rfl (mv_t rfl rfl) ?_
        refine s_run (w_none rfl) rfl (d_ext rfl rfl rfl) ?_
        refine s_run (w_none rfl) rfl (d_ext rfl rfl rfl) ?_
        refine s_eff (e_alloc (w_none rfl) rfl rfl (blkC zHd none 0 0) tz28 H ?_)
        clear H; intro g5 W H
        refine s_eff (e_stoK (blkC (Bk.get BTG (Bk.putB b)).1.header Ab1 (Bk.get BTG (Bk.putB b)).1.txs.length cb1) (w_none rfl) rfl rfl rfl rfl rfl ts28 (len_blk (Bk.ok_get (TG := BTG) (b := (Bk.putB b))).1) blk_one H (by rw [len_blk zHd_ok]; decide) (spl_all ((len_blk (Bk.ok_get (TG := BTG) (b := (Bk.putB b))).1).trans (len_blk zHd_ok).symm)) ?_)
        clear H; intro W H
        refine s_run (w_none rfl) rfl (as_i rfl rfl) ?_
        refine l_nil ?_
        refine k_seq ?_
        refine k_region ?_
        refine s_run (w_none rfl) rfl (mv_i rfl rfl) ?_
        refine s_run (w_none rfl) rfl (d_ne rfl rfl rfl) ?_
        refine s_run (w_none rfl) rfl (mv_bx (c := false) rfl rfl (by rw [hge]; rfl)) ?_
        refine s_run (w_g rfl rfl rfl rfl) rfl (d_ldXM (g := g5) (off := 0) rfl H (sub_all (a := blkC (Bk.get BTG (Bk.putB b)).1.header Ab1 (Bk.get BTG (Bk.putB b)).1.txs.length cb1) (len_blk (Bk.ok_get (TG := BTG) (b := (Bk.putB b))).1)) (len_blk (Bk.ok_get (TG := BTG) (b := (Bk.putB b))).1) rfl rfl rfl ta28 ts28) ?_
        refine s_run (w_g rfl rfl rfl rfl) rfl (d_ldXM (g := gb) (off := 0) rfl H (sub_all (a := blkC b.header A b.txs.length c) (len_blk hh)) (len_blk hh) rfl rfl rfl ta28 ts28) ?_
        refine s_eff (e_call (w_g rfl rfl rfl rfl) rfl rfl Tryd.func23 rfl rfl rfl (sameBlock _ (H.rep1 (R := RL 3 RTx) (S := Sb1) (cs := [.slice Ab1 (Bk.get BTG (Bk.putB b)).1.txs.length cb1]) (a := (Bk.get BTG (Bk.putB b)).1.txs)) (keeps_L keeps_Tx _ _ _ _ _ hl (fun g hg _ => H.fr.block g hg (fun h => h))) (Bk.ok_get (TG := BTG) (b := (Bk.putB b))).1 hh) ?_)
        rintro _ W ⟨rfl, hb⟩
        replace H := H.below hb
        clear hb
        refine s_run (w_g rfl rfl rfl rfl) rfl (d_not rfl rfl) ?_
        refine s_run (w_none rfl) rfl (d_pickF rfl rfl rfl) ?_
        refine l_nil ?_
        refine k_condF rfl (by rw [hge]; simp) ?_
        refine k_skip ?_
        refine k_seq ?_
        refine k_region ?_
        refine s_run (w_none rfl) rfl (mv_s rfl rfl) ?_
        refine s_eff (e_call (w_none rfl) rfl rfl Tryd.func10 rfl rfl rfl (getBP _ (H.bs hm0) (by omega) (H.gat hG) (H.gl hB)) ?_)
        rintro _ W ⟨Sb2, Ab2, cb2, rfl, hn⟩
        replace H := H.add1 hn
        clear hn
        refine s_run (w_none rfl) rfl (mv_t rfl rfl) ?_
        refine s_run (w_none rfl) rfl (d_ext rfl rfl rfl) ?_
        refine s_run (w_none rfl) rfl (d_ext rfl rfl rfl) ?_
        refine s_eff (e_alloc (w_none rfl) rfl rfl (blkC zHd none 0 0) tz28 H ?_)
        clear H; intro g6 W H
        refine s_eff (e_stoK (blkC (Bk.get BTG m).1.header Ab2 (Bk.get BTG m).1.txs.length cb2) (w_none rfl) rfl rfl rfl rfl rfl ts28 (len_blk (Bk.ok_get (TG := BTG) (b := m)).1) blk_one H (by rw [len_blk zHd_ok]; decide) (spl_all ((len_blk (Bk.ok_get (TG := BTG) (b := m)).1).trans (len_blk zHd_ok).symm)) ?_)
        clear H; intro W H
        refine s_run (w_none rfl) rfl (as_i rfl rfl) ?_
        refine l_nil ?_
        refine k_seq ?_
        refine k_seq ?_
        refine k_region ?_
        refine s_run (w_none rfl) rfl (mv_i rfl rfl) ?_
        refine s_run (w_none rfl) rfl (d_ne rfl rfl rfl) ?_
        refine l_nil ?_
        refine k_cond rfl (fun hc61 => ?_) (fun hc61 => ?_)
        · have hgn : (Bk.get BTG m).2 ≠ 0 := by simpa using hc61
          refine k_seq ?_
          refine k_region ?_
          refine s_run (w_none rfl) rfl (d_ldXM (g := g6) (off := 0) rfl H (sub_all (a := blkC (Bk.get BTG m).1.header Ab2 (Bk.get BTG m).1.txs.length cb2) (len_blk (Bk.ok_get (TG := BTG) (b := m)).1)) (len_blk (Bk.ok_get (TG := BTG) (b := m)).1) rfl rfl rfl ta28 ts28) ?_
          refine s_run (w_none rfl) rfl (d_build (vs := blkC zHd none 0 0) rfl (by kernel_rfl)) ?_
          refine s_eff (e_call (w_none rfl) rfl rfl Tryd.func23 rfl rfl rfl (sameBlock (b := Bz.zB) _ (H.rep1 (R := RL 3 RTx) (S := Sb2) (cs := [.slice Ab2 (Bk.get BTG m).1.txs.length cb2]) (a := (Bk.get BTG m).1.txs)) (rl_nil (S := nT)) (Bk.ok_get (TG := BTG) (b := m)).1 zHd_ok) ?_)
          rintro _ W ⟨rfl, hb⟩
          replace H := H.below hb
          clear hb
          refine s_run (w_none rfl) rfl (mv_bx (c := true) rfl rfl (by rw [Bk.get_zero hgn]; exact decide_eq_true rfl)) ?_
          refine s_eff (e_call (w_g rfl rfl rfl rfl) rfl rfl Tryd.func8 rfl rfl rfl (works09 _ (H.gat hG) (H.gl hB)) ?_)
          rintro _ W ⟨rfl, hb⟩
          replace H := H.below hb
          clear hb
          refine s_run (w_none rfl) rfl (d_pickT rfl rfl rfl) ?_
          refine s_run (w_none rfl) rfl (as_b rfl rfl) ?_
          refine l_nil ?_
          refine k_ret ?_
          repeat (first | refine r_then ?_ | refine r_blk ?_)
          exact q_ret (v := .bool _) rfl rfl ⟨_, rfl, rfl, H.under⟩
        · have hgn : (Bk.get BTG m).2 = 0 := by simpa using hc61
          obtain ⟨hgc, hgb⟩ := Bk.get_back hgn
          have hgp : Bk.put BTG (Bk.get BTG m).1 = (m, 0) := by rw [put_ok hgc, hgb]
          refine k_skip ?_
          refine k_seq ?_
          refine k_region ?_
          refine s_run (w_none rfl) rfl (d_ldXM (g := g6) (off := 0) rfl H (sub_all (a := blkC (Bk.get BTG m).1.header Ab2 (Bk.get BTG m).1.txs.length cb2) (len_blk (Bk.ok_get (TG := BTG) (b := m)).1)) (len_blk (Bk.ok_get (TG := BTG) (b := m)).1) rfl rfl rfl ta28 ts28) ?_
          refine s_eff (e_call (w_none rfl) rfl rfl Tryd.func9 rfl rfl rfl (putBP _ (H.rep1 (R := RL 3 RTx) (S := Sb2) (cs := [.slice Ab2 (Bk.get BTG m).1.txs.length cb2]) (a := (Bk.get BTG m).1.txs)) (Bk.ok_get (TG := BTG) (b := m)).1 (H.gat hG) (H.gl hB)) ?_)
          rintro _ W ⟨_, rfl, A3, c3, rfl, hc3, hd3, hn⟩
          replace H := H.new hn
          clear hn
          refine s_run (w_none rfl) rfl (mv_t rfl rfl) ?_
          refine s_run (w_none rfl) rfl (d_ext rfl rfl rfl) ?_
          refine s_run (w_none rfl) rfl (d_ext rfl rfl rfl) ?_
          refine s_run (w_none rfl) rfl (as_s rfl rfl) ?_
          refine s_run (w_none rfl) rfl (as_i rfl rfl) ?_
          refine l_nil ?_
          refine k_seq ?_
          refine k_region ?_
          refine s_run (w_none rfl) rfl (mv_i rfl rfl) ?_
          refine s_run (w_none rfl) rfl (d_eq rfl rfl rfl) ?_
          refine s_run (w_none rfl) rfl (mv_bx (c := true) rfl rfl (by rw [hgp]; rfl)) ?_
          refine s_run (w_g rfl rfl rfl rfl) rfl (mv_s rfl rfl) ?_
          refine s_run (w_g rfl rfl rfl rfl) rfl (mv_s rfl rfl) ?_
          refine s_eff (e_call (w_g rfl rfl rfl rfl) rfl rfl Tryd.func24 rfl rfl rfl (sameBytes _ _ (Bk.put BTG (Bk.get BTG m).1).1 m _ (H.rowbs (A := A3) rfl) (H.bs hm0)) ?_)
          rintro _ W ⟨rfl, hb⟩
          replace H := H.below hb
          clear hb
          refine s_run (w_none rfl) rfl (d_pickT rfl rfl rfl) ?_
          refine s_run (w_none rfl) rfl (mv_bx (c := true) rfl rfl (by rw [hgp]; exact decide_eq_true rfl)) ?_
          refine s_eff (e_call (w_g rfl rfl rfl rfl) rfl rfl Tryd.func8 rfl rfl rfl (works09 _ (H.gat hG) (H.gl hB)) ?_)
          rintro _ W ⟨rfl, hb⟩
          replace H := H.below hb
          clear hb
          refine s_run (w_none rfl) rfl (d_pickT rfl rfl rfl) ?_
          refine s_run (w_none rfl) rfl (as_b rfl rfl) ?_
          refine l_nil ?_
          refine k_ret ?_
          repeat (first | refine r_then ?_ | refine r_blk ?_)
          exact q_ret (v := .bool _) rfl rfl ⟨_, rfl, rfl, H.under⟩
      · have hpb : (Bk.put BTG b).1 = [] := by rw [put_bad hne]
        refine k_region ?_
        refine s_run (w_none rfl) rfl (mv_i rfl rfl) ?_
        refine s_run (w_none rfl) rfl (d_ldXM (g := gb) (off := 0) rfl H (sub_all (a := blkC b.header A b.txs.length c) (len_blk hh)) (len_blk hh) rfl rfl rfl ta28 ts28) ?_
        refine s_eff (e_call (w_none rfl) rfl rfl Tryd.func21 rfl rfl rfl (checkBP _ (keeps_L keeps_Tx _ _ _ _ _ hl (fun g hg _ => H.fr.block g hg (fun h => h))) hh (H.gat hG) (H.gl hB)) ?_)
        rintro _ W ⟨rfl, hb⟩
        replace H := H.below hb
        clear hb
        refine s_run (w_none rfl) rfl (d_ne rfl rfl rfl) ?_
        refine s_run (w_none rfl) rfl (mv_bx (c := false) rfl rfl (by rw [hpe]; simp)) ?_
        refine s_run (w_g rfl rfl rfl rfl) rfl (mv_i rfl rfl) ?_
        refine s_run (w_g rfl rfl rfl rfl) rfl (d_ne rfl rfl rfl) ?_
        refine s_run (w_g rfl rfl rfl rfl) rfl (mv_bx (c := true) rfl rfl (by rw [hpe]; simp [hne])) ?_
        refine s_run (w_g rfl rfl rfl rfl) rfl (mv_s rfl rfl) ?_
        refine s_run (w_g rfl rfl rfl rfl) rfl (d_len rfl rfl tu29) ?_
        refine s_run (w_g rfl rfl rfl rfl) rfl (d_gt rfl rfl rfl) ?_
        refine s_run (w_g rfl rfl rfl rfl) rfl (d_pickT rfl rfl rfl) ?_
        refine s_run (w_none rfl) rfl (d_pickF rfl rfl rfl) ?_
        refine l_nil ?_
        refine k_condF rfl (by rw [hpb]; rfl) ?_
        refine k_skip ?_
        refine k_seq ?_
        refine k_seq ?_
        refine k_region ?_
        refine s_run (w_none rfl) rfl (mv_i rfl rfl) ?_
        refine s_run (w_none rfl) rfl (d_eq rfl rfl rfl) ?_
        refine l_nil ?_
        refine k_condF rfl (by rw [hpe]; simpa using hne) ?_
        refine k_skip ?_
        refine k_seq ?_
        refine k_region ?_
        refine s_run (w_none rfl) rfl (mv_s rfl rfl) ?_
        refine s_eff (e_call (w_none rfl) rfl rfl Tryd.func10 rfl rfl rfl (getBP _ (H.bs hm0) (by omega) (H.gat hG) (H.gl hB)) ?_)
        rintro _ W ⟨Sb2, Ab2, cb2, rfl, hn⟩
        replace H := H.add1 hn
        clear hn
        refine s_run (w_none rfl) rfl (mv_t rfl rfl) ?_
        refine s_run (w_none rfl) rfl (d_ext rfl rfl rfl) ?_
        refine s_run (w_none rfl) rfl (d_ext rfl rfl rfl) ?_
        refine s_eff (e_alloc (w_none rfl) rfl rfl (blkC zHd none 0 0) tz28 H ?_)
        clear H; intro g6 W H
        refine s_eff (e_stoK (blkC (Bk.get BTG m).1.header Ab2 (Bk.get BTG m).1.txs.length cb2) (w_none rfl) rfl rfl rfl rfl rfl ts28 (len_blk (Bk.ok_get (TG := BTG) (b := m)).1) blk_one H (by rw [len_blk zHd_ok]; decide) (spl_all ((len_blk (Bk.ok_get (TG := BTG) (b := m)).1).trans (len_blk zHd_ok).symm)) ?_)
        clear H; intro W H
        refine s_run (w_none rfl) rfl (as_i rfl rfl) ?_
        refine l_nil ?_
        refine k_seq ?_
        refine k_seq ?_
        refine k_region ?_
        refine s_run (w_none rfl) rfl (mv_i rfl rfl) ?_
        refine s_run (w_none rfl) rfl (d_ne rfl rfl rfl) ?_
        refine l_nil ?_
        refine k_cond rfl (fun hc61 => ?_) (fun hc61 => ?_)
        · have hgn : (Bk.get BTG m).2 ≠ 0 := by simpa using hc61
          refine k_seq ?_
          refine k_region ?_
          refine s_run (w_none rfl) rfl (d_ldXM (g := g6) (off := 0) rfl H (sub_all (a := blkC (Bk.get BTG m).1.header Ab2 (Bk.get BTG m).1.txs.length cb2) (len_blk (Bk.ok_get (TG := BTG) (b := m)).1)) (len_blk (Bk.ok_get (TG := BTG) (b := m)).1) rfl rfl rfl ta28 ts28) ?_
          refine s_run (w_none rfl) rfl (d_build (vs := blkC zHd none 0 0) rfl (by kernel_rfl)) ?_
          refine s_eff (e_call (w_none rfl) rfl rfl Tryd.func23 rfl rfl rfl (sameBlock (b := Bz.zB) _ (H.rep1 (R := RL 3 RTx) (S := Sb2) (cs := [.slice Ab2 (Bk.get BTG m).1.txs.length cb2]) (a := (Bk.get BTG m).1.txs)) (rl_nil (S := nT)) (Bk.ok_get (TG := BTG) (b := m)).1 zHd_ok) ?_)
          rintro _ W ⟨rfl, hb⟩
          replace H := H.below hb
          clear hb
          refine s_run (w_none rfl) rfl (mv_bx (c := true) rfl rfl (by rw [Bk.get_zero hgn]; exact decide_eq_true rfl)) ?_
          refine s_eff (e_call (w_g rfl rfl rfl rfl) rfl rfl Tryd.func8 rfl rfl rfl (works09 _ (H.gat hG) (H.gl hB)) ?_)
          rintro _ W ⟨rfl, hb⟩
          replace H := H.below hb
          clear hb
          refine s_run (w_none rfl) rfl (d_pickT rfl rfl rfl) ?_
          refine s_run (w_none rfl) rfl (as_b rfl rfl) ?_
          refine l_nil ?_
          refine k_ret ?_
          repeat (first | refine r_then ?_ | refine r_blk ?_)
          exact q_ret (v := .bool _) rfl rfl ⟨_, rfl, rfl, H.under⟩
        · have hgn : (Bk.get BTG m).2 = 0 := by simpa using hc61
          obtain ⟨hgc, hgb⟩ := Bk.get_back hgn
          have hgp : Bk.put BTG (Bk.get BTG m).1 = (m, 0) := by rw [put_ok hgc, hgb]
          refine k_skip ?_
          refine k_seq ?_
          refine k_region ?_
          refine s_run (w_none rfl) rfl (d_ldXM (g := g6) (off := 0) rfl H (sub_all (a := blkC (Bk.get BTG m).1.header Ab2 (Bk.get BTG m).1.txs.length cb2) (len_blk (Bk.ok_get (TG := BTG) (b := m)).1)) (len_blk (Bk.ok_get (TG := BTG) (b := m)).1) rfl rfl rfl ta28 ts28) ?_
          refine s_eff (e_call (w_none rfl) rfl rfl Tryd.func9 rfl rfl rfl (putBP _ (H.rep1 (R := RL 3 RTx) (S := Sb2) (cs := [.slice Ab2 (Bk.get BTG m).1.txs.length cb2]) (a := (Bk.get BTG m).1.txs)) (Bk.ok_get (TG := BTG) (b := m)).1 (H.gat hG) (H.gl hB)) ?_)
          rintro _ W ⟨_, rfl, A3, c3, rfl, hc3, hd3, hn⟩
          replace H := H.new hn
          clear hn
          refine s_run (w_none rfl) rfl (mv_t rfl rfl) ?_
          refine s_run (w_none rfl) rfl (d_ext rfl rfl rfl) ?_
          refine s_run (w_none rfl) rfl (d_ext rfl rfl rfl) ?_
          refine s_run (w_none rfl) rfl (as_s rfl rfl) ?_
          refine s_run (w_none rfl) rfl (as_i rfl rfl) ?_
          refine l_nil ?_
          refine k_seq ?_
          refine k_region ?_
          refine s_run (w_none rfl) rfl (mv_i rfl rfl) ?_
          refine s_run (w_none rfl) rfl (d_eq rfl rfl rfl) ?_
          refine s_run (w_none rfl) rfl (mv_bx (c := true) rfl rfl (by rw [hgp]; rfl)) ?_
          refine s_run (w_g rfl rfl rfl rfl) rfl (mv_s rfl rfl) ?_
          refine s_run (w_g rfl rfl rfl rfl) rfl (mv_s rfl rfl) ?_
          refine s_eff (e_call (w_g rfl rfl rfl rfl) rfl rfl Tryd.func24 rfl rfl rfl (sameBytes _ _ (Bk.put BTG (Bk.get BTG m).1).1 m _ (H.rowbs (A := A3) rfl) (H.bs hm0)) ?_)
          rintro _ W ⟨rfl, hb⟩
          replace H := H.below hb
          clear hb
          refine s_run (w_none rfl) rfl (d_pickT rfl rfl rfl) ?_
          refine s_run (w_none rfl) rfl (mv_bx (c := true) rfl rfl (by rw [hgp]; exact decide_eq_true rfl)) ?_
          refine s_eff (e_call (w_g rfl rfl rfl rfl) rfl rfl Tryd.func8 rfl rfl rfl (works09 _ (H.gat hG) (H.gl hB)) ?_)
          rintro _ W ⟨rfl, hb⟩
          replace H := H.below hb
          clear hb
          refine s_run (w_none rfl) rfl (d_pickT rfl rfl rfl) ?_
          refine s_run (w_none rfl) rfl (as_b rfl rfl) ?_
          refine l_nil ?_
          refine k_ret ?_
          repeat (first | refine r_then ?_ | refine r_blk ?_)
          exact q_ret (v := .bool _) rfl rfl ⟨_, rfl, rfl, H.under⟩
  · skip
    refine k_region ?_
    refine s_run (w_none rfl) rfl (d_fa rfl rfl tf28_1) ?_
    refine s_run (w_none rfl) rfl (d_ldX (g := gb) (off := 65) rfl H (sub_b_txs hh) rfl rfl ta26) ?_
    refine s_eff (e_call (w_none rfl) rfl rfl Tryd.func7 rfl rfl rfl (bigLP _ (keeps_L keeps_Tx _ _ _ _ _ hl (fun g hg _ => H.fr.block g hg (fun h => h))) hz) ?_)
    rintro _ W ⟨rfl, hb⟩
    replace H := H.below hb
    clear hb
    refine s_run (w_none rfl) rfl (mv_bx (c := true) rfl rfl (by rw [hbig])) ?_
    refine s_skip (w_gno rfl rfl rfl rfl rfl) rfl ?_
    refine s_skip (w_gno rfl rfl rfl rfl rfl) rfl ?_
    refine s_skip (w_gno rfl rfl rfl rfl rfl) rfl ?_
    refine s_run (w_none rfl) rfl (d_pickT rfl rfl rfl) ?_
    refine l_nil ?_
    refine k_condT rfl rfl ?_
    refine k_seq ?_
    refine k_region ?_
    refine s_eff (e_call (w_none rfl) rfl rfl Tryd.func8 rfl rfl rfl (works09 _ (H.gat hG) (H.gl hB)) ?_)
    rintro _ W ⟨rfl, hb⟩
    replace H := H.below hb
    clear hb
    refine s_run (w_none rfl) rfl (as_b rfl rfl) ?_
    refine l_nil ?_
    refine k_ret ?_
    repeat (first | refine r_then ?_ | refine r_blk ?_)
    exact q_ret (v := .bool _) rfl rfl ⟨_, rfl, rfl, H.under⟩
end Go.Proofs.YtobcihaameofhaaDoor
