/- Texts of this claim, laid together: K5D, K5E. -/
import Derived.Test.YtfhhfhdnhadooaaGreatDoorMBN
import Derived.Test.YtfhhfhdnhadooaaGreatDoorMBF
import Derived.Test.YtfhhfhdnhadooaaGreatDoorMBZ
import Derived.Test.YtfhhfhdnhadooaaGreatDoorMBK
import Derived.Test.YtfhhfhdnhadooaaGreatDoorMBC
import Derived.Test.YtfhhfhdnhadooaaGreatDoorMB
set_option linter.unusedVariables false
set_option linter.unusedSimpArgs false

namespace Go.Proofs.YtfhhfhdnhadooaaGreatDoor
open Go Go.RowKit
attribute [local irreducible] wpList

set_option maxHeartbeats 4000000 in
theorem copyTxs {S : Nat → Prop} {A : Option Addr} {c : Nat} {l : List DTx} (w : World) (hl : RL 3 RTx w S [.slice A l.length c] l) (hn : l.length ≤ 1000000) (hf : ∀ t ∈ l, Tx.Fits t) : Calls Tryz.prog 7 [.slice A l.length c].toArray w (Ret (fun v' w' => ∃ S3 A3 c3, v' = .slice A3 l.length c3 ∧ St nT w w' [Fact.rep (RL 3 RTx) S3 [.slice A3 l.length c3] l])) := by
 have hl0 := hl
 obtain ⟨A_, c_, xs, hv_, _, _, hr, hel⟩ := hl0
 cases hv_
 refine k_enter (l := [_]) Tryz.func7 rfl rfl ?_
 have H := St.start nT w
 refine k_seq (k_region (sAs rfl rfl rfl rfl (l_nil (k_seq (k_region (sAs rfl rfl rfl rfl (l_nil (k_seq (k_seq (k_region ?_))))))))))
 refine sAi rfl rfl rfl rfl (l_nil (k_block (k_loop 3 [] (fun mm sl W => ∃ i : Nat, ∃ A3 : Option Addr, ∃ c3 : Nat, ∃ zs : List Value, ∃ S3 : Nat → Prop, l.length - i = mm ∧ sl = [(4, .int .i64 (i : Int)), (3, .slice A3 i c3)] ∧ (i ≤ l.length) ∧ (i ≤ c3 ∧ c3 ≤ 9223372036854775807) ∧ St nT w W [Fact.row 34 3 (.slice A3 i c3) i zs, Fact.els RTx 3 S3 zs (l.take i)]) _ _ ⟨0, none, 0, [], (fun _ => False), rfl, rfl, Nat.zero_le _, ⟨Nat.le_refl _, by omega⟩, ((H.els0 RTx 3).nilrow 34 3)⟩ ⟨rfl, rfl, trivial⟩ (fun mm sl ρv W hJ => ?_))))
 clear H; obtain ⟨i, A3, c3, zs, S3, rfl, rfl, hi, hd3, H⟩ := hJ
 refine k_one (k_seq (k_seq (k_region (sMi rfl rfl rfl rfl (sMs rfl rfl rfl rfl (sR rfl rfl (d_len rfl rfl tu22) (sR rfl rfl (d_lt rfl rfl rfl) (l_nil (k_cond rfl (fun hc8 => ?_) (fun hc8 => ?_))))))))))
 ·have hlt : i < l.length := by simp at hc8; omega
  obtain ⟨g0, o0, rfl, -⟩ := hr.2 (by omega)
  obtain ⟨t, ht⟩ := get_lt hlt
  have hRt := hel i t ht
  obtain ⟨Ai, ci, Bi, di, hL, -, -, hkt⟩ := tx_of hRt
  rw [hL] at hRt
  have hft := hf t (List.mem_of_getElem? ht)
  refine k_skip (k_seq (k_block (k_region (sMs rfl rfl rfl rfl (sMs rfl rfl rfl rfl (sMi rfl rfl rfl rfl (sR rfl rfl (d_iaG rfl (H.rd hr) rfl rfl (q := i) rfl hlt tu22 ts34) (sR rfl rfl (d_ldEM (off := 0) rfl (H.rd hr) hlt hL (sub_all (a := txC Ai t.ins.length ci Bi t.outs.length di t.lock) (m := 3) rfl) rfl rfl (by omega) ta34 ts34) (sC rfl rfl rfl Tryz.func33 rfl rfl rfl (copyTx _ (keeps_Tx _ _ _ _ _ hRt (fun g hg _ => H.fr.block g hg (fun h => h))) hft) ?_)))))))))
  rintro _ W hs_
  obtain ⟨Sn5, An5, cn5, Bn5, dn5, rfl, H1_⟩ := NewTx.rep hs_ H hkt
  clear H hs_
  have H := H1_
  clear H1_
  refine s_eff (e_bsl (xs := [.tmp 16]) (vals := [.agg (txC An5 t.ins.length cn5 Bn5 t.outs.length dn5 t.lock).toArray]) (vs := (txC An5 t.ins.length cn5 Bn5 t.outs.length dn5 t.lock)) (w_none rfl) rfl rfl rfl rfl rfl rfl tu22 ts34 ty34 rfl (by simp [agg_cells, txC]) (by simp [agg_cells]) H ?_)
  clear H; intro g5_6 W H
  refine s_eff (e_app (w_none rfl) rfl rfl tu22 tx34 rfl rfl rfl H (rd_blk (m := 1) H.blk rfl) (rfl) (by omega) rfl ?_)
  clear H; intro A7 c7 W hc7 hd7 H
  replace H := H.drop
  refine sAs rfl rfl rfl rfl (l_nil (k_nil (b_end (k_region (sMi rfl rfl rfl rfl (sR rfl rfl (d_add rfl rfl rfl (by omega)) (sAi rfl rfl rfl rfl (l_nil (k_nil (k_next ?_))))))))))
  replace H := (St.elsnoc (H.perm (.cons _ (.swap _ _ _))) rfl).perm (.swap _ _ _)
  refine ⟨_, _, _, ?_, rfl, ?_, ?_, ⟨i + 1, A7, c7, _, _, rfl, rfl, by omega, ⟨hc7, hd7⟩, (by rw [take_get ht]; exact H)⟩⟩
  ·omega
  ·repeat (first | (with_reducible refine .updl _ .ovr ?_); exact rfl | (with_reducible refine .updl _ (.ovr2 ?_ ?_) ?_); rotate_left; exact rfl; exact rfl | (with_reducible refine .upd ?_ ?_); rotate_left; exact rfl)
  ·refine ⟨?_, ?_, trivial⟩
   ·exact vi (by omega)
   ·exact rfl
 ·obtain rfl : i = l.length := by simp at hc8; omega
  rw [List.take_length] at H
  refine k_exit (x_then (x_then ?_))
  refine x_hit (k_seq (k_region (sMs rfl rfl rfl rfl (sAs rfl rfl rfl rfl (l_nil (k_ret ?_))))))
  repeat (first | refine r_then ?_ | refine r_blk ?_)
  exact q_ret (v := .slice _ _ _) rfl rfl ⟨_, rfl, _, A3, c3, rfl, H.tolist⟩

set_option maxHeartbeats 4000000 in
theorem copyBlock {S : Nat → Prop} {A : Option Addr} {c : Nat} {b : DBlock} (w : World) (hl : RL 3 RTx w S [.slice A b.txs.length c] b.txs) (hh : Bk.OkH b.header) (hn : b.txs.length ≤ 1000000) (hf : ∀ t ∈ b.txs, Tx.Fits t) : Calls Tryz.prog 16 [.agg (blkC b.header A b.txs.length c).toArray].toArray w (Ret (fun v' w' => ∃ S3 A3 c3, v' = .agg (blkC b.header A3 b.txs.length c3).toArray ∧ St nT w w' [Fact.rep (RL 3 RTx) S3 [.slice A3 b.txs.length c3] b.txs])) := by
 refine k_enter (l := [_]) Tryz.func16 rfl rfl ?_
 have H := St.start nT w
 refine k_seq (k_region (s_eff (e_box (vs := (blkC b.header A b.txs.length c)) (w_none rfl) rfl rfl rfl rfl H ?_)))
 clear H; intro gb W H
 refine s_eff (e_alloc (w_none rfl) rfl rfl (blkC zHd none 0 0) tz28 H ?_)
 clear H; intro go W H
 refine l_nil (k_seq (k_draw [(0, true), (1, true), (2, true), (3, true), (4, false), (5, true), (6, false)] [Fact.blk gb (blkC b.header A b.txs.length c) 28] (by kernel_rfl) (by kernel_rfl) H (by repeat (first | exact .refl _ | exact List.nil_sublist _ | refine .cons_cons _ ?_ | refine .cons _ ?_)) ?_))
 clear H; intro W H
 refine cR rfl rfl rfl (fun W H => d_fa rfl rfl tf28_0) (cR rfl rfl rfl (fun W H => d_ldXM (g := gb) (off := 0) rfl H (sub_b_hdr hh) (len_hdr hh) rfl rfl rfl ta26 ts26) (cR rfl rfl rfl (fun W H => d_fa rfl rfl tf28_1) (cR rfl rfl rfl (fun W H => d_ldX (g := gb) (off := 65) rfl H (sub_b_txs hh) rfl rfl ta22) (c_eff rfl (e_call (w_none rfl) rfl rfl Tryz.func7 rfl rfl rfl (copyTxs _ (keeps_L keeps_Tx _ _ _ _ _ hl (fun g hg _ => H.fr.block g hg (fun h => h))) hn hf) ?_)))))
 rintro _ W ⟨S3, A3, c3, rfl, hn3⟩
 replace H := H.add1 hn3
 clear hn3
 refine ⟨H.sub (by repeat (first | exact .refl _ | exact List.nil_sublist _ | refine .cons_cons _ ?_ | refine .cons _ ?_)), ?_⟩
 refine cR rfl rfl rfl (fun W H => d_build (vs := blkC b.header A3 b.txs.length c3) rfl (built_fields (places := [(0, 65), (65, 1)]) tz28 (by kernel_rfl) (by kernel_rfl) (fill_next (vs := hdrC b.header) (.agg (hdrC b.header).toArray) rfl rfl rfl (len_hdr hh) (Nat.le_of_ble_eq_true rfl) (fill_next (vs := [.slice A3 b.txs.length c3]) (.slice A3 b.txs.length c3) rfl (by first | (simp [(len_hdr hh)]; done) | (simp [(len_hdr hh)]; omega)) rfl rfl (Nat.le_of_ble_eq_true rfl) (fill_end (by rw [List.drop_drop, List.drop_of_length_le (by rw [len_blk zHd_ok]; exact Nat.le_refl _)]; simp [blkC])))))) ?_
 refine c_eff rfl (e_stoK (blkC b.header A3 b.txs.length c3) (w_none rfl) rfl rfl rfl rfl rfl ts28 (len_blk hh) blk_one H (by rw [len_blk zHd_ok]; decide) (spl_all ((len_blk hh).trans (len_blk zHd_ok).symm)) ?_)
 clear H; intro W H
 refine ⟨H.sub (by repeat (first | exact .refl _ | exact List.nil_sublist _ | refine .cons_cons _ ?_ | refine .cons _ ?_)), ?_⟩
 refine c_nil (k_ret ?_)
 repeat (first | refine r_then ?_ | refine r_blk ?_)
 refine q_retc rfl (c := blkC b.header A3 b.txs.length c3) (g := go) H rfl ta28 (by rw [len_blk hh]; exact ts28) ⟨_, rfl, S3, A3, c3, rfl, ?_⟩
 exact H.sub (L' := [_]) (by repeat (first | exact .refl _ | exact List.nil_sublist _ | refine .cons_cons _ ?_ | refine .cons _ ?_))

set_option maxHeartbeats 4000000 in
theorem putBR {S : Nat → Prop} {A : Option Addr} {c : Nat} {b : DBlock} (w : World) (hl : RL 3 RTx w S [.slice A b.txs.length c] b.txs) (hh : Bk.OkH b.header) : Calls Tryz.prog 17 [.agg (blkC b.header A b.txs.length c).toArray].toArray w (Ret (fun v' w' => ∃ x, v' = .tuple #[x, .int .i64 (Bk.put BTG b).2] ∧ NewB 5 w (Bk.put BTG b).1 x w')) := by
 have hl0 := hl
 obtain ⟨A_, c_, xs, hv_, _, _, hr, hel⟩ := hl0
 cases hv_
 have htx := rl_txs hl
 refine k_enter (l := [_]) Tryz.func17 rfl rfl ?_
 have H := St.start nT w
 have hlh := len_encH hh
 refine k_seq (k_region (s_eff (e_box (vs := (blkC b.header A b.txs.length c)) (w_none rfl) rfl rfl rfl rfl H ?_)))
 clear H; intro gb W H
 refine sAs rfl rfl rfl rfl (sAi rfl rfl rfl rfl (l_nil (k_seq (k_region (sR rfl rfl (d_ldXM (g := gb) (off := 0) rfl H (sub_all (len_blk hh)) (len_blk hh) rfl rfl rfl ta28 ts28) (sC rfl rfl rfl Tryz.func44 rfl rfl rfl (checkBR _ (keeps_L keeps_Tx _ _ _ _ _ hl (fun g hg _ => H.fr.block g hg (fun h => h))) hh) ?_))))))
 rintro _ W ⟨rfl, hb⟩
 replace H := H.below hb
 clear hb
 refine sAi rfl rfl rfl rfl (l_nil (k_seq (k_seq (k_region (sMi rfl rfl rfl rfl (sR rfl rfl (d_ne rfl rfl rfl) (l_nil (k_cond rfl (fun hc12 => ?_) (fun hc12 => ?_)))))))))
 ·have hne : Bk.chk BTG b ≠ 0 := by simpa using hc12
  rw [put_bad hne]
  refine k_seq (k_region (sMi rfl rfl rfl rfl (sAs rfl rfl rfl rfl (sAi rfl rfl rfl rfl (l_nil (k_ret ?_))))))
  repeat (first | refine r_then ?_ | refine r_blk ?_)
  replace H := H.nilrow 5 1
  exact q_ret2 (v := .slice _ _ _) (x := .int _ _) rfl rfl rfl ⟨_, rfl, _, rfl, H.newB (l := []) rfl rfl (Nat.le_refl _) (by omega)⟩
 ·have hne : Bk.chk BTG b = 0 := by simpa using hc12
  rw [put_ok hne]
  obtain ⟨-, hn16, hcs, -, -⟩ := Bk.chk_of hne
  refine k_skip (k_seq (k_draw [(0, true), (1, true), (3, true), (4, true), (5, true), (2, false), (6, false), (7, true)] [Fact.blk gb (blkC b.header A b.txs.length c) 28] (by kernel_rfl) (by kernel_rfl) H (.refl _) ?_))
  clear H; intro W H
  refine cR rfl rfl rfl (fun W H => d_fa rfl rfl tf28_0) (cR rfl rfl rfl (fun W H => d_ldXM (g := gb) (off := 0) rfl H (sub_b_hdr hh) (len_hdr hh) rfl rfl rfl ta26 ts26) (cR rfl rfl rfl (fun W H => d_fa rfl rfl tf28_1) (cR rfl rfl rfl (fun W H => d_ldX (g := gb) (off := 65) rfl H (sub_b_txs hh) rfl rfl ta22) (cR rfl rfl rfl (fun W H => d_len rfl rfl tu22) (c_eff rfl (e_call (w_none rfl) rfl rfl Tryz.func46 rfl rfl rfl (headR _ hh) ?_))))))
  rintro _ W ⟨A1, c1, rfl, hc1, hd1, hn⟩
  replace H := H.new hn
  clear hn
  refine ⟨H.sub (by repeat (first | exact .refl _ | exact List.nil_sublist _ | refine .cons_cons _ ?_ | refine .cons _ ?_)), ?_⟩
  refine c_eff rfl (e_call (w_none rfl) rfl rfl Tryz.func45 rfl rfl rfl (refInt (b := Bk.encH b.header) (b.txs.length : Int) _ (H.rowbs (A := A1) rfl) (by omega) (by omega)) ?_)
  rintro _ W ⟨A2, c2, rfl, hc2, hd2, hn⟩
  replace H := H.new hn
  clear hn
  have e0 : Bk.encH b.header ++ Pk.int (Pk.toU (b.txs.length : Int)) = (Bk.encH b.header ++ Pk.int b.txs.length ++ ((b.txs.take 0).map Bk.encT).flatten) := by rw [toU_cast' (by omega)]; simp
  rw [e0] at hc2 H
  refine ⟨H.sub (by repeat (first | exact .refl _ | exact List.nil_sublist _ | refine .cons_cons _ ?_ | refine .cons _ ?_)), ?_⟩
  refine cR rfl rfl rfl (fun W H => as_s rfl rfl) (c_nil (k_seq (k_seq (k_region (sAi rfl rfl rfl rfl (l_nil (k_block (k_loop 21 [5, 6, 7, 8] (fun mm sl W => ∃ i : Nat, ∃ A2 : Option Addr, ∃ d2 : Nat, b.txs.length - i = mm ∧ sl = [(6, .int .i64 (i : Int)), (5, .slice A2 (Bk.encH b.header ++ Pk.int b.txs.length ++ ((b.txs.take i).map Bk.encT).flatten).length d2)] ∧ (i ≤ b.txs.length) ∧ ((Bk.encH b.header ++ Pk.int b.txs.length ++ ((b.txs.take i).map Bk.encT).flatten).length ≤ d2 ∧ d2 ≤ 9223372036854775807) ∧ St nT w W [Fact.row 5 1 (.slice A2 (Bk.encH b.header ++ Pk.int b.txs.length ++ ((b.txs.take i).map Bk.encT).flatten).length d2) (Bk.encH b.header ++ Pk.int b.txs.length ++ ((b.txs.take i).map Bk.encT).flatten).length ((Bk.encH b.header ++ Pk.int b.txs.length ++ ((b.txs.take i).map Bk.encT).flatten).map u8v), Fact.blk gb (blkC b.header A b.txs.length c) 28]) _ _ ⟨0, A2, c2, rfl, rfl, Nat.zero_le _, ⟨hc2, hd2⟩, H.sub (L' := [_, _]) (by repeat (first | exact .refl _ | exact List.nil_sublist _ | refine .cons_cons _ ?_ | refine .cons _ ?_))⟩ ⟨rfl, sl_eq (by rw [← e0]), trivial⟩ (fun mm sl ρv W hJ => ?_)))))))))
  clear H; obtain ⟨i, A2, d2, rfl, rfl, hi, hd, H⟩ := hJ
  refine k_one (k_seq (k_seq (k_region (sMi rfl rfl rfl rfl (sR rfl rfl (d_fa rfl rfl tf28_1) (sR rfl rfl (d_ldX (g := gb) (off := 65) rfl H (sub_b_txs hh) rfl rfl ta22) (sR rfl rfl (d_len rfl rfl tu22) (sR rfl rfl (d_lt rfl rfl rfl) (l_nil (k_cond rfl (fun hc25 => ?_) (fun hc25 => ?_)))))))))))
  ·have hlt : i < b.txs.length := by simp at hc25; omega
   obtain ⟨g0, o0, rfl, -⟩ := hr.2 (by omega)
   obtain ⟨t, ht⟩ := get_lt hlt
   have hRt := hel i t ht
   obtain ⟨Ai, ci, Bi, di, hL, -, -, -⟩ := tx_of hRt
   rw [hL] at hRt
   have htm := List.mem_of_getElem? ht
   have hct := hcs t htm
   have hlp := Bk.len_put hct (htx t htm)
   have hpt : Tx.put t = Tx.putB t := by unfold Tx.put; rw [if_pos hct]
   have hfl := len_take_flat (f := Bk.encT) (k := 16400) (fun y hy => len_encT (hcs y hy) (htx y hy)) hi
   have hqi := Pk.len_int b.txs.length
   have hA : (Bk.encH b.header ++ Pk.int b.txs.length ++ ((b.txs.take i).map Bk.encT).flatten).length ≤ 1000000 := by rw [List.length_append, List.length_append]; omega
   refine k_skip (k_seq (k_block (k_seq (k_region (sR rfl rfl (d_fa rfl rfl tf28_1) (sR rfl rfl (d_ldX (g := gb) (off := 65) rfl H (sub_b_txs hh) rfl rfl ta22) (sMi rfl rfl rfl rfl (sR rfl rfl (d_iaG rfl (H.rd hr) rfl rfl (q := i) rfl hlt tu22 ts34) (sR rfl rfl (d_ldEM (off := 0) rfl (H.rd hr) hlt hL (sub_all (a := txC Ai t.ins.length ci Bi t.outs.length di t.lock) (m := 3) rfl) rfl rfl (by omega) ta34 ts34) (sC rfl rfl rfl Tryz.func47 rfl rfl rfl (putTR _ (keeps_Tx _ _ _ _ _ hRt (fun g hg _ => H.fr.block g hg (fun h => h)))) ?_))))))))))
   rintro _ W ⟨_, rfl, A6, c6, rfl, hc6, hd6, hn⟩
   replace H := H.new hn
   clear hn
   rw [hpt] at hc6 H ⊢
   refine sR rfl rfl (mv_t rfl rfl) (sR rfl rfl (d_ext rfl rfl rfl) (sR rfl rfl (d_ext rfl rfl rfl) (sAs rfl rfl rfl rfl (sAi rfl rfl rfl rfl (l_nil (k_region (sMs rfl rfl rfl rfl (sMs rfl rfl rfl rfl (sC rfl rfl rfl Tryz.func48 rfl rfl rfl (refBlob (b := (Bk.encH b.header ++ Pk.int b.txs.length ++ ((b.txs.take i).map Bk.encT).flatten)) (p := Tx.putB t) _ (H.rowbs (A := A2) rfl) (by omega) (H.rowbs (A := A6) rfl) (by omega)) ?_)))))))))
   rintro _ W ⟨A7, c7, rfl, hc7, hd7, hn⟩
   replace H := H.new hn
   clear hn
   refine sAs rfl rfl rfl rfl (l_nil (k_nil (b_end (k_region (sMi rfl rfl rfl rfl (sR rfl rfl (d_add rfl rfl rfl (by omega)) (sAi rfl rfl rfl rfl (l_nil (k_nil (k_next ?_))))))))))
   have he : (Bk.encH b.header ++ Pk.int b.txs.length ++ ((b.txs.take (i + 1)).map Bk.encT).flatten) = (Bk.encH b.header ++ Pk.int b.txs.length ++ ((b.txs.take i).map Bk.encT).flatten) ++ (Pk.int (Tx.putB t).length ++ Tx.putB t) := by rw [flat_at ht]; simp only [List.append_assoc]; rfl
   refine ⟨_, _, _, ?_, rfl, ?_, ?_, ⟨i + 1, A7, c7, rfl, rfl, by omega, ⟨by rw [he]; exact hc7, hd7⟩, by rw [he]; exact H.sub (L' := [_, _]) (by repeat (first | exact .refl _ | exact List.nil_sublist _ | refine .cons_cons _ ?_ | refine .cons _ ?_))⟩⟩
   ·omega
   ·repeat (first | (with_reducible refine .updl _ .ovr ?_); exact rfl | (with_reducible refine .updl _ (.ovr2 ?_ ?_) ?_); rotate_left; exact rfl; exact rfl | (with_reducible refine .upd ?_ ?_); rotate_left; exact rfl)
   ·refine ⟨?_, ?_, trivial⟩
    ·exact vi (by omega)
    ·exact sl_eq (by rw [he])
  ·obtain rfl : i = b.txs.length := by simp at hc25; omega
   refine k_exit (x_then (x_then ?_))
   refine x_hit (k_seq ?_)
   have hE : (Bk.encH b.header ++ Pk.int b.txs.length ++ ((b.txs.take b.txs.length).map Bk.encT).flatten) = Bk.putB b := by rw [List.take_length, List.append_assoc]; rfl
   rw [hE] at hd H ⊢
   refine k_region (sMs rfl rfl rfl rfl (sAs rfl rfl rfl rfl (sAi rfl rfl rfl rfl (l_nil (k_ret ?_)))))
   repeat (first | refine r_then ?_ | refine r_blk ?_)
   exact q_ret2 (v := .slice _ _ _) (x := .int _ _) rfl rfl rfl ⟨_, rfl, _, rfl, H.newB rfl rfl hd.1 hd.2⟩

set_option maxHeartbeats 4000000 in
theorem makeR {S : Nat → Prop} {A : Option Addr} {c : Nat} {l : List DTx} (w : World) (hl : RL 3 RTx w S [.slice A l.length c] l) (hn : l.length ≤ 1000000) (hf : ∀ t ∈ l, Tx.Fits t) {p : List UInt8} (hp : p.length = 32) {k : Int} (hk : I64 k) : Calls Tryz.prog 26 [.agg (p.map u8v).toArray, .int .i64 k, .slice A l.length c].toArray w (Ret (fun v' w' => ∃ S3 A3 c3, v' = .agg (blkC (mkH p l k) A3 l.length c3).toArray ∧ St nT w w' [Fact.rep (RL 3 RTx) S3 [.slice A3 l.length c3] l])) := by
 have hh : Bk.OkH (mkH p l k) := mkH_ok hp hk
 have hpl : (p.map u8v).length = 32 := by rw [List.length_map]; exact hp
 have hrl : ((rootB l).map u8v).length = 32 := by rw [List.length_map]; exact len_rootB l
 refine k_enter (l := [_, _, _]) Tryz.func26 rfl rfl ?_
 have H := St.start nT w
 refine k_seq (k_region (s_eff (e_box (vs := (p.map u8v)) (w_none rfl) rfl rfl rfl rfl H ?_)))
 clear H; intro gp W H
 refine s_eff (e_alloc (w_none rfl) rfl rfl (blkC zHd none 0 0) tz28 H ?_)
 clear H; intro go W H
 refine l_nil (k_seq (k_draw [(0, true), (1, true), (3, true), (5, true), (2, false), (4, true), (6, false), (7, true), (8, false)] [Fact.blk gp (p.map u8v) 24] (by kernel_rfl) (by kernel_rfl) H (by repeat (first | exact .refl _ | exact List.nil_sublist _ | refine .cons_cons _ ?_ | refine .cons _ ?_)) ?_))
 clear H; intro W H
 refine cR rfl rfl rfl (fun W H => d_ldm0 (g := gp) rfl H rfl ta24 ts24 hpl) (cR rfl rfl rfl (fun W H => mv_s rfl rfl) (cR rfl rfl rfl (fun W H => mv_i rfl rfl) (cR rfl rfl rfl (fun W H => mv_s rfl rfl) (c_eff rfl (e_call (w_none rfl) rfl rfl Tryz.func21 rfl rfl rfl (rootR _ (keeps_L keeps_Tx _ _ _ _ _ hl (fun g hg _ => H.fr.block g hg (fun h => h))) hn) ?_)))))
 rintro _ W ⟨rfl, hb⟩
 replace H := H.below hb
 clear hb
 refine ⟨H.sub (by repeat (first | exact .refl _ | exact List.nil_sublist _ | refine .cons_cons _ ?_ | refine .cons _ ?_)), ?_⟩
 refine cR rfl rfl rfl (fun W H => d_build (vs := hdrC (mkH p l k)) rfl (built_fields (places := [(0, 32), (32, 32), (64, 1)]) tz26 (by kernel_rfl) (by kernel_rfl) (fill_next (vs := p.map u8v) (.agg (p.map u8v).toArray) rfl rfl rfl hpl (Nat.le_of_ble_eq_true rfl) (fill_next (vs := (rootB l).map u8v) (.agg ((rootB l).map u8v).toArray) rfl (by first | (simp [hpl]; done) | (simp [hpl]; omega)) rfl hrl (Nat.le_of_ble_eq_true rfl) (fill_next (vs := [.int .i64 k]) (.int .i64 k) rfl (by first | (simp [hpl, hrl]; done) | (simp [hpl, hrl]; omega)) rfl rfl (Nat.le_of_ble_eq_true rfl) (fill_end (by rw [List.drop_drop, List.drop_drop, List.drop_of_length_le (by rw [len_hdr zHd_ok]; exact Nat.le_refl _)]; simp [hdrC, mkH]))))))) ?_
 refine c_eff rfl (e_call (w_none rfl) rfl rfl Tryz.func7 rfl rfl rfl (copyTxs _ (keeps_L keeps_Tx _ _ _ _ _ hl (fun g hg _ => H.fr.block g hg (fun h => h))) hn hf) ?_)
 rintro _ W ⟨S3, A3, c3, rfl, hn3⟩
 replace H := H.add1 hn3
 clear hn3
 refine ⟨H.sub (by repeat (first | exact .refl _ | exact List.nil_sublist _ | refine .cons_cons _ ?_ | refine .cons _ ?_)), ?_⟩
 refine cR rfl rfl rfl (fun W H => d_build (vs := blkC (mkH p l k) A3 l.length c3) rfl (built_fields (places := [(0, 65), (65, 1)]) tz28 (by kernel_rfl) (by kernel_rfl) (fill_next (vs := hdrC (mkH p l k)) (.agg (hdrC (mkH p l k)).toArray) rfl rfl rfl (len_hdr hh) (Nat.le_of_ble_eq_true rfl) (fill_next (vs := [.slice A3 l.length c3]) (.slice A3 l.length c3) rfl (by first | (simp [(len_hdr hh)]; done) | (simp [(len_hdr hh)]; omega)) rfl rfl (Nat.le_of_ble_eq_true rfl) (fill_end (by rw [List.drop_drop, List.drop_of_length_le (by rw [len_blk zHd_ok]; exact Nat.le_refl _)]; simp [blkC])))))) ?_
 refine c_eff rfl (e_stoK (blkC (mkH p l k) A3 l.length c3) (w_none rfl) rfl rfl rfl rfl rfl ts28 (len_blk hh) blk_one H (by rw [len_blk zHd_ok]; decide) (spl_all ((len_blk hh).trans (len_blk zHd_ok).symm)) ?_)
 clear H; intro W H
 refine ⟨H.sub (by repeat (first | exact .refl _ | exact List.nil_sublist _ | refine .cons_cons _ ?_ | refine .cons _ ?_)), ?_⟩
 refine c_nil (k_ret ?_)
 repeat (first | refine r_then ?_ | refine r_blk ?_)
 refine q_retc rfl (c := blkC (mkH p l k) A3 l.length c3) (g := go) H rfl ta28 (by rw [len_blk hh]; exact ts28) ⟨_, rfl, S3, A3, c3, rfl, ?_⟩
 exact H.sub (L' := [_]) (by repeat (first | exact .refl _ | exact List.nil_sublist _ | refine .cons_cons _ ?_ | refine .cons _ ?_))
end Go.Proofs.YtfhhfhdnhadooaaGreatDoor

namespace Go.Proofs.YtfhhfhdnhadooaaGreatDoor
open Go Go.RowKit
attribute [local irreducible] wpList

theorem bigL_z {l : List DTx} (h : bigL l = false) : ∀ t ∈ l, Tx.FitZ t := by
 unfold bigL at h
 rw [Bool.or_eq_false_iff] at h
 intro t ht
 have hb : Tx.big 20 2048 t = false := by
  refine Bool.eq_false_iff.2 (fun e => ?_)
  have := List.any_eq_true.2 ⟨t, ht, e⟩
  rw [h.2] at this
  cases this
 exact Tx.fitz (Tx.not_big hb (by decide))
theorem len_putAny (b : DBlock) (hb : Bk.Ok b) : (Bk.put BTG b).1.length ≤ 400000 := by
 by_cases h : Bk.chk BTG b = 0
 ·rw [put_ok h]; exact (len_putBk h hb).2
 ·rw [put_bad h]; exact Nat.zero_le _

set_option maxHeartbeats 4000000 in
theorem blockPutsB {S : Nat → Prop} {A : Option Addr} {c : Nat} {b : DBlock} (w : World) (hl : RL 3 RTx w S [.slice A b.txs.length c] b.txs) (hh : Bk.OkH b.header) (hG : Gat w 0 formsC) (hB : Old.Gl w) (hz : ∀ t ∈ b.txs, Tx.Szd t) : Calls Tryz.prog 4 [.agg (blkC b.header A b.txs.length c).toArray].toArray w (Ret (Is w (.bool true))) := by
 have hok : Bk.Ok b := ⟨hh, rl_txs hl⟩
 have hpe := put_err b
 have hpl := len_putAny b hok
 have hm : Bk.OkH (mkH b.header.prev b.txs b.header.nonce) := mkH_ok hh.1 hh.2.2
 refine k_enter (l := [_]) Tryz.func4 rfl rfl ?_
 have H := St.start nT w
 refine k_seq (k_region (s_eff (e_box (vs := (blkC b.header A b.txs.length c)) (w_none rfl) rfl rfl rfl rfl H ?_)))
 clear H; intro gb W H
 refine sAb rfl rfl rfl rfl (l_nil (k_seq (k_seq (k_region (sR rfl rfl (d_fa rfl rfl tf28_1) (sR rfl rfl (d_ldX (g := gb) (off := 65) rfl H (sub_b_txs hh) rfl rfl ta22) (sC rfl rfl rfl Tryz.func15 rfl rfl rfl (bigLP _ (keeps_L keeps_Tx _ _ _ _ _ hl (fun g hg _ => H.fr.block g hg (fun h => h))) hz) ?_)))))))
 rintro _ W ⟨rfl, hb⟩
 replace H := H.below hb
 clear hb
 refine l_nil (k_cond rfl (fun hc13 => ?_) (fun hc13 => ?_))
 ·skip
  refine k_seq (k_region (sC rfl rfl rfl Tryz.func14 rfl rfl rfl (works09 _ (H.gat hG) (H.gl hB)) ?_))
  rintro _ W ⟨rfl, hb⟩
  replace H := H.below hb
  clear hb
  refine sAb rfl rfl rfl rfl (l_nil (k_ret ?_))
  repeat (first | refine r_then ?_ | refine r_blk ?_)
  exact q_ret (v := .bool _) rfl rfl ⟨_, rfl, rfl, H.under⟩
 ·obtain ⟨hl20, hft⟩ := bigL_f (by exact hc13)
  have hfz := bigL_z (by exact hc13)
  refine k_skip (k_seq (k_region (sR rfl rfl (d_ldXM (g := gb) (off := 0) rfl H (sub_all (a := blkC b.header A b.txs.length c) (len_blk hh)) (len_blk hh) rfl rfl rfl ta28 ts28) (sC rfl rfl rfl Tryz.func16 rfl rfl rfl (copyBlock _ (keeps_L keeps_Tx _ _ _ _ _ hl (fun g hg _ => H.fr.block g hg (fun h => h))) hh (by omega) hft) ?_))))
  rintro _ W ⟨S3, A3, c3, rfl, hn3⟩
  replace H := H.add1 hn3
  clear hn3
  refine s_eff (e_alloc (w_none rfl) rfl rfl (blkC zHd none 0 0) tz28 H ?_)
  clear H; intro gx W H
  refine s_eff (e_stoK (blkC b.header A3 b.txs.length c3) (w_none rfl) rfl rfl rfl rfl rfl ts28 (len_blk hh) blk_one H (by rw [len_blk zHd_ok]; decide) (spl_all ((len_blk hh).trans (len_blk zHd_ok).symm)) ?_)
  clear H; intro W H
  refine l_nil (k_seq (k_region (sR rfl rfl (d_ldXM (g := gx) (off := 0) rfl H (sub_all (a := blkC b.header A3 b.txs.length c3) (len_blk hh)) (len_blk hh) rfl rfl rfl ta28 ts28) (sC rfl rfl rfl Tryz.func12 rfl rfl rfl (putBP _ (H.rep1 (R := RL 3 RTx) (S := S3) (cs := [.slice A3 b.txs.length c3]) (a := b.txs)) hh (H.gat hG) (H.gl hB)) ?_))))
  rintro _ W ⟨_, rfl, A1, c1, rfl, hc1, hd1, hn⟩
  replace H := H.new hn
  clear hn
  refine sR rfl rfl (mv_t rfl rfl) (sR rfl rfl (d_ext rfl rfl rfl) (sR rfl rfl (d_ext rfl rfl rfl) (sAs rfl rfl rfl rfl (sAi rfl rfl rfl rfl (l_nil (k_seq (k_region (sR rfl rfl (d_ldXM (g := gx) (off := 0) rfl H (sub_all (a := blkC b.header A3 b.txs.length c3) (len_blk hh)) (len_blk hh) rfl rfl rfl ta28 ts28) (sC rfl rfl rfl Tryz.func12 rfl rfl rfl (putBP _ (H.rep1 (R := RL 3 RTx) (S := S3) (cs := [.slice A3 b.txs.length c3]) (a := b.txs)) hh (H.gat hG) (H.gl hB)) ?_)))))))))
  rintro _ W ⟨_, rfl, A2, c2, rfl, hc2, hd2, hn⟩
  replace H := H.new hn
  clear hn
  refine sR rfl rfl (mv_t rfl rfl) (sR rfl rfl (d_ext rfl rfl rfl) (sR rfl rfl (d_ext rfl rfl rfl) (sAs rfl rfl rfl rfl (sAi rfl rfl rfl rfl (l_nil (k_seq (k_region (sR rfl rfl (d_ldXM (g := gb) (off := 0) rfl H (sub_all (a := blkC b.header A b.txs.length c) (len_blk hh)) (len_blk hh) rfl rfl rfl ta28 ts28) (sC rfl rfl rfl Tryz.func17 rfl rfl rfl (putBR _ (keeps_L keeps_Tx _ _ _ _ _ hl (fun g hg _ => H.fr.block g hg (fun h => h))) hh) ?_)))))))))
  rintro _ W ⟨_, rfl, A4, c4, rfl, hc4, hd4, hn⟩
  replace H := H.new hn
  clear hn
  refine sR rfl rfl (mv_t rfl rfl) (sR rfl rfl (d_ext rfl rfl rfl) (sR rfl rfl (d_ext rfl rfl rfl) (sAs rfl rfl rfl rfl (sAi rfl rfl rfl rfl (l_nil (k_seq (k_seq (k_draw [(0, true), (2, true), (1, false), (3, true), (4, true), (5, true), (6, true), (7, true), (8, true), (9, true), (10, true), (11, true), (12, false), (13, true), (14, true), (15, true), (16, true), (17, true), (19, true), (20, true), (18, false), (21, false), (22, true), (23, true), (24, true), (25, true), (26, true), (28, true), (29, true), (27, false), (30, false), (31, true), (32, true)] _ (by kernel_rfl) (by kernel_rfl) H (.refl _) ?_))))))))
  clear H; intro W H
  refine cR rfl rfl rfl (fun W H => d_ldXM (g := gx) (off := 0) rfl H (sub_all (a := blkC b.header A3 b.txs.length c3) (len_blk hh)) (len_blk hh) rfl rfl rfl ta28 ts28) (cR rfl rfl rfl (fun W H => mv_i rfl rfl) (c_eff rfl (e_call (w_none rfl) rfl rfl Tryz.func18 rfl rfl rfl (checkBP _ (H.rep1 (R := RL 3 RTx) (S := S3) (cs := [.slice A3 b.txs.length c3]) (a := b.txs)) hh (H.gat hG) (H.gl hB)) ?_)))
  rintro _ W ⟨rfl, hb⟩
  replace H := H.below hb
  clear hb
  refine ⟨H.sub (by repeat (first | exact .refl _ | exact List.nil_sublist _ | refine .cons_cons _ ?_ | refine .cons _ ?_)), ?_⟩
  refine cR rfl rfl rfl (fun W H => d_ne rfl rfl rfl) (cR rfl rfl rfl (fun W H => mv_bx (c := false) rfl rfl (by rw [hpe]; simp)) ?_)
  refine c_run rfl (w_g rfl rfl rfl rfl) rfl (fun W H => mv_i rfl rfl) (c_run rfl (w_g rfl rfl rfl rfl) rfl (fun W H => mv_i rfl rfl) (c_run rfl (w_g rfl rfl rfl rfl) rfl (fun W H => d_ne rfl rfl rfl) (cR rfl rfl rfl (fun W H => d_pickF rfl rfl rfl) (cR rfl rfl rfl (fun W H => mv_bx (c := false) rfl rfl (by simp)) ?_))))
  refine c_run rfl (w_g rfl rfl rfl rfl) rfl (fun W H => mv_s rfl rfl) (c_run rfl (w_g rfl rfl rfl rfl) rfl (fun W H => mv_s rfl rfl) (c_eff rfl (e_call (w_g rfl rfl rfl rfl) rfl rfl Tryz.func19 rfl rfl rfl (sameBytes _ _ ((Bk.put BTG b).1) ((Bk.put BTG b).1) _ (H.rowbs (A := A1) rfl) (H.rowbs (A := A4) rfl)) ?_)))
  rintro _ W ⟨rfl, hb⟩
  replace H := H.below hb
  clear hb
  refine ⟨H.sub (by repeat (first | exact .refl _ | exact List.nil_sublist _ | refine .cons_cons _ ?_ | refine .cons _ ?_)), ?_⟩
  refine c_run rfl (w_g rfl rfl rfl rfl) rfl (fun W H => d_not rfl rfl) (cR rfl rfl rfl (fun W H => d_pickF rfl rfl rfl) (cR rfl rfl rfl (fun W H => mv_bx (c := false) rfl rfl (by simp)) ?_))
  refine c_run rfl (w_g rfl rfl rfl rfl) rfl (fun W H => d_fa rfl rfl tf28_1) (c_run rfl (w_g rfl rfl rfl rfl) rfl (fun W H => d_ldX (g := gx) (off := 65) rfl H (sub_b_txs hh) rfl rfl ta22) (c_run rfl (w_g rfl rfl rfl rfl) rfl (fun W H => d_fa rfl rfl tf28_1) (c_run rfl (w_g rfl rfl rfl rfl) rfl (fun W H => d_ldX (g := gb) (off := 65) rfl H (sub_b_txs hh) rfl rfl ta22) (c_eff rfl (e_call (w_g rfl rfl rfl rfl) rfl rfl Tryz.func20 rfl rfl rfl (rootP _ (H.rep1 (R := RL 3 RTx) (S := S3) (cs := [.slice A3 b.txs.length c3]) (a := b.txs)) (H.gat hG) (H.gl hB) (by omega)) ?_)))))
  rintro _ W ⟨rfl, hb⟩
  replace H := H.below hb
  clear hb
  refine ⟨H.sub (by repeat (first | exact .refl _ | exact List.nil_sublist _ | refine .cons_cons _ ?_ | refine .cons _ ?_)), ?_⟩
  refine c_eff rfl (e_call (w_g rfl rfl rfl rfl) rfl rfl Tryz.func21 rfl rfl rfl (rootR _ (keeps_L keeps_Tx _ _ _ _ _ hl (fun g hg _ => H.fr.block g hg (fun h => h))) (by omega)) ?_)
  rintro _ W ⟨rfl, hb⟩
  replace H := H.below hb
  clear hb
  refine ⟨H.sub (by repeat (first | exact .refl _ | exact List.nil_sublist _ | refine .cons_cons _ ?_ | refine .cons _ ?_)), ?_⟩
  refine c_run rfl (w_g rfl rfl rfl rfl) rfl (fun W H => d_nearr rfl rfl rfl tu24 tu5 ts5 (len_rootB _) (len_rootB _) (by kernel_rfl)) ?_
  refine cR rfl rfl rfl (fun W H => d_pickF rfl rfl rfl) (cR rfl rfl rfl (fun W H => mv_bx (c := false) rfl rfl (by simp)) ?_)
  refine c_run rfl (w_g rfl rfl rfl rfl) rfl (fun W H => d_fa rfl rfl tf28_0) (c_run rfl (w_g rfl rfl rfl rfl) rfl (fun W H => d_ldXM (g := gx) (off := 0) rfl H (sub_b_hdr hh) (len_hdr hh) rfl rfl rfl ta26 ts26) (c_run rfl (w_g rfl rfl rfl rfl) rfl (fun W H => d_fa rfl rfl tf28_0) (c_run rfl (w_g rfl rfl rfl rfl) rfl (fun W H => d_ldXM (g := gb) (off := 0) rfl H (sub_b_hdr hh) (len_hdr hh) rfl rfl rfl ta26 ts26) (c_eff rfl (e_call (w_g rfl rfl rfl rfl) rfl rfl Tryz.func22 rfl rfl rfl (idHP _ (H.gat hG) (H.gl hB) hh) ?_)))))
  rintro _ W ⟨rfl, hb⟩
  replace H := H.below hb
  clear hb
  refine ⟨H.sub (by repeat (first | exact .refl _ | exact List.nil_sublist _ | refine .cons_cons _ ?_ | refine .cons _ ?_)), ?_⟩
  refine c_eff rfl (e_call (w_g rfl rfl rfl rfl) rfl rfl Tryz.func23 rfl rfl rfl (idHR _ hh) ?_)
  rintro _ W ⟨rfl, hb⟩
  replace H := H.below hb
  clear hb
  refine ⟨H.sub (by repeat (first | exact .refl _ | exact List.nil_sublist _ | refine .cons_cons _ ?_ | refine .cons _ ?_)), ?_⟩
  refine c_run rfl (w_g rfl rfl rfl rfl) rfl (fun W H => d_nearr rfl rfl rfl tu24 tu5 ts5 (Old.Bl.len_tagged _ _) (Old.Bl.len_tagged _ _) (by kernel_rfl)) ?_
  refine cR rfl rfl rfl (fun W H => d_pickF rfl rfl rfl) (c_nil (k_condF rfl (by simp) ?_))
  refine k_skip (k_seq (k_region (sMs rfl rfl rfl rfl (sC rfl rfl rfl Tryz.func24 rfl rfl rfl (spoilAll _ (H.get (f := Fact.row 5 1 (.slice A1 ((Bk.put BTG b).1).length c1) ((Bk.put BTG b).1).length (((Bk.put BTG b).1).map u8v))) (by omega)) ?_))))
  rintro _ W ⟨rfl, ⟨ys1, hr_⟩, hf_⟩
  replace H := H.mut (f := Fact.row 5 1 (.slice A1 ((Bk.put BTG b).1).length c1) ((Bk.put BTG b).1).length (((Bk.put BTG b).1).map u8v)) (f' := Fact.row 5 1 (.slice A1 ((Bk.put BTG b).1).length c1) ((Bk.put BTG b).1).length ((ys1).map u8v)) hf_ hr_ (fun _ h => h)
  clear hr_ hf_
  refine l_nil (k_seq (k_region (sR rfl rfl (d_fa rfl rfl tf28_0) (sR rfl rfl (d_fa rfl rfl tf26_0) (sR rfl rfl (d_ldXM (g := gx) (off := 0) rfl H (sub_b_prev hh) (by rw [List.length_map]; exact hh.1) rfl rfl rfl ta24 ts24) ?_)))))
  refine sR rfl rfl (d_fa rfl rfl tf28_0) (sR rfl rfl (d_fa rfl rfl tf26_2) (sR rfl rfl (d_ldX (g := gx) (off := 64) rfl H (sub_b_nonce hh) rfl rfl ta3) (sR rfl rfl (d_fa rfl rfl tf28_1) (sR rfl rfl (d_ldX (g := gx) (off := 65) rfl H (sub_b_txs hh) rfl rfl ta22) (sC rfl rfl rfl Tryz.func6 rfl rfl rfl (makeZ _ (H.rep1 (R := RL 3 RTx) (S := S3) (cs := [.slice A3 b.txs.length c3]) (a := b.txs)) (H.gat hG) (H.gl hB) hh.1 hh.2.2 (by omega) hfz) ?_)))))
  rintro _ W ⟨Sz, Az, cz, zl, rfl, hzt, hn_⟩
  replace H := H.add1 hn_
  clear hn_
  have hzn : zl.length = b.txs.length := by rw [← hzt, List.length_map]
  refine s_eff (e_alloc (w_none rfl) rfl rfl (blkC zHd none 0 0) tz28 H ?_)
  clear H; intro gm W H
  refine s_eff (e_stoK (blkC (mkH b.header.prev b.txs b.header.nonce) Az b.txs.length cz) (w_none rfl) rfl rfl rfl rfl rfl ts28 (len_blk hm) blk_one H (by rw [len_blk zHd_ok]; decide) (spl_all ((len_blk hm).trans (len_blk zHd_ok).symm)) ?_)
  clear H; intro W H
  refine l_nil (k_seq (k_seq (k_draw [(0, true), (1, true), (2, true), (3, true), (4, true), (5, true), (6, true), (7, true), (8, true), (9, false), (10, false), (11, true)] _ (by kernel_rfl) (by kernel_rfl) H (.refl _) ?_)))
  clear H; intro W H
  refine cR rfl rfl rfl (fun W H => d_ldXM (g := gm) (off := 0) rfl H (sub_all (a := blkC (mkH b.header.prev b.txs b.header.nonce) Az b.txs.length cz) (len_blk hm)) (len_blk hm) rfl rfl rfl ta28 ts28) (cR rfl rfl rfl (fun W H => d_fa rfl rfl tf28_0) (cR rfl rfl rfl (fun W H => d_fa rfl rfl tf26_0) (cR rfl rfl rfl (fun W H => d_ldXM (g := gb) (off := 0) rfl H (sub_b_prev hh) (by rw [List.length_map]; exact hh.1) rfl rfl rfl ta24 ts24) ?_)))
  refine cR rfl rfl rfl (fun W H => d_fa rfl rfl tf28_0) (cR rfl rfl rfl (fun W H => d_fa rfl rfl tf26_2) (cR rfl rfl rfl (fun W H => d_ldX (g := gb) (off := 64) rfl H (sub_b_nonce hh) rfl rfl ta3) (cR rfl rfl rfl (fun W H => d_fa rfl rfl tf28_1) (cR rfl rfl rfl (fun W H => d_ldX (g := gb) (off := 65) rfl H (sub_b_txs hh) rfl rfl ta22) (c_eff rfl (e_call (w_none rfl) rfl rfl Tryz.func26 rfl rfl rfl (makeR _ (keeps_L keeps_Tx _ _ _ _ _ hl (fun g hg _ => H.fr.block g hg (fun h => h))) (by omega) hft hh.1 hh.2.2) ?_))))))
  rintro _ W ⟨S5, A5, c5, rfl, hn3⟩
  replace H := H.add1 hn3
  clear hn3
  refine ⟨H.sub (by repeat (first | exact .refl _ | exact List.nil_sublist _ | refine .cons_cons _ ?_ | refine .cons _ ?_)), ?_⟩
  refine c_eff rfl (e_call (w_none rfl) rfl rfl Tryz.func25 rfl rfl rfl (sameBlock (a := ⟨(mkH b.header.prev b.txs b.header.nonce), b.txs⟩) (b := ⟨(mkH b.header.prev b.txs b.header.nonce), b.txs⟩) _ (zb_rl (e := 34) (eI := 64) (eO := 66) (H.get (f := Fact.zb 34 64 66 Sz Az b.txs.length cz zl)) hzn hzt) (H.rep1 (R := RL 3 RTx) (S := S5) (cs := [.slice A5 b.txs.length c5]) (a := b.txs)) hm hm) ?_)
  rintro _ W ⟨rfl, hb⟩
  replace H := H.below hb
  clear hb
  refine ⟨H.sub (by repeat (first | exact .refl _ | exact List.nil_sublist _ | refine .cons_cons _ ?_ | refine .cons _ ?_)), ?_⟩
  refine cR rfl rfl rfl (fun W H => d_not rfl rfl) (c_nil (k_condF rfl (by simp) ?_))
  refine k_skip (k_seq (k_region (sR rfl rfl (d_ldXM (g := gm) (off := 0) rfl H (sub_all (a := blkC (mkH b.header.prev b.txs b.header.nonce) Az b.txs.length cz) (len_blk hm)) (len_blk hm) rfl rfl rfl ta28 ts28) (sC rfl rfl rfl Tryz.func27 rfl rfl rfl (spoilBlock _ hm (H.get (f := Fact.zb 34 64 66 Sz Az b.txs.length cz zl)) (lt_ofB (f := Fact.zb 34 64 66 Sz Az b.txs.length cz zl) H) hzn.symm (by omega)) ?_))))
  rintro _ W ⟨rfl, hf_⟩
  replace H := H.mut (f := Fact.zb 34 64 66 Sz Az b.txs.length cz zl) (f' := Fact.gone) hf_ trivial (fun _ h => h.elim)
  clear hf_
  refine l_nil (k_seq (k_region (sMs rfl rfl rfl rfl (sMs rfl rfl rfl rfl (sC rfl rfl rfl Tryz.func19 rfl rfl rfl (sameBytes _ _ ((Bk.put BTG b).1) ((Bk.put BTG b).1) _ (H.rowbs (A := A2) rfl) (H.rowbs (A := A4) rfl)) ?_)))))
  rintro _ W ⟨rfl, hb⟩
  replace H := H.below hb
  clear hb
  refine sR rfl rfl (mv_bx (c := true) rfl rfl (by simp)) ?_
  refine s_run (w_g rfl rfl rfl rfl) rfl (d_ldXM (g := gx) (off := 0) rfl H (sub_all (a := blkC b.header A3 b.txs.length c3) (len_blk hh)) (len_blk hh) rfl rfl rfl ta28 ts28) (s_run (w_g rfl rfl rfl rfl) rfl (d_ldXM (g := gb) (off := 0) rfl H (sub_all (a := blkC b.header A b.txs.length c) (len_blk hh)) (len_blk hh) rfl rfl rfl ta28 ts28) (s_eff (e_call (w_g rfl rfl rfl rfl) rfl rfl Tryz.func25 rfl rfl rfl (sameBlock (a := b) (b := b) _ (H.rep1 (R := RL 3 RTx) (S := S3) (cs := [.slice A3 b.txs.length c3]) (a := b.txs)) (keeps_L keeps_Tx _ _ _ _ _ hl (fun g hg _ => H.fr.block g hg (fun h => h))) hh hh) ?_)))
  rintro _ W ⟨rfl, hb⟩
  replace H := H.below hb
  clear hb
  refine sR rfl rfl (d_pickT rfl rfl rfl) (sR rfl rfl (mv_bx (c := true) rfl rfl (by simp)) ?_)
  refine s_eff (e_call (w_g rfl rfl rfl rfl) rfl rfl Tryz.func14 rfl rfl rfl (works09 _ (H.gat hG) (H.gl hB)) ?_)
  rintro _ W ⟨rfl, hb⟩
  replace H := H.below hb
  clear hb
  refine sR rfl rfl (d_pickT rfl rfl rfl) (sAb rfl rfl rfl rfl (l_nil (k_ret ?_)))
  repeat (first | refine r_then ?_ | refine r_blk ?_)
  exact q_ret (v := .bool _) rfl rfl ⟨_, rfl, rfl, H.under⟩
end Go.Proofs.YtfhhfhdnhadooaaGreatDoor
