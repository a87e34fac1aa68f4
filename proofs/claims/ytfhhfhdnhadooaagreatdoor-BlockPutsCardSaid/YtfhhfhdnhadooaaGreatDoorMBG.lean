/- Texts of this claim, laid together: OpF, K88, K89. -/
import Derived.Test.YtfhhfhdnhadooaaGreatDoorMX
import Derived.Test.YtfhhfhdnhadooaaGreatDoorMV
import Derived.Test.YtfhhfhdnhadooaaGreatDoorMBK
import Derived.Test.YtfhhfhdnhadooaaGreatDoorMZ
set_option linter.unusedVariables false
set_option linter.unusedSimpArgs false

namespace Go.Proofs.YtfhhfhdnhadooaaGreatDoor
open Go Go.RowKit
attribute [local irreducible] wpList
def beqHeader (x y : DHeader) : Bool := ((x.prev == y.prev) && ((x.root == y.root) && ((x.nonce == y.nonce) && true)))
theorem beqHeader_iff {x y : DHeader} : beqHeader x y = true ↔ x = y := by
  cases x; cases y
  simp [beqHeader]
theorem eq_Header {d : Nat} {W W' : World} {S S' : Nat → Prop} {cx cy : List Value} {x y : DHeader} (hx : RHeader W S cx x) (hy : RHeader W' S' cy y) : EqT Tryz.prog (d + 3) 26 (.agg cx.toArray) (.agg cy.toArray) (beqHeader x y) := by
  obtain ⟨c0, c1, c2, rfl, e0, e1, e2⟩ := hx
  obtain ⟨b0, b1, b2, rfl, q0, q1, q2⟩ := hy
  have l0 := lens_A _ _ _ _ e0
  have k0 := lens_A _ _ _ _ q0
  have l1 := lens_A _ _ _ _ e1
  have k1 := lens_A _ _ _ _ q1
  have l2 := lens_I _ _ _ _ e2
  have k2 := lens_I _ _ _ _ q2
  refine eq_st (by kernel_rfl) (by unfold Program.fieldsOf; rw [Tryz.underlying26]) (by kernel_rfl) ?_
  have z0 := e0.2
  have y0 := q0.2
  obtain ⟨rfl, _⟩ := e0
  obtain ⟨rfl, _⟩ := q0
  refine eqf_cons rfl (part_Me ta24 ts24 (sub_Header_0 l0)) (part_Me ta24 ts24 (sub_Header_0 k0)) (eq_u8s tu24 tu5 ts5 z0 y0) ?_
  have z1 := e1.2
  have y1 := q1.2
  obtain ⟨rfl, _⟩ := e1
  obtain ⟨rfl, _⟩ := q1
  refine eqf_cons rfl (part_Me ta24 ts24 (sub_Header_1 l0 l1)) (part_Me ta24 ts24 (sub_Header_1 k0 k1)) (eq_u8s tu24 tu5 ts5 z1 y1) ?_
  obtain ⟨rfl, _⟩ := e2
  obtain ⟨rfl, _⟩ := q2
  refine eqf_cons rfl (part_1 ta3 (sub_Header_2 l0 l1 l2)) (part_1 ta3 (sub_Header_2 k0 k1 k2)) (eq_i tu3) ?_
  exact eqf_nil
end Go.Proofs.YtfhhfhdnhadooaaGreatDoor

namespace Go.Proofs.YtfhhfhdnhadooaaGreatDoor
open Go Go.RowKit
attribute [local irreducible] wpList

abbrev BgA (b : List UInt8) := Pk.rBytes 32 (b, 0)
abbrev BgB (b : List UInt8) := Pk.rBytes 32 (BgA b).2
abbrev BgC (b : List UInt8) := Pk.rInt (BgB b).2
/-- The header as read. -/
def BgH (b : List UInt8) : DHeader := ⟨(BgA b).1, (BgB b).1, ((BgC b).1 : Int)⟩
abbrev BgL (b : List UInt8) := rList 16 (Pk.rBlob 16384) (BgC b).2
abbrev gots (l : List (List UInt8)) : List DTx := l.map (fun y => (Tx.get y).1)
def gotB (b : List UInt8) : DBlock := ⟨BgH b, gots (BgL b).1⟩
theorem spl_b_txs {x : DHeader} {A A' : Option Addr} {m c m' c' : Nat} (h : Bk.OkH x) : spl (blkC x A m c) 65 [.slice A' m' c'] = blkC x A' m' c' := by
 have hl := len_hdr h
 unfold blkC
 rw [spl_len _ _ _ (by rw [List.length_append, hl]; exact Nat.le_refl _), List.take_left' hl, List.drop_of_length_le (by rw [List.length_append, hl]; exact Nat.le_refl _), List.append_nil]
/-- What a call of block.Get leaves. -/
def GotB (w : World) (b : List UInt8) (v : Value) (w' : World) : Prop := ∃ S A c, v = .tuple #[.agg (blkC (Bk.get BTG b).1.header A (Bk.get BTG b).1.txs.length c).toArray, .int .i64 (Bk.get BTG b).2] ∧ St nT w w' [Fact.rep (RL 3 RTx) S [.slice A (Bk.get BTG b).1.txs.length c] (Bk.get BTG b).1.txs]
theorem tz26 : ((Tryz.prog.info? 26).bind (·.zero)).map (·.cells) = some (hdrC zHd).toArray := by kernel_rfl
theorem tz28 : ((Tryz.prog.info? 28).bind (·.zero)).map (·.cells) = some (blkC zHd none 0 0).toArray := by kernel_rfl

end Go.Proofs.YtfhhfhdnhadooaaGreatDoor

namespace Go.Proofs.YtfhhfhdnhadooaaGreatDoor
open Go Go.RowKit
attribute [local irreducible] wpList

def bigL (l : List DTx) : Bool := decide (20 < l.length) || l.any (Tx.big 20 2048)
theorem bigL_1 {l : List DTx} (h : 20 < l.length) : bigL l = true := by unfold bigL; rw [decide_eq_true h]; rfl
theorem bigL_2 {l : List DTx} {t : DTx} (h : t ∈ l) (hb : Tx.big 20 2048 t = true) : bigL l = true := by
 unfold bigL
 rw [List.any_eq_true.2 ⟨t, h, hb⟩, Bool.or_true]
theorem bigL_0 {l : List DTx} (h : ¬ 20 < l.length) (hb : ∀ t ∈ l, Tx.big 20 2048 t = false) : bigL l = false := by
 unfold bigL
 rw [decide_eq_false h, Bool.false_or]
 exact Bool.eq_false_iff.2 (fun e => by
  obtain ⟨t, h1, h2⟩ := List.any_eq_true.1 e
  rw [hb t h1] at h2
  cases h2)

set_option maxHeartbeats 4000000 in
theorem bigLP {S : Nat → Prop} {v : Value} {l : List DTx} (w : World) (hl : RL 3 RTx w S [v] l) (hz : ∀ t ∈ l, Tx.Szd t) : Calls Tryz.prog 15 [v].toArray w (Ret (Is w (.bool (bigL l)))) := by
 have hll := rl_len hl
 obtain ⟨A, c, xs, hv_, hcA_, hcmA_, hr, hel⟩ := hl
 obtain rfl : v = .slice A l.length c := by cases hv_; rfl
 refine k_enter (l := [_]) Tryz.func15 rfl rfl ?_
 have H := St.start nT w
 refine k_seq (k_region (sAb rfl rfl rfl rfl (l_nil (k_seq (k_seq (k_region (sMs rfl rfl rfl rfl (sR rfl rfl (d_len rfl rfl tu22) (sR rfl rfl (d_gt rfl rfl rfl) (l_nil ?_))))))))))
 refine k_cond rfl (fun hc6 => ?_) (fun hc6 => ?_)
 ·have hbg : 20 < l.length := by simp at hc6; omega
  refine k_seq (k_region (sAb rfl rfl rfl rfl (l_nil (k_ret ?_))))
  repeat (first | refine r_then ?_ | refine r_blk ?_)
  exact q_ret (v := .bool _) rfl rfl ⟨_, rfl, vb ((bigL_1 hbg).symm), H.under⟩
 ·have hbg : ¬ 20 < l.length := by simp at hc6; omega
  refine k_skip (k_seq (k_seq (k_region (sAi rfl rfl rfl rfl (l_nil (k_block (k_loop 7 [2, 3] (fun mm sl W => ∃ i : Nat, l.length - i = mm ∧ sl = [(3, .int .i64 (i : Int))] ∧ (i ≤ l.length) ∧ (∀ t ∈ l.take i, Tx.big 20 2048 t = false) ∧ St nT w W []) _ _ ⟨0, rfl, rfl, Nat.zero_le _, fun t h => by simp at h, H⟩ ⟨rfl, trivial⟩ (fun mm sl ρv W hJ => ?_))))))))
  clear H; obtain ⟨i, rfl, rfl, hi, hs, H⟩ := hJ
  refine k_one (k_seq (k_seq (k_region (sMi rfl rfl rfl rfl (sMs rfl rfl rfl rfl (sR rfl rfl (d_len rfl rfl tu22) (sR rfl rfl (d_lt rfl rfl rfl) (l_nil (k_cond rfl (fun hc10 => ?_) (fun hc10 => ?_))))))))))
  ·have hlt : i < l.length := by simp at hc10; omega
   obtain ⟨g0, o0, rfl, -⟩ := hr.2 (by omega)
   obtain ⟨x, hx⟩ := get_lt hlt
   have hX := hel i x hx
   obtain ⟨Ai, ci, Bi, di, hL, -, -, -⟩ := tx_of hX
   rw [hL] at hX
   refine k_skip (k_seq (k_block (k_seq (k_region (sMs rfl rfl rfl rfl (sMi rfl rfl rfl rfl (sR rfl rfl (d_iaG rfl (H.rd hr) rfl rfl (q := i) rfl hlt tu22 ts34) (sR rfl rfl (d_ldEM (off := 0) rfl (H.rd hr) hlt hL (sub_all (a := txC Ai x.ins.length ci Bi x.outs.length di x.lock) (m := 3) rfl) rfl rfl (by omega) ta34 ts34) (sC rfl rfl rfl Tryz.func43 rfl rfl rfl (bigTx (rows := 20) (bytes := 2048) _ (keeps_Tx _ _ _ _ _ hX (fun g hg _ => H.fr.block g hg (fun h => h))) (hz x (List.mem_of_getElem? hx))) ?_)))))))))
   rintro _ W ⟨rfl, hb⟩
   replace H := H.below hb
   clear hb
   refine l_nil (k_cond rfl (fun hc17 => ?_) (fun hc17 => ?_))
   ·have hbx : Tx.big 20 2048 x = true := hc17
    refine k_seq (k_region (sAb rfl rfl rfl rfl (l_nil (k_ret ?_))))
    repeat (first | refine r_then ?_ | refine r_blk ?_)
    exact q_ret (v := .bool _) rfl rfl ⟨_, rfl, vb ((bigL_2 (List.mem_of_getElem? hx) hbx).symm), H.under⟩
   ·have hbx : Tx.big 20 2048 x = false := hc17
    refine k_skip (k_nil (b_end (k_region (sMi rfl rfl rfl rfl (sR rfl rfl (d_add rfl rfl rfl (by omega)) (sAi rfl rfl rfl rfl (l_nil (k_nil (k_next ?_)))))))))
    refine ⟨_, _, _, ?_, rfl, ?_, ?_, ⟨i + 1, rfl, rfl, by omega, fun t h => by
      rw [take_get hx] at h
      rcases List.mem_append.1 h with h | h
      ·exact hs t h
      ·rw [List.mem_singleton.1 h]; exact hbx, H⟩⟩
    ·omega
    ·repeat (first | (with_reducible refine .updl _ .ovr ?_); exact rfl | (with_reducible refine .updl _ (.ovr2 ?_ ?_) ?_); rotate_left; exact rfl; exact rfl | (with_reducible refine .upd ?_ ?_); rotate_left; exact rfl)
    ·refine ⟨?_, trivial⟩
     ·exact vi (by omega)
  ·obtain rfl : i = l.length := by simp at hc10; omega
   rw [List.take_length] at hs
   refine k_exit (x_then (x_then ?_))
   refine x_hit (k_seq (k_region (sAb rfl rfl rfl rfl (l_nil (k_ret ?_)))))
   repeat (first | refine r_then ?_ | refine r_blk ?_)
   exact q_ret (v := .bool _) rfl rfl ⟨_, rfl, vb ((bigL_0 hbg hs).symm), H.under⟩

set_option maxHeartbeats 4000000 in
theorem sameTxs {S S1 : Nat → Prop} {v u : Value} {l r : List DTx} (w : World) (hl : RL 3 RTx w S [v] l) (hr : RL 3 RTx w S1 [u] r) : Calls Tryz.prog 39 [v, u].toArray w (Ret (Is w (.bool (decide (l = r))))) := by
 have hll := rl_len hl
 obtain ⟨A, c, xs, hv_, hcA_, hcmA_, hr1, hel⟩ := hl
 obtain rfl : v = .slice A l.length c := by cases hv_; rfl
 obtain ⟨B, d, ys, hv_, hcB_, hcmB_, hr, hes⟩ := hr
 obtain rfl : u = .slice B r.length d := by cases hv_; rfl
 refine k_enter (l := [_, _]) Tryz.func39 rfl rfl ?_
 have H := St.start nT w
 refine k_seq (k_region (sAb rfl rfl rfl rfl (l_nil (k_seq (k_seq (k_region (sMs rfl rfl rfl rfl (sR rfl rfl (d_len rfl rfl tu22) (sMs rfl rfl rfl rfl (sR rfl rfl (d_len rfl rfl tu22) ?_))))))))))
 refine sR rfl rfl (d_ne rfl rfl rfl) (l_nil (k_cond rfl (fun hc10 => ?_) (fun hc10 => ?_)))
 ·have hc10 : ¬ l.length = r.length := by simp at hc10; omega
  refine k_seq (k_region (sAb rfl rfl rfl rfl (l_nil (k_ret ?_))))
  repeat (first | refine r_then ?_ | refine r_blk ?_)
  exact q_ret (v := .bool _) rfl rfl ⟨_, rfl, vb (decide_eq_false (fun e => by rw [e] at hc10; exact hc10 rfl)).symm, H.under⟩
 ·have hc10 : l.length = r.length := by simp at hc10; omega
  refine k_skip (k_seq (k_seq (k_region (sAi rfl rfl rfl rfl (l_nil (k_block (k_loop 11 [4, 5] (fun mm sl W => ∃ i : Nat, l.length - i = mm ∧ sl = [(5, .int .i64 (i : Int))] ∧ (i ≤ l.length) ∧ (l.take i = r.take i) ∧ St nT w W []) _ _ ⟨0, rfl, rfl, Nat.zero_le _, rfl, H⟩ ⟨rfl, trivial⟩ (fun mm sl ρv W hJ => ?_))))))))
  clear H; obtain ⟨i, rfl, rfl, hi, ht, H⟩ := hJ
  refine k_one (k_seq (k_seq (k_region (sMi rfl rfl rfl rfl (sMs rfl rfl rfl rfl (sR rfl rfl (d_len rfl rfl tu22) (sR rfl rfl (d_lt rfl rfl rfl) (l_nil (k_cond rfl (fun hc14 => ?_) (fun hc14 => ?_))))))))))
  ·replace hc14 := of_decide_eq_true hc14
   have hlt : i < l.length := by omega
   have hlt2 : i < r.length := by omega
   obtain ⟨g0, o0, rfl, -⟩ := hr1.2 (by omega)
   obtain ⟨x, hx⟩ := get_lt hlt
   have hX := hel i x hx
   obtain ⟨Ai, ci, Bi, di, hL, -, -, -⟩ := tx_of hX
   rw [hL] at hX
   obtain ⟨g1, o1, rfl, -⟩ := hr.2 (by omega)
   obtain ⟨y, hy⟩ := get_lt hlt2
   have hY := hes i y hy
   obtain ⟨Aj, cj, Bj, dj, hL2, -, -, -⟩ := tx_of hY
   rw [hL2] at hY
   refine k_skip (k_seq (k_block (k_seq (k_draw [(0, true), (1, true), (2, true), (3, true), (4, true), (5, true), (6, true), (7, true), (8, false), (9, true)] _ (by kernel_rfl) (by kernel_rfl) H (.refl _) ?_))))
   clear H; intro W H
   refine cR rfl rfl rfl (fun W H => mv_s rfl rfl) (cR rfl rfl rfl (fun W H => mv_i rfl rfl) (cR rfl rfl rfl (fun W H => d_iaG rfl (H.rd hr1) rfl rfl (q := i) rfl hlt tu22 ts34) (cR rfl rfl rfl (fun W H => d_ldEM (off := 0) rfl (H.rd hr1) hlt hL (sub_all (a := txC Ai x.ins.length ci Bi x.outs.length di x.lock) (m := 3) rfl) rfl rfl (by omega) ta34 ts34) (cR rfl rfl rfl (fun W H => mv_s rfl rfl) (cR rfl rfl rfl (fun W H => mv_i rfl rfl) (cR rfl rfl rfl (fun W H => d_iaG rfl (H.rd hr) rfl rfl (q := i) rfl hlt2 tu22 ts34) (cR rfl rfl rfl (fun W H => d_ldEM (off := 0) rfl (H.rd hr) hlt2 hL2 (sub_all (a := txC Aj y.ins.length cj Bj y.outs.length dj y.lock) (m := 3) rfl) rfl rfl (by omega) ta34 ts34) (c_eff rfl (e_call (w_none rfl) rfl rfl Tryz.func82 rfl rfl rfl (sameTx _ (keeps_Tx _ _ _ _ _ hX (fun g hg _ => H.fr.block g hg (fun h => h))) (keeps_Tx _ _ _ _ _ hY (fun g hg _ => H.fr.block g hg (fun h => h)))) ?_)))))))))
   rintro _ W ⟨rfl, hb⟩
   replace H := H.below hb
   clear hb
   refine ⟨H.sub (by repeat (first | exact .refl _ | exact List.nil_sublist _ | refine .cons_cons _ ?_ | refine .cons _ ?_)), ?_⟩
   refine cR rfl rfl rfl (fun W H => d_not rfl rfl) (c_nil (k_cond rfl (fun hc26 => ?_) (fun hc26 => ?_)))
   ·replace hc26 : ¬ x = y := by simpa using hc26
    refine k_seq (k_region (sAb rfl rfl rfl rfl (l_nil (k_ret ?_))))
    repeat (first | refine r_then ?_ | refine r_blk ?_)
    exact q_ret (v := .bool _) rfl rfl ⟨_, rfl, vb (decide_eq_false (ne_at hx hy hc26)).symm, H.under⟩
   ·replace hc26 : x = y := by simpa using hc26
    refine k_skip (k_nil (b_end (k_region (sMi rfl rfl rfl rfl (sR rfl rfl (d_add rfl rfl rfl (by omega)) (sAi rfl rfl rfl rfl (l_nil (k_nil (k_next ?_)))))))))
    refine ⟨_, _, _, ?_, rfl, ?_, ?_, ⟨i + 1, rfl, rfl, by omega, take_eq_step ht hx (hc26 ▸ hy), H⟩⟩
    ·omega
    ·repeat (first | (with_reducible refine .updl _ .ovr ?_); exact rfl | (with_reducible refine .updl _ (.ovr2 ?_ ?_) ?_); rotate_left; exact rfl; exact rfl | (with_reducible refine .upd ?_ ?_); rotate_left; exact rfl)
    ·refine ⟨?_, trivial⟩
     ·exact vi (by omega)
  ·replace hc14 := of_decide_eq_false hc14
   refine k_exit (x_then (x_then ?_))
   refine x_hit (k_seq (k_region (sAb rfl rfl rfl rfl (l_nil (k_ret ?_)))))
   repeat (first | refine r_then ?_ | refine r_blk ?_)
   obtain rfl : i = l.length := by omega
   exact q_ret (v := .bool _) rfl rfl ⟨_, rfl, vb (decide_eq_true (all_take (by omega) ht)).symm, H.under⟩

set_option maxHeartbeats 4000000 in
theorem sameBlock {S S1 : Nat → Prop} {A B : Option Addr} {c d : Nat} {a b : DBlock} (w : World) (hl : RL 3 RTx w S [.slice A a.txs.length c] a.txs) (hr : RL 3 RTx w S1 [.slice B b.txs.length d] b.txs) (hh : Bk.OkH a.header) (hk : Bk.OkH b.header) : Calls Tryz.prog 25 [.agg (blkC a.header A a.txs.length c).toArray, .agg (blkC b.header B b.txs.length d).toArray].toArray w (Ret (Is w (.bool (decide (a = b))))) := by
 refine k_enter (l := [_, _]) Tryz.func25 rfl rfl ?_
 have H := St.start nT w
 refine k_seq (k_region (s_eff (e_box (vs := (blkC a.header A a.txs.length c)) (w_none rfl) rfl rfl rfl rfl H ?_)))
 clear H; intro ga W H
 refine s_eff (e_box (vs := (blkC b.header B b.txs.length d)) (w_none rfl) rfl rfl rfl rfl H ?_)
 clear H; intro gb W H
 refine sAb rfl rfl rfl rfl (l_nil (k_seq ?_))
 rcases hb1 : beqHeader a.header b.header with _ | _
 ·skip
  refine k_region (sR rfl rfl (d_fa rfl rfl tf28_0) (sR rfl rfl (d_ldXM (g := ga) (off := 0) rfl H (sub_b_hdr hh) (len_hdr hh) rfl rfl rfl ta26 ts26) (sR rfl rfl (d_fa rfl rfl tf28_0) (sR rfl rfl (d_ldXM (g := gb) (off := 0) rfl H (sub_b_hdr hk) (len_hdr hk) rfl rfl rfl ta26 ts26) (sR rfl rfl (d_eqst (r := beqHeader a.header b.header) rfl rfl rfl (eq_Header (d := 9997) (hdr_rep (W := w) (S := nT) hh) (hdr_rep (W := w) (S := nT) hk)) (by kernel_rfl)) ?_)))))
  refine sR rfl rfl (mv_bx (c := false) rfl rfl (by rw [hb1])) ?_
  refine s_skip (w_gno rfl rfl rfl rfl rfl) rfl (s_skip (w_gno rfl rfl rfl rfl rfl) rfl (s_skip (w_gno rfl rfl rfl rfl rfl) rfl (s_skip (w_gno rfl rfl rfl rfl rfl) rfl (s_skip (w_gno rfl rfl rfl rfl rfl) rfl (sR rfl rfl (d_pickF rfl rfl rfl) (sAb rfl rfl rfl rfl (l_nil (k_ret ?_))))))))
  repeat (first | refine r_then ?_ | refine r_blk ?_)
  exact q_ret (v := .bool _) rfl rfl ⟨_, rfl, vb ((decide_eq_false (fun e => by rw [e, beqHeader_iff.2 rfl] at hb1; cases hb1)).symm), H.under⟩
 ·skip
  refine k_region (sR rfl rfl (d_fa rfl rfl tf28_0) (sR rfl rfl (d_ldXM (g := ga) (off := 0) rfl H (sub_b_hdr hh) (len_hdr hh) rfl rfl rfl ta26 ts26) (sR rfl rfl (d_fa rfl rfl tf28_0) (sR rfl rfl (d_ldXM (g := gb) (off := 0) rfl H (sub_b_hdr hk) (len_hdr hk) rfl rfl rfl ta26 ts26) (sR rfl rfl (d_eqst (r := beqHeader a.header b.header) rfl rfl rfl (eq_Header (d := 9997) (hdr_rep (W := w) (S := nT) hh) (hdr_rep (W := w) (S := nT) hk)) (by kernel_rfl)) ?_)))))
  refine sR rfl rfl (mv_bx (c := true) rfl rfl (by rw [hb1])) ?_
  refine s_run (w_g rfl rfl rfl rfl) rfl (d_fa rfl rfl tf28_1) (s_run (w_g rfl rfl rfl rfl) rfl (d_ldX (g := ga) (off := 65) rfl H (sub_b_txs hh) rfl rfl ta22) (s_run (w_g rfl rfl rfl rfl) rfl (d_fa rfl rfl tf28_1) (s_run (w_g rfl rfl rfl rfl) rfl (d_ldX (g := gb) (off := 65) rfl H (sub_b_txs hk) rfl rfl ta22) (s_eff (e_call (w_g rfl rfl rfl rfl) rfl rfl Tryz.func39 rfl rfl rfl (sameTxs _ (keeps_L keeps_Tx _ _ _ _ _ hl (fun g hg _ => H.fr.block g hg (fun h => h))) (keeps_L keeps_Tx _ _ _ _ _ hr (fun g hg _ => H.fr.block g hg (fun h => h)))) ?_)))))
  rintro _ W ⟨rfl, hb⟩
  replace H := H.below hb
  clear hb
  refine sR rfl rfl (d_pickT rfl rfl rfl) (sAb rfl rfl rfl rfl (l_nil (k_ret ?_)))
  repeat (first | refine r_then ?_ | refine r_blk ?_)
  exact q_ret (v := .bool _) rfl rfl ⟨_, rfl, vb (by
   have h1 := beqHeader_iff.1 hb1
   cases a; cases b
   simp_all), H.under⟩
end Go.Proofs.YtfhhfhdnhadooaaGreatDoor
