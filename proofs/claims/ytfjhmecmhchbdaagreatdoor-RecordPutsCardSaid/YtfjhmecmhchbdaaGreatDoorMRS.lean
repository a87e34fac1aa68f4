/- Texts of this claim, laid together: K68, F16. -/
import Derived.Test.YtfjhmecmhchbdaaGreatDoorMRQ
import Derived.Test.YtfjhmecmhchbdaaGreatDoorMJ
import Derived.Test.YtfjhmecmhchbdaaGreatDoorMF
set_option linter.unusedVariables false
set_option linter.unusedSimpArgs false

namespace Go.Proofs.YtfjhmecmhchbdaaGreatDoor
open Go Go.RowKit
attribute [local irreducible] wpList

set_option maxHeartbeats 4000000 in
theorem intsR1 {S : Nat → Prop} {v : Value} {b : List UInt8} {x0 : Int} {q : Nat} (w : World) (hb : Bs w S v b) (hbl : b.length ≤ 1000000) (hq : Gat w q [.int .i64 x0]) (h0 : I64 x0) : Calls Tryz.prog 28 [v, .slice (some ⟨q, 0, none⟩) 1 1].toArray w (Ret (NewB 5 w (b ++ Pk.int (Pk.toU x0)))) := by
  have hb0 := hb
  obtain ⟨Ab, cb, rfl, _, _, _⟩ := hb.op
  have hq0 := Pk.len_int (Pk.toU x0)
  refine k_enter (l := [_, _]) Tryz.func28 rfl rfl ?_
  have H := St.start nT w
  refine k_seq ?_
  refine k_region ?_
  refine s_run (w_none rfl) rfl (as_s rfl rfl) ?_
  refine l_nil ?_
  refine k_seq ?_
  refine k_seq ?_
  refine k_region ?_
  refine s_run (w_none rfl) rfl (as_i rfl rfl) ?_
  refine l_nil ?_
  refine k_block ?_
  refine k_unr (k_one ?_)
  refine k_seq ?_
  refine k_seq ?_
  refine k_region ?_
  refine s_run (w_none rfl) rfl (mv_i rfl rfl) ?_
  refine s_run (w_none rfl) rfl (mv_s rfl rfl) ?_
  refine s_run (w_none rfl) rfl (d_len rfl rfl tu66) ?_
  refine s_run (w_none rfl) rfl (d_lt rfl rfl rfl) ?_
  refine l_nil ?_
  refine k_condT rfl rfl ?_
  refine k_skip ?_
  refine k_seq ?_
  refine k_block ?_
  refine k_region ?_
  refine s_run (w_none rfl) rfl (mv_s rfl rfl) ?_
  refine s_run (w_none rfl) rfl (mv_s rfl rfl) ?_
  refine s_run (w_none rfl) rfl (mv_i rfl rfl) ?_
  refine s_run (w_none rfl) rfl (d_iaP (q := 0) rfl rfl rfl rfl (by decide) tu66 ts3) ?_
  refine s_run (w_none rfl) rfl (d_ldG rfl ((H.gat hq)) rfl ta3 rfl) ?_
  refine s_eff (e_call (w_none rfl) rfl rfl Tryz.func66 rfl rfl rfl (refInt (b := (b)) x0 _ (H.bs hb0) h0 (by first | omega | (simp only [List.length_append]; omega))) ?_)
  rintro _ W ⟨A1, c1, rfl, hc1, hd1, hn⟩
  replace H := H.new hn
  clear hn
  refine s_run (w_none rfl) rfl (as_s rfl rfl) ?_
  refine l_nil ?_
  refine k_nil ?_
  refine b_end ?_
  refine k_region ?_
  refine s_run (w_none rfl) rfl (mv_i rfl rfl) ?_
  refine s_run (w_none rfl) rfl (d_add rfl rfl rfl (by omega)) ?_
  refine s_run (w_none rfl) rfl (as_i rfl rfl) ?_
  refine l_nil ?_
  refine k_nil ?_
  refine k_next (hd_of (k_one ?_))
  refine k_seq ?_
  refine k_seq ?_
  refine k_region ?_
  refine s_run (w_none rfl) rfl (mv_i rfl rfl) ?_
  refine s_run (w_none rfl) rfl (mv_s rfl rfl) ?_
  refine s_run (w_none rfl) rfl (d_len rfl rfl tu66) ?_
  refine s_run (w_none rfl) rfl (d_lt rfl rfl rfl) ?_
  refine l_nil ?_
  refine k_condF rfl rfl ?_
  refine k_exit ?_
  refine x_then (x_then ?_)
  refine x_hit ?_
  refine k_seq ?_
  refine k_region ?_
  refine s_run (w_none rfl) rfl (mv_s rfl rfl) ?_
  refine s_run (w_none rfl) rfl (as_s rfl rfl) ?_
  refine l_nil ?_
  refine k_ret ?_
  repeat (first | refine r_then ?_ | refine r_blk ?_)
  exact q_ret (v := .slice _ _ _) rfl rfl ⟨_, rfl, H.newB rfl rfl hc1 hd1⟩

set_option maxHeartbeats 4000000 in
theorem intsR2 {S : Nat → Prop} {v : Value} {b : List UInt8} {x0 x1 : Int} {q : Nat} (w : World) (hb : Bs w S v b) (hbl : b.length ≤ 1000000) (hq : Gat w q [.int .i64 x0, .int .i64 x1]) (h0 : I64 x0) (h1 : I64 x1) : Calls Tryz.prog 28 [v, .slice (some ⟨q, 0, none⟩) 2 2].toArray w (Ret (NewB 5 w (b ++ Pk.int (Pk.toU x0) ++ Pk.int (Pk.toU x1)))) := by
  have hb0 := hb
  obtain ⟨Ab, cb, rfl, _, _, _⟩ := hb.op
  have hq0 := Pk.len_int (Pk.toU x0)
  have hq1 := Pk.len_int (Pk.toU x1)
  refine k_enter (l := [_, _]) Tryz.func28 rfl rfl ?_
  have H := St.start nT w
  refine k_seq ?_
  refine k_region ?_
  refine s_run (w_none rfl) rfl (as_s rfl rfl) ?_
  refine l_nil ?_
  refine k_seq ?_
  refine k_seq ?_
  refine k_region ?_
  refine s_run (w_none rfl) rfl (as_i rfl rfl) ?_
  refine l_nil ?_
  refine k_block ?_
  refine k_unr (k_one ?_)
  refine k_seq ?_
  refine k_seq ?_
  refine k_region ?_
  refine s_run (w_none rfl) rfl (mv_i rfl rfl) ?_
  refine s_run (w_none rfl) rfl (mv_s rfl rfl) ?_
  refine s_run (w_none rfl) rfl (d_len rfl rfl tu66) ?_
  refine s_run (w_none rfl) rfl (d_lt rfl rfl rfl) ?_
  refine l_nil ?_
  refine k_condT rfl rfl ?_
  refine k_skip ?_
  refine k_seq ?_
  refine k_block ?_
  refine k_region ?_
  refine s_run (w_none rfl) rfl (mv_s rfl rfl) ?_
  refine s_run (w_none rfl) rfl (mv_s rfl rfl) ?_
  refine s_run (w_none rfl) rfl (mv_i rfl rfl) ?_
  refine s_run (w_none rfl) rfl (d_iaP (q := 0) rfl rfl rfl rfl (by decide) tu66 ts3) ?_
  refine s_run (w_none rfl) rfl (d_ldG rfl ((H.gat hq)) rfl ta3 rfl) ?_
  refine s_eff (e_call (w_none rfl) rfl rfl Tryz.func66 rfl rfl rfl (refInt (b := (b)) x0 _ (H.bs hb0) h0 (by first | omega | (simp only [List.length_append]; omega))) ?_)
  rintro _ W ⟨A1, c1, rfl, hc1, hd1, hn⟩
  replace H := H.new hn
  clear hn
  refine s_run (w_none rfl) rfl (as_s rfl rfl) ?_
  refine l_nil ?_
  refine k_nil ?_
  refine b_end ?_
  refine k_region ?_
  refine s_run (w_none rfl) rfl (mv_i rfl rfl) ?_
  refine s_run (w_none rfl) rfl (d_add rfl rfl rfl (by omega)) ?_
  refine s_run (w_none rfl) rfl (as_i rfl rfl) ?_
  refine l_nil ?_
  refine k_nil ?_
  refine k_next (hd_of (k_one ?_))
  refine k_seq ?_
  refine k_seq ?_
  refine k_region ?_
  refine s_run (w_none rfl) rfl (mv_i rfl rfl) ?_
  refine s_run (w_none rfl) rfl (mv_s rfl rfl) ?_
  refine s_run (w_none rfl) rfl (d_len rfl rfl tu66) ?_
  refine s_run (w_none rfl) rfl (d_lt rfl rfl rfl) ?_
  refine l_nil ?_
  refine k_condT rfl rfl ?_
  refine k_skip ?_
  refine k_seq ?_
  refine k_block ?_
  refine k_region ?_
  refine s_run (w_none rfl) rfl (mv_s rfl rfl) ?_
  refine s_run (w_none rfl) rfl (mv_s rfl rfl) ?_
  refine s_run (w_none rfl) rfl (mv_i rfl rfl) ?_
  refine s_run (w_none rfl) rfl (d_iaP (q := 1) rfl rfl rfl rfl (by decide) tu66 ts3) ?_
  refine s_run (w_none rfl) rfl (d_ldG rfl ((H.gat hq)) rfl ta3 rfl) ?_
  refine s_eff (e_call (w_none rfl) rfl rfl Tryz.func66 rfl rfl rfl (refInt (b := (b ++ Pk.int (Pk.toU x0))) x1 _ (H.rowbs (A := A1) rfl) h1 (by first | omega | (simp only [List.length_append]; omega))) ?_)
  rintro _ W ⟨A2, c2, rfl, hc2, hd2, hn⟩
  replace H := H.new hn
  clear hn
  refine s_run (w_none rfl) rfl (as_s rfl rfl) ?_
  refine l_nil ?_
  refine k_nil ?_
  refine b_end ?_
  refine k_region ?_
  refine s_run (w_none rfl) rfl (mv_i rfl rfl) ?_
  refine s_run (w_none rfl) rfl (d_add rfl rfl rfl (by omega)) ?_
  refine s_run (w_none rfl) rfl (as_i rfl rfl) ?_
  refine l_nil ?_
  refine k_nil ?_
  refine k_next (hd_of (k_one ?_))
  refine k_seq ?_
  refine k_seq ?_
  refine k_region ?_
  refine s_run (w_none rfl) rfl (mv_i rfl rfl) ?_
  refine s_run (w_none rfl) rfl (mv_s rfl rfl) ?_
  refine s_run (w_none rfl) rfl (d_len rfl rfl tu66) ?_
  refine s_run (w_none rfl) rfl (d_lt rfl rfl rfl) ?_
  refine l_nil ?_
  refine k_condF rfl rfl ?_
  refine k_exit ?_
  refine x_then (x_then ?_)
  refine x_hit ?_
  refine k_seq ?_
  refine k_region ?_
  refine s_run (w_none rfl) rfl (mv_s rfl rfl) ?_
  refine s_run (w_none rfl) rfl (as_s rfl rfl) ?_
  refine l_nil ?_
  refine k_ret ?_
  repeat (first | refine r_then ?_ | refine r_blk ?_)
  exact q_ret (v := .slice _ _ _) rfl rfl ⟨_, rfl, H.newB rfl rfl hc2 hd2⟩

set_option maxHeartbeats 4000000 in
theorem intsR7 {S : Nat → Prop} {v : Value} {b : List UInt8} {x0 x1 x2 x3 x4 x5 x6 : Int} {q : Nat} (w : World) (hb : Bs w S v b) (hbl : b.length ≤ 1000000) (hq : Gat w q [.int .i64 x0, .int .i64 x1, .int .i64 x2, .int .i64 x3, .int .i64 x4, .int .i64 x5, .int .i64 x6]) (h0 : I64 x0) (h1 : I64 x1) (h2 : I64 x2) (h3 : I64 x3) (h4 : I64 x4) (h5 : I64 x5) (h6 : I64 x6) : Calls Tryz.prog 28 [v, .slice (some ⟨q, 0, none⟩) 7 7].toArray w (Ret (NewB 5 w (b ++ Pk.int (Pk.toU x0) ++ Pk.int (Pk.toU x1) ++ Pk.int (Pk.toU x2) ++ Pk.int (Pk.toU x3) ++ Pk.int (Pk.toU x4) ++ Pk.int (Pk.toU x5) ++ Pk.int (Pk.toU x6)))) := by
  have hb0 := hb
  obtain ⟨Ab, cb, rfl, _, _, _⟩ := hb.op
  have hq0 := Pk.len_int (Pk.toU x0)
  have hq1 := Pk.len_int (Pk.toU x1)
  have hq2 := Pk.len_int (Pk.toU x2)
  have hq3 := Pk.len_int (Pk.toU x3)
  have hq4 := Pk.len_int (Pk.toU x4)
  have hq5 := Pk.len_int (Pk.toU x5)
  have hq6 := Pk.len_int (Pk.toU x6)
  refine k_enter (l := [_, _]) Tryz.func28 rfl rfl ?_
  have H := St.start nT w
  refine k_seq ?_
  refine k_region ?_
  refine s_run (w_none rfl) rfl (as_s rfl rfl) ?_
  refine l_nil ?_
  refine k_seq ?_
  refine k_seq ?_
  refine k_region ?_
  refine s_run (w_none rfl) rfl (as_i rfl rfl) ?_
  refine l_nil ?_
  refine k_block ?_
  refine k_unr (k_one ?_)
  refine k_seq ?_
  refine k_seq ?_
  refine k_region ?_
  refine s_run (w_none rfl) rfl (mv_i rfl rfl) ?_
  refine s_run (w_none rfl) rfl (mv_s rfl rfl) ?_
  refine s_run (w_none rfl) rfl (d_len rfl rfl tu66) ?_
  refine s_run (w_none rfl) rfl (d_lt rfl rfl rfl) ?_
  refine l_nil ?_
  refine k_condT rfl rfl ?_
  refine k_skip ?_
  refine k_seq ?_
  refine k_block ?_
  refine k_region ?_
  refine s_run (w_none rfl) rfl (mv_s rfl rfl) ?_
  refine s_run (w_none rfl) rfl (mv_s rfl rfl) ?_
  refine s_run (w_none rfl) rfl (mv_i rfl rfl) ?_
  refine s_run (w_none rfl) rfl (d_iaP (q := 0) rfl rfl rfl rfl (by decide) tu66 ts3) ?_
  refine s_run (w_none rfl) rfl (d_ldG rfl ((H.gat hq)) rfl ta3 rfl) ?_
  refine s_eff (e_call (w_none rfl) rfl rfl Tryz.func66 rfl rfl rfl (refInt (b := (b)) x0 _ (H.bs hb0) h0 (by first | omega | (simp only [List.length_append]; omega))) ?_)
  rintro _ W ⟨A1, c1, rfl, hc1, hd1, hn⟩
  replace H := H.new hn
  clear hn
  refine s_run (w_none rfl) rfl (as_s rfl rfl) ?_
  refine l_nil ?_
  refine k_nil ?_
  refine b_end ?_
  refine k_region ?_
  refine s_run (w_none rfl) rfl (mv_i rfl rfl) ?_
  refine s_run (w_none rfl) rfl (d_add rfl rfl rfl (by omega)) ?_
  refine s_run (w_none rfl) rfl (as_i rfl rfl) ?_
  refine l_nil ?_
  refine k_nil ?_
  refine k_next (hd_of (k_one ?_))
  refine k_seq ?_
  refine k_seq ?_
  refine k_region ?_
  refine s_run (w_none rfl) rfl (mv_i rfl rfl) ?_
  refine s_run (w_none rfl) rfl (mv_s rfl rfl) ?_
  refine s_run (w_none rfl) rfl (d_len rfl rfl tu66) ?_
  refine s_run (w_none rfl) rfl (d_lt rfl rfl rfl) ?_
  refine l_nil ?_
  refine k_condT rfl rfl ?_
  refine k_skip ?_
  refine k_seq ?_
  refine k_block ?_
  refine k_region ?_
  refine s_run (w_none rfl) rfl (mv_s rfl rfl) ?_
  refine s_run (w_none rfl) rfl (mv_s rfl rfl) ?_
  refine s_run (w_none rfl) rfl (mv_i rfl rfl) ?_
  refine s_run (w_none rfl) rfl (d_iaP (q := 1) rfl rfl rfl rfl (by decide) tu66 ts3) ?_
  refine s_run (w_none rfl) rfl (d_ldG rfl ((H.gat hq)) rfl ta3 rfl) ?_
  refine s_eff (e_call (w_none rfl) rfl rfl Tryz.func66 rfl rfl rfl (refInt (b := (b ++ Pk.int (Pk.toU x0))) x1 _ (H.rowbs (A := A1) rfl) h1 (by first | omega | (simp only [List.length_append]; omega))) ?_)
  rintro _ W ⟨A2, c2, rfl, hc2, hd2, hn⟩
  replace H := H.new hn
  clear hn
  refine s_run (w_none rfl) rfl (as_s rfl rfl) ?_
  refine l_nil ?_
  refine k_nil ?_
  refine b_end ?_
  refine k_region ?_
  refine s_run (w_none rfl) rfl (mv_i rfl rfl) ?_
  refine s_run (w_none rfl) rfl (d_add rfl rfl rfl (by omega)) ?_
  refine s_run (w_none rfl) rfl (as_i rfl rfl) ?_
  refine l_nil ?_
  refine k_nil ?_
  refine k_next (hd_of (k_one ?_))
  refine k_seq ?_
  refine k_seq ?_
  refine k_region ?_
  refine s_run (w_none rfl) rfl (mv_i rfl rfl) ?_
  refine s_run (w_none rfl) rfl (mv_s rfl rfl) ?_
  refine s_run (w_none rfl) rfl (d_len rfl rfl tu66) ?_
  refine s_run (w_none rfl) rfl (d_lt rfl rfl rfl) ?_
  refine l_nil ?_
  refine k_condT rfl rfl ?_
  refine k_skip ?_
  refine k_seq ?_
  refine k_block ?_
  refine k_region ?_
  refine s_run (w_none rfl) rfl (mv_s rfl rfl) ?_
  refine s_run (w_none rfl) rfl (mv_s rfl rfl) ?_
  refine s_run (w_none rfl) rfl (mv_i rfl rfl) ?_
  refine s_run (w_none rfl) rfl (d_iaP (q := 2) rfl rfl rfl rfl (by decide) tu66 ts3) ?_
  refine s_run (w_none rfl) rfl (d_ldG rfl ((H.gat hq)) rfl ta3 rfl) ?_
  refine s_eff (e_call (w_none rfl) rfl rfl Tryz.func66 rfl rfl rfl (refInt (b := (b ++ Pk.int (Pk.toU x0) ++ Pk.int (Pk.toU x1))) x2 _ (H.rowbs (A := A2) rfl) h2 (by first | omega | (simp only [List.length_append]; omega))) ?_)
  rintro _ W ⟨A3, c3, rfl, hc3, hd3, hn⟩
  replace H := H.new hn
  clear hn
  refine s_run (w_none rfl) rfl (as_s rfl rfl) ?_
  refine l_nil ?_
  refine k_nil ?_
  refine b_end ?_
  refine k_region ?_
  refine s_run (w_none rfl) rfl (mv_i rfl rfl) ?_
  refine s_run (w_none rfl) rfl (d_add rfl rfl rfl (by omega)) ?_
  refine s_run (w_none rfl) rfl (as_i rfl rfl) ?_
  refine l_nil ?_
  refine k_nil ?_
  refine k_next (hd_of (k_one ?_))
  refine k_seq ?_
  refine k_seq ?_
  refine k_region ?_
  refine s_run (w_none rfl) rfl (mv_i rfl rfl) ?_
  refine s_run (w_none rfl) rfl (mv_s rfl rfl) ?_
  refine s_run (w_none rfl) rfl (d_len rfl rfl tu66) ?_
  refine s_run (w_none rfl) rfl (d_lt rfl rfl rfl) ?_
  refine l_nil ?_
  refine k_condT rfl rfl ?_
  refine k_skip ?_
  refine k_seq ?_
  refine k_block ?_
  refine k_region ?_
  refine s_run (w_none rfl) rfl (mv_s rfl rfl) ?_
  refine s_run (w_none rfl) rfl (mv_s rfl rfl) ?_
  refine s_run (w_none rfl) rfl (mv_i rfl rfl) ?_
  refine s_run (w_none rfl) rfl (d_iaP (q := 3) rfl rfl rfl rfl (by decide) tu66 ts3) ?_
  refine s_run (w_none rfl) rfl (d_ldG rfl ((H.gat hq)) rfl ta3 rfl) ?_
  refine s_eff (e_call (w_none rfl) rfl rfl Tryz.func66 rfl rfl rfl (refInt (b := (b ++ Pk.int (Pk.toU x0) ++ Pk.int (Pk.toU x1) ++ Pk.int (Pk.toU x2))) x3 _ (H.rowbs (A := A3) rfl) h3 (by first | omega | (simp only [List.length_append]; omega))) ?_)
  rintro _ W ⟨A4, c4, rfl, hc4, hd4, hn⟩
  replace H := H.new hn
  clear hn
  refine s_run (w_none rfl) rfl (as_s rfl rfl) ?_
  refine l_nil ?_
  refine k_nil ?_
  refine b_end ?_
  refine k_region ?_
  refine s_run (w_none rfl) rfl (mv_i rfl rfl) ?_
  refine s_run (w_none rfl) rfl (d_add rfl rfl rfl (by omega)) ?_
  refine s_run (w_none rfl) rfl (as_i rfl rfl) ?_
  refine l_nil ?_
  refine k_nil ?_
  refine k_next (hd_of (k_one ?_))
  refine k_seq ?_
  refine k_seq ?_
  refine k_region ?_
  refine s_run (w_none rfl) rfl (mv_i rfl rfl) ?_
  refine s_run (w_none rfl) rfl (mv_s rfl rfl) ?_
  refine s_run (w_none rfl) rfl (d_len rfl rfl tu66) ?_
  refine s_run (w_none rfl) rfl (d_lt rfl rfl rfl) ?_
  refine l_nil ?_
  refine k_condT rfl rfl ?_
  refine k_skip ?_
  refine k_seq ?_
  refine k_block ?_
  refine k_region ?_
  refine s_run (w_none rfl) rfl (mv_s rfl rfl) ?_
  refine s_run (w_none rfl) rfl (mv_s rfl rfl) ?_
  refine s_run (w_none rfl) rfl (mv_i rfl rfl) ?_
  refine s_run (w_none rfl) rfl (d_iaP (q := 4) rfl rfl rfl rfl (by decide) tu66 ts3) ?_
  refine s_run (w_none rfl) rfl (d_ldG rfl ((H.gat hq)) rfl ta3 rfl) ?_
  refine s_eff (e_call (w_none rfl) rfl rfl Tryz.func66 rfl rfl rfl (refInt (b := (b ++ Pk.int (Pk.toU x0) ++ Pk.int (Pk.toU x1) ++ Pk.int (Pk.toU x2) ++ Pk.int (Pk.toU x3))) x4 _ (H.rowbs (A := A4) rfl) h4 (by first | omega | (simp only [List.length_append]; omega))) ?_)
  rintro _ W ⟨A5, c5, rfl, hc5, hd5, hn⟩
  replace H := H.new hn
  clear hn
  refine s_run (w_none rfl) rfl (as_s rfl rfl) ?_
  refine l_nil ?_
  refine k_nil ?_
  refine b_end ?_
  refine k_region ?_
  refine s_run (w_none rfl) rfl (mv_i rfl rfl) ?_
  refine s_run (w_none rfl) rfl (d_add rfl rfl rfl (by omega)) ?_
  refine s_run (w_none rfl) rfl (as_i rfl rfl) ?_
  refine l_nil ?_
  refine k_nil ?_
  refine k_next (hd_of (k_one ?_))
  refine k_seq ?_
  refine k_seq ?_
  refine k_region ?_
  refine s_run (w_none rfl) rfl (mv_i rfl rfl) ?_
  refine s_run (w_none rfl) rfl (mv_s rfl rfl) ?_
  refine s_run (w_none rfl) rfl (d_len rfl rfl tu66) ?_
  refine s_run (w_none rfl) rfl (d_lt rfl rfl rfl) ?_
  refine l_nil ?_
  refine k_condT rfl rfl ?_
  refine k_skip ?_
  refine k_seq ?_
  refine k_block ?_
  refine k_region ?_
  refine s_run (w_none rfl) rfl (mv_s rfl rfl) ?_
  refine s_run (w_none rfl) rfl (mv_s rfl rfl) ?_
  refine s_run (w_none rfl) rfl (mv_i rfl rfl) ?_
  refine s_run (w_none rfl) rfl (d_iaP (q := 5) rfl rfl rfl rfl (by decide) tu66 ts3) ?_
  refine s_run (w_none rfl) rfl (d_ldG rfl ((H.gat hq)) rfl ta3 rfl) ?_
  refine s_eff (e_call (w_none rfl) rfl rfl Tryz.func66 rfl rfl rfl (refInt (b := (b ++ Pk.int (Pk.toU x0) ++ Pk.int (Pk.toU x1) ++ Pk.int (Pk.toU x2) ++ Pk.int (Pk.toU x3) ++ Pk.int (Pk.toU x4))) x5 _ (H.rowbs (A := A5) rfl) h5 (by first | omega | (simp only [List.length_append]; omega))) ?_)
  rintro _ W ⟨A6, c6, rfl, hc6, hd6, hn⟩
  replace H := H.new hn
  clear hn
  refine s_run (w_none rfl) rfl (as_s rfl rfl) ?_
  refine l_nil ?_
  refine k_nil ?_
  refine b_end ?_
  refine k_region ?_
  refine s_run (w_none rfl) rfl (mv_i rfl rfl) ?_
  refine s_run (w_none rfl) rfl (d_add rfl rfl rfl (by omega)) ?_
  refine s_run (w_none rfl) rfl (as_i rfl rfl) ?_
  refine l_nil ?_
  refine k_nil ?_
  refine k_next (hd_of (k_one ?_))
  refine k_seq ?_
  refine k_seq ?_
  refine k_region ?_
  refine s_run (w_none rfl) rfl (mv_i rfl rfl) ?_
  refine s_run (w_none rfl) rfl (mv_s rfl rfl) ?_
  refine s_run (w_none rfl) rfl (d_len rfl rfl tu66) ?_
  refine s_run (w_none rfl) rfl (d_lt rfl rfl rfl) ?_
  refine l_nil ?_
  refine k_condT rfl rfl ?_
  refine k_skip ?_
  refine k_seq ?_
  refine k_block ?_
  refine k_region ?_
  refine s_run (w_none rfl) rfl (mv_s rfl rfl) ?_
  refine s_run (w_none rfl) rfl (mv_s rfl rfl) ?_
  refine s_run (w_none rfl) rfl (mv_i rfl rfl) ?_
  refine s_run (w_none rfl) rfl (d_iaP (q := 6) rfl rfl rfl rfl (by decide) tu66 ts3) ?_
  refine s_run (w_none rfl) rfl (d_ldG rfl ((H.gat hq)) rfl ta3 rfl) ?_
  refine s_eff (e_call (w_none rfl) rfl rfl Tryz.func66 rfl rfl rfl (refInt (b := (b ++ Pk.int (Pk.toU x0) ++ Pk.int (Pk.toU x1) ++ Pk.int (Pk.toU x2) ++ Pk.int (Pk.toU x3) ++ Pk.int (Pk.toU x4) ++ Pk.int (Pk.toU x5))) x6 _ (H.rowbs (A := A6) rfl) h6 (by first | omega | (simp only [List.length_append]; omega))) ?_)
  rintro _ W ⟨A7, c7, rfl, hc7, hd7, hn⟩
  replace H := H.new hn
  clear hn
  refine s_run (w_none rfl) rfl (as_s rfl rfl) ?_
  refine l_nil ?_
  refine k_nil ?_
  refine b_end ?_
  refine k_region ?_
  refine s_run (w_none rfl) rfl (mv_i rfl rfl) ?_
  refine s_run (w_none rfl) rfl (d_add rfl rfl rfl (by omega)) ?_
  refine s_run (w_none rfl) rfl (as_i rfl rfl) ?_
  refine l_nil ?_
  refine k_nil ?_
  refine k_next (hd_of (k_one ?_))
  refine k_seq ?_
  refine k_seq ?_
  refine k_region ?_
  refine s_run (w_none rfl) rfl (mv_i rfl rfl) ?_
  refine s_run (w_none rfl) rfl (mv_s rfl rfl) ?_
  refine s_run (w_none rfl) rfl (d_len rfl rfl tu66) ?_
  refine s_run (w_none rfl) rfl (d_lt rfl rfl rfl) ?_
  refine l_nil ?_
  refine k_condF rfl rfl ?_
  refine k_exit ?_
  refine x_then (x_then ?_)
  refine x_hit ?_
  refine k_seq ?_
  refine k_region ?_
  refine s_run (w_none rfl) rfl (mv_s rfl rfl) ?_
  refine s_run (w_none rfl) rfl (as_s rfl rfl) ?_
  refine l_nil ?_
  refine k_ret ?_
  repeat (first | refine r_then ?_ | refine r_blk ?_)
  exact q_ret (v := .slice _ _ _) rfl rfl ⟨_, rfl, H.newB rfl rfl hc7 hd7⟩

set_option maxHeartbeats 4000000 in
theorem putRR {S : Nat → Prop} {ct : List Value} {r : DRecord} (w : World) (ho : Rc.Ok r) (ht : RTx w S ct r.tx) (hs : r.tx.ins.length ≤ 1000000 ∧ r.tx.outs.length ≤ 1000000) : Calls Tryz.prog 9 [.agg (recC r ct).toArray].toArray w (Ret (fun v w' => ∃ x, v = .tuple #[x, .int .i64 (Rc.put r).2] ∧ NewB 5 w (Rc.put r).1 x w')) := by
  obtain ⟨A, c, B, d, rfl, hI, hO, hk⟩ := tx_of ht
  have hh := ho.2.2.1.2.2.2.2.1
  have hs9 := ho.2.2.2.1
  have hq0 := Pk.len_int (Pk.toU r.kind)
  have hq1 := Pk.len_int (Pk.toU r.id)
  have hq2 := Pk.len_int (Pk.toU r.move)
  have hq3 := Pk.len_int (Pk.toU r.state)
  have hq4 := Pk.len_int (Pk.toU r.deal.peer)
  have hq5 := Pk.len_int (Pk.toU r.deal.role)
  have hq6 := Pk.len_int (Pk.toU r.deal.paid.whereA)
  have hq7 := Pk.len_int (Pk.toU r.deal.paid.amount)
  have hq8 := Pk.len_int (Pk.toU r.deal.paid.untilA)
  have hq9 := Pk.len_int (Pk.toU r.deal.got.whereA)
  have hq10 := Pk.len_int (Pk.toU r.deal.got.amount)
  have hq11 := Pk.len_int (Pk.toU r.deal.got.untilA)
  refine k_enter (l := [_]) Tryz.func9 rfl rfl ?_
  have H := St.start nT w
  refine k_seq ?_
  refine k_region ?_
  refine s_eff (e_box (vs := (recC r (txC A r.tx.ins.length c B r.tx.outs.length d r.tx.lock))) (w_none rfl) rfl rfl rfl rfl H ?_)
  clear H; intro gm W H
  refine s_run (w_none rfl) rfl (as_s rfl rfl) ?_
  refine s_run (w_none rfl) rfl (as_i rfl rfl) ?_
  refine l_nil ?_
  refine k_seq ?_
  refine k_region ?_
  refine s_run (w_none rfl) rfl (d_ldXM (g := gm) (off := 0) rfl H (sub_all (len_rec' ho rfl)) (len_rec' ho rfl) rfl rfl rfl ta33 ts33) ?_
  refine s_eff (e_call (w_none rfl) rfl rfl Tryz.func13 rfl rfl rfl (checkRR _ ho (keeps_Tx _ _ _ _ _ ht (fun g hg _ => H.fr.block g hg (fun h => h))) hs) ?_)
  rintro _ W ⟨rfl, hb⟩
  replace H := H.below hb
  clear hb
  refine s_run (w_none rfl) rfl (as_i rfl rfl) ?_
  refine l_nil ?_
  refine k_seq ?_
  refine k_seq ?_
  refine k_region ?_
  refine s_run (w_none rfl) rfl (mv_i rfl rfl) ?_
  refine s_run (w_none rfl) rfl (d_ne rfl rfl rfl) ?_
  refine l_nil ?_
  refine k_cond rfl (fun hc12 => ?_) (fun hc12 => ?_)
  · have he : Rc.chk r ≠ 0 := by simpa using hc12
    refine k_seq ?_
    refine k_region ?_
    refine s_run (w_none rfl) rfl (mv_i rfl rfl) ?_
    refine s_run (w_none rfl) rfl (as_s rfl rfl) ?_
    refine s_run (w_none rfl) rfl (as_i rfl rfl) ?_
    refine l_nil ?_
    refine k_ret ?_
    repeat (first | refine r_then ?_ | refine r_blk ?_)
    rw [Rc.put_bad he]
    replace H := H.nilrow 5 1
    exact q_ret2 (v := .slice _ _ _) (x := .int _ _) rfl rfl rfl ⟨_, rfl, _, rfl, H.newB (l := []) rfl rfl (Nat.le_refl _) (by omega)⟩
  · have he : Rc.chk r = 0 := by simpa using hc12
    have hkk := (Rc.chk_of he).1
    refine k_skip ?_
    refine k_seq ?_
    refine k_region ?_
    refine s_run (w_none rfl) rfl (d_fa rfl rfl tf33_2) ?_
    refine s_run (w_none rfl) rfl (d_ldXM (g := gm) (off := 2) rfl H (sub_r_deal ho) (len_deal ho.2.2.1.2.2.2.2.1) rfl rfl rfl ta27 ts27) ?_
    refine s_eff (e_alloc (w_none rfl) rfl rfl [.int .i64 0, .int .i64 0, .int .i64 0, .int .i64 0, .int .i64 0, .int .i64 0, .int .i64 0, .int .i64 0, .int .u8 0, .int .u8 0, .int .u8 0, .int .u8 0, .int .u8 0, .int .u8 0, .int .u8 0, .int .u8 0, .int .u8 0, .int .u8 0, .int .u8 0, .int .u8 0, .int .u8 0, .int .u8 0, .int .u8 0, .int .u8 0, .int .u8 0, .int .u8 0, .int .u8 0, .int .u8 0, .int .u8 0, .int .u8 0, .int .u8 0, .int .u8 0, .int .u8 0, .int .u8 0, .int .u8 0, .int .u8 0, .int .u8 0, .int .u8 0, .int .u8 0, .int .u8 0, .int .i64 0] tz27 H ?_)
    clear H; intro gd W H
    refine s_eff (e_stoK (dealC r.deal) (w_none rfl) rfl rfl rfl rfl rfl ts27 (len_deal hh) deal_one H (by decide) (spl_all (by rw [len_deal hh]; rfl)) ?_)
    clear H; intro W H
    refine l_nil ?_
    refine k_seq ?_
    refine k_region ?_
    refine s_run (w_none rfl) rfl (d_fa rfl rfl tf33_0) ?_
    refine s_run (w_none rfl) rfl (d_ldX (g := gm) (off := 0) rfl H rfl rfl rfl ta3) ?_
    refine s_run (w_none rfl) rfl (d_fa rfl rfl tf33_1) ?_
    refine s_run (w_none rfl) rfl (d_ldX (g := gm) (off := 1) rfl H rfl rfl rfl ta3) ?_
    refine s_eff (e_bsl (xs := [.tmp 17, .tmp 19]) (vals := [.int .i64 _, .int .i64 _]) (vs := [.int .i64 _, .int .i64 _]) (w_none rfl) rfl rfl rfl rfl rfl rfl tu66 ts3 ty3 rfl rfl rfl H ?_)
    clear H; intro g1 W H
    refine s_eff (e_call (w_none rfl) rfl rfl Tryz.func28 rfl rfl rfl (intsR2 (b := []) (x0 := r.kind) (x1 := r.id) _ (Bs.nil (S := nT)) (by simp) (gat_of (H.blk (g := g1))) ho.1 ho.2.1) ?_)
    rintro _ W ⟨A1, c1, rfl, hc1, hd1, hn⟩
    replace H := H.new hn
    clear hn
    refine s_run (w_none rfl) rfl (as_s rfl rfl) ?_
    refine l_nil ?_
    refine k_seq ?_
    refine k_seq ?_
    rcases (show r.kind = 1 ∨ r.kind = 2 ∨ r.kind = 3 ∨ r.kind = 4 by omega) with h1 | h1 | h1 | h1
    · skip
      refine k_region ?_
      refine s_run (w_none rfl) rfl (d_fa rfl rfl tf33_0) ?_
      refine s_run (w_none rfl) rfl (d_ldX (g := gm) (off := 0) rfl H rfl rfl rfl ta3) ?_
      refine s_run (w_none rfl) rfl (d_eq rfl rfl rfl) ?_
      refine l_nil ?_
      refine k_condT rfl (by first | rfl | (simp; omega) | (simp; done) | simp_all) ?_
      refine k_seq ?_
      refine k_region ?_
      refine s_run (w_none rfl) rfl (mv_s rfl rfl) ?_
      refine s_run (w_none rfl) rfl (d_fa rfl rfl tf27_1) ?_
      refine s_run (w_none rfl) rfl (d_ldX (g := gd) (off := 1) rfl H rfl rfl rfl ta3) ?_
      refine s_run (w_none rfl) rfl (d_fa rfl rfl tf27_2) ?_
      refine s_run (w_none rfl) rfl (d_fa rfl rfl tf23_0) ?_
      refine s_run (w_none rfl) rfl (d_ldX (g := gd) (off := 2) rfl H rfl rfl rfl ta3) ?_
      refine s_run (w_none rfl) rfl (d_fa rfl rfl tf27_2) ?_
      refine s_run (w_none rfl) rfl (d_fa rfl rfl tf23_1) ?_
      refine s_run (w_none rfl) rfl (d_ldX (g := gd) (off := 3) rfl H rfl rfl rfl ta3) ?_
      refine s_run (w_none rfl) rfl (d_fa rfl rfl tf27_2) ?_
      refine s_run (w_none rfl) rfl (d_fa rfl rfl tf23_2) ?_
      refine s_run (w_none rfl) rfl (d_ldX (g := gd) (off := 4) rfl H rfl rfl rfl ta3) ?_
      refine s_run (w_none rfl) rfl (d_fa rfl rfl tf27_3) ?_
      refine s_run (w_none rfl) rfl (d_fa rfl rfl tf23_0) ?_
      refine s_run (w_none rfl) rfl (d_ldX (g := gd) (off := 5) rfl H rfl rfl rfl ta3) ?_
      refine s_run (w_none rfl) rfl (d_fa rfl rfl tf27_3) ?_
      refine s_run (w_none rfl) rfl (d_fa rfl rfl tf23_1) ?_
      refine s_run (w_none rfl) rfl (d_ldX (g := gd) (off := 6) rfl H rfl rfl rfl ta3) ?_
      refine s_run (w_none rfl) rfl (d_fa rfl rfl tf27_3) ?_
      refine s_run (w_none rfl) rfl (d_fa rfl rfl tf23_2) ?_
      refine s_run (w_none rfl) rfl (d_ldX (g := gd) (off := 7) rfl H rfl rfl rfl ta3) ?_
      refine s_eff (e_bsl (xs := [.tmp 27, .tmp 30, .tmp 33, .tmp 36, .tmp 39, .tmp 42, .tmp 45]) (vals := [.int .i64 _, .int .i64 _, .int .i64 _, .int .i64 _, .int .i64 _, .int .i64 _, .int .i64 _]) (vs := [.int .i64 _, .int .i64 _, .int .i64 _, .int .i64 _, .int .i64 _, .int .i64 _, .int .i64 _]) (w_none rfl) rfl rfl rfl rfl rfl rfl tu66 ts3 ty3 rfl rfl rfl H ?_)
      clear H; intro g2 W H
      refine s_eff (e_call (w_none rfl) rfl rfl Tryz.func28 rfl rfl rfl (intsR7 (b := [] ++ Pk.int (Pk.toU r.kind) ++ Pk.int (Pk.toU r.id)) (x0 := r.deal.role) (x1 := r.deal.paid.whereA) (x2 := r.deal.paid.amount) (x3 := r.deal.paid.untilA) (x4 := r.deal.got.whereA) (x5 := r.deal.got.amount) (x6 := r.deal.got.untilA) _ (H.rowbs (A := A1) rfl) (by simp only [List.length_append, List.length_nil]; omega) (gat_of (H.blk (g := g2))) ho.2.2.1.2.1 ho.2.2.1.2.2.1.1 ho.2.2.1.2.2.1.2.1 ho.2.2.1.2.2.1.2.2 ho.2.2.1.2.2.2.1.1 ho.2.2.1.2.2.2.1.2.1 ho.2.2.1.2.2.2.1.2.2) ?_)
      rintro _ W ⟨A2, c2, rfl, hc2, hd2, hn⟩
      replace H := H.new hn
      clear hn
      refine s_run (w_none rfl) rfl (as_s rfl rfl) ?_
      refine l_nil ?_
      refine k_cut 48 [6] (fun sl W => ∃ A9 : Option Addr, ∃ c9 : Nat, sl = [(6, .slice A9 ([] ++ Pk.int (Pk.toU r.kind) ++ Pk.int (Pk.toU r.id) ++ Pk.int (Pk.toU r.deal.role) ++ Pk.int (Pk.toU r.deal.paid.whereA) ++ Pk.int (Pk.toU r.deal.paid.amount) ++ Pk.int (Pk.toU r.deal.paid.untilA) ++ Pk.int (Pk.toU r.deal.got.whereA) ++ Pk.int (Pk.toU r.deal.got.amount) ++ Pk.int (Pk.toU r.deal.got.untilA) ++ r.deal.hash ++ Pk.int (Pk.toU r.deal.peer)).length c9)] ∧ (([] ++ Pk.int (Pk.toU r.kind) ++ Pk.int (Pk.toU r.id) ++ Pk.int (Pk.toU r.deal.role) ++ Pk.int (Pk.toU r.deal.paid.whereA) ++ Pk.int (Pk.toU r.deal.paid.amount) ++ Pk.int (Pk.toU r.deal.paid.untilA) ++ Pk.int (Pk.toU r.deal.got.whereA) ++ Pk.int (Pk.toU r.deal.got.amount) ++ Pk.int (Pk.toU r.deal.got.untilA) ++ r.deal.hash ++ Pk.int (Pk.toU r.deal.peer)).length ≤ c9) ∧ (c9 ≤ 9223372036854775807) ∧ St nT w W [Fact.row 5 1 (.slice A9 ([] ++ Pk.int (Pk.toU r.kind) ++ Pk.int (Pk.toU r.id) ++ Pk.int (Pk.toU r.deal.role) ++ Pk.int (Pk.toU r.deal.paid.whereA) ++ Pk.int (Pk.toU r.deal.paid.amount) ++ Pk.int (Pk.toU r.deal.paid.untilA) ++ Pk.int (Pk.toU r.deal.got.whereA) ++ Pk.int (Pk.toU r.deal.got.amount) ++ Pk.int (Pk.toU r.deal.got.untilA) ++ r.deal.hash ++ Pk.int (Pk.toU r.deal.peer)).length c9) ([] ++ Pk.int (Pk.toU r.kind) ++ Pk.int (Pk.toU r.id) ++ Pk.int (Pk.toU r.deal.role) ++ Pk.int (Pk.toU r.deal.paid.whereA) ++ Pk.int (Pk.toU r.deal.paid.amount) ++ Pk.int (Pk.toU r.deal.paid.untilA) ++ Pk.int (Pk.toU r.deal.got.whereA) ++ Pk.int (Pk.toU r.deal.got.amount) ++ Pk.int (Pk.toU r.deal.got.untilA) ++ r.deal.hash ++ Pk.int (Pk.toU r.deal.peer)).length (([] ++ Pk.int (Pk.toU r.kind) ++ Pk.int (Pk.toU r.id) ++ Pk.int (Pk.toU r.deal.role) ++ Pk.int (Pk.toU r.deal.paid.whereA) ++ Pk.int (Pk.toU r.deal.paid.amount) ++ Pk.int (Pk.toU r.deal.paid.untilA) ++ Pk.int (Pk.toU r.deal.got.whereA) ++ Pk.int (Pk.toU r.deal.got.amount) ++ Pk.int (Pk.toU r.deal.got.untilA) ++ r.deal.hash ++ Pk.int (Pk.toU r.deal.peer)).map u8v), Fact.blk gm (recC r (txC A r.tx.ins.length c B r.tx.outs.length d r.tx.lock)) 33]) ?_ (fun sl ρv W hJ => ?_)
      · skip
        refine k_drawT (.rd 0 (.rd 1 (.rd 2 (.rd 4 (.rd 5 (.many 3 [3, 6] fun j => (bif Nat.beq j 3 then (.ef 6 (.ef 7 (.rd 8 .nil))) else (.ef 3 (.ef 7 (.rd 8 .nil)))))))))) [Fact.row 5 1 (.slice A2 ([] ++ Pk.int (Pk.toU r.kind) ++ Pk.int (Pk.toU r.id) ++ Pk.int (Pk.toU r.deal.role) ++ Pk.int (Pk.toU r.deal.paid.whereA) ++ Pk.int (Pk.toU r.deal.paid.amount) ++ Pk.int (Pk.toU r.deal.paid.untilA) ++ Pk.int (Pk.toU r.deal.got.whereA) ++ Pk.int (Pk.toU r.deal.got.amount) ++ Pk.int (Pk.toU r.deal.got.untilA)).length c2) ([] ++ Pk.int (Pk.toU r.kind) ++ Pk.int (Pk.toU r.id) ++ Pk.int (Pk.toU r.deal.role) ++ Pk.int (Pk.toU r.deal.paid.whereA) ++ Pk.int (Pk.toU r.deal.paid.amount) ++ Pk.int (Pk.toU r.deal.paid.untilA) ++ Pk.int (Pk.toU r.deal.got.whereA) ++ Pk.int (Pk.toU r.deal.got.amount) ++ Pk.int (Pk.toU r.deal.got.untilA)).length (([] ++ Pk.int (Pk.toU r.kind) ++ Pk.int (Pk.toU r.id) ++ Pk.int (Pk.toU r.deal.role) ++ Pk.int (Pk.toU r.deal.paid.whereA) ++ Pk.int (Pk.toU r.deal.paid.amount) ++ Pk.int (Pk.toU r.deal.paid.untilA) ++ Pk.int (Pk.toU r.deal.got.whereA) ++ Pk.int (Pk.toU r.deal.got.amount) ++ Pk.int (Pk.toU r.deal.got.untilA)).map u8v), Fact.blk gd (dealC r.deal) 27, Fact.blk gm (recC r (txC A r.tx.ins.length c B r.tx.outs.length d r.tx.lock)) 33] (by kernel_rfl) (by kernel_rfl) H (by repeat (first | exact List.Sublist.refl _ | exact List.nil_sublist _ | refine List.Sublist.cons_cons _ ?_ | refine List.Sublist.cons _ ?_)) ?_
        clear H; intro W H
        refine t_run rfl (w_none rfl) rfl (fun W H => mv_s rfl rfl) ?_
        refine t_run rfl (w_none rfl) rfl (fun W H => d_fa rfl rfl tf27_4) ?_
        refine t_run rfl (w_none rfl) rfl (fun W H => d_ldXM (g := gd) (off := 8) rfl H (sub_d_hash ho.2.2.1.2.2.2.2.1) (by rw [List.length_map]; exact ho.2.2.1.2.2.2.2.1) rfl rfl rfl ta25 ts25) ?_
        refine t_run rfl (w_none rfl) rfl (fun W H => d_fa rfl rfl tf27_5) ?_
        refine t_run rfl (w_none rfl) rfl (fun W H => d_ldX (g := gd) (off := 40) rfl H (sub_d_peer ho.2.2.1.2.2.2.2.1) rfl rfl ta3) ?_
        refine t_each ?_ ?_
        · skip
          refine t_eff rfl (e_call (w_none rfl) rfl rfl Tryz.func29 rfl rfl rfl (refHash (b := [] ++ Pk.int (Pk.toU r.kind) ++ Pk.int (Pk.toU r.id) ++ Pk.int (Pk.toU r.deal.role) ++ Pk.int (Pk.toU r.deal.paid.whereA) ++ Pk.int (Pk.toU r.deal.paid.amount) ++ Pk.int (Pk.toU r.deal.paid.untilA) ++ Pk.int (Pk.toU r.deal.got.whereA) ++ Pk.int (Pk.toU r.deal.got.amount) ++ Pk.int (Pk.toU r.deal.got.untilA)) (h := r.deal.hash) _ (H.rowbs (A := A2) rfl) (by simp only [List.length_append, List.length_nil]; omega) hh) ?_)
          rintro _ W ⟨A4, c4, rfl, hc4, hd4, hn⟩
          replace H := H.new hn
          clear hn
          refine ⟨_, fun _ h => h, H.sub (by repeat (first | exact List.Sublist.refl _ | exact List.nil_sublist _ | refine List.Sublist.cons_cons _ ?_ | refine List.Sublist.cons _ ?_)), ?_⟩
          refine t_eff rfl (e_bsl (xs := [.tmp 53]) (vals := [.int .i64 _]) (vs := [.int .i64 _]) (w_none rfl) rfl rfl rfl rfl rfl rfl tu66 ts3 ty3 rfl rfl rfl H ?_)
          clear H; intro g5 W H
          refine ⟨_, fun _ h => h, H.sub (by repeat (first | exact List.Sublist.refl _ | exact List.nil_sublist _ | refine List.Sublist.cons_cons _ ?_ | refine List.Sublist.cons _ ?_)), ?_⟩
          refine t_eff rfl (e_call (w_none rfl) rfl rfl Tryz.func28 rfl rfl rfl (intsR1 (b := [] ++ Pk.int (Pk.toU r.kind) ++ Pk.int (Pk.toU r.id) ++ Pk.int (Pk.toU r.deal.role) ++ Pk.int (Pk.toU r.deal.paid.whereA) ++ Pk.int (Pk.toU r.deal.paid.amount) ++ Pk.int (Pk.toU r.deal.paid.untilA) ++ Pk.int (Pk.toU r.deal.got.whereA) ++ Pk.int (Pk.toU r.deal.got.amount) ++ Pk.int (Pk.toU r.deal.got.untilA) ++ r.deal.hash) (x0 := r.deal.peer) _ (H.rowbs (A := A4) rfl) (by simp only [List.length_append, List.length_nil]; omega) (gat_of (H.blk (g := g5))) ho.2.2.1.2.2.2.2.2) ?_)
          rintro _ W ⟨A5, c5, rfl, hc5, hd5, hn⟩
          replace H := H.new hn
          clear hn
          refine ⟨_, fun _ h => h, H.sub (by repeat (first | exact List.Sublist.refl _ | exact List.nil_sublist _ | refine List.Sublist.cons_cons _ ?_ | refine List.Sublist.cons _ ?_)), ?_⟩
          refine t_run rfl (w_none rfl) rfl (fun W H => as_s rfl rfl) ?_
          refine t_nil ?_
          refine k_nil ?_
          refine n_then ?_
          refine ⟨_, _, rfl, ?_, ?_, ⟨A5, c5, rfl, hc5, hd5, H.sub (L' := [_, _]) (by repeat (first | exact List.Sublist.refl _ | exact List.nil_sublist _ | refine List.Sublist.cons_cons _ ?_ | refine List.Sublist.cons _ ?_))⟩⟩
          · repeat (first | (with_reducible exact Eqo.refl) | ((with_reducible refine Eqo.updl _ (Eqo.ovr2 ?_ ?_) ?_); rotate_left; exact rfl; exact rfl) | ((with_reducible refine Eqo.upd ?_ ?_); rotate_left; exact rfl))
          · refine ⟨?_, trivial⟩
            · exact rfl
        refine t_each ?_ ?_
        · skip
          refine t_eff rfl (e_bsl (xs := [.tmp 53]) (vals := [.int .i64 _]) (vs := [.int .i64 _]) (w_none rfl) rfl rfl rfl rfl rfl rfl tu66 ts3 ty3 rfl rfl rfl H ?_)
          clear H; intro g5 W H
          refine ⟨_, fun _ h => h, H.sub (by repeat (first | exact List.Sublist.refl _ | exact List.nil_sublist _ | refine List.Sublist.cons_cons _ ?_ | refine List.Sublist.cons _ ?_)), ?_⟩
          refine t_eff rfl (e_call (w_none rfl) rfl rfl Tryz.func29 rfl rfl rfl (refHash (b := [] ++ Pk.int (Pk.toU r.kind) ++ Pk.int (Pk.toU r.id) ++ Pk.int (Pk.toU r.deal.role) ++ Pk.int (Pk.toU r.deal.paid.whereA) ++ Pk.int (Pk.toU r.deal.paid.amount) ++ Pk.int (Pk.toU r.deal.paid.untilA) ++ Pk.int (Pk.toU r.deal.got.whereA) ++ Pk.int (Pk.toU r.deal.got.amount) ++ Pk.int (Pk.toU r.deal.got.untilA)) (h := r.deal.hash) _ (H.rowbs (A := A2) rfl) (by simp only [List.length_append, List.length_nil]; omega) hh) ?_)
          rintro _ W ⟨A4, c4, rfl, hc4, hd4, hn⟩
          replace H := H.new hn
          clear hn
          refine ⟨_, fun _ h => h, H.sub (by repeat (first | exact List.Sublist.refl _ | exact List.nil_sublist _ | refine List.Sublist.cons_cons _ ?_ | refine List.Sublist.cons _ ?_)), ?_⟩
          refine t_eff rfl (e_call (w_none rfl) rfl rfl Tryz.func28 rfl rfl rfl (intsR1 (b := [] ++ Pk.int (Pk.toU r.kind) ++ Pk.int (Pk.toU r.id) ++ Pk.int (Pk.toU r.deal.role) ++ Pk.int (Pk.toU r.deal.paid.whereA) ++ Pk.int (Pk.toU r.deal.paid.amount) ++ Pk.int (Pk.toU r.deal.paid.untilA) ++ Pk.int (Pk.toU r.deal.got.whereA) ++ Pk.int (Pk.toU r.deal.got.amount) ++ Pk.int (Pk.toU r.deal.got.untilA) ++ r.deal.hash) (x0 := r.deal.peer) _ (H.rowbs (A := A4) rfl) (by simp only [List.length_append, List.length_nil]; omega) (gat_of (H.blk (g := g5))) ho.2.2.1.2.2.2.2.2) ?_)
          rintro _ W ⟨A5, c5, rfl, hc5, hd5, hn⟩
          replace H := H.new hn
          clear hn
          refine ⟨_, fun _ h => h, H.sub (by repeat (first | exact List.Sublist.refl _ | exact List.nil_sublist _ | refine List.Sublist.cons_cons _ ?_ | refine List.Sublist.cons _ ?_)), ?_⟩
          refine t_run rfl (w_none rfl) rfl (fun W H => as_s rfl rfl) ?_
          refine t_nil ?_
          refine k_nil ?_
          refine n_then ?_
          refine ⟨_, _, rfl, ?_, ?_, ⟨A5, c5, rfl, hc5, hd5, H.sub (L' := [_, _]) (by repeat (first | exact List.Sublist.refl _ | exact List.nil_sublist _ | refine List.Sublist.cons_cons _ ?_ | refine List.Sublist.cons _ ?_))⟩⟩
          · repeat (first | (with_reducible exact Eqo.refl) | ((with_reducible refine Eqo.updl _ (Eqo.ovr2 ?_ ?_) ?_); rotate_left; exact rfl; exact rfl) | ((with_reducible refine Eqo.upd ?_ ?_); rotate_left; exact rfl))
          · refine ⟨?_, trivial⟩
            · exact rfl
        exact t_none
      clear H; obtain ⟨A9, c9, rfl, hc9, hd9, H⟩ := hJ
      refine k_seq ?_
      refine k_seq ?_
      refine k_region ?_
      refine s_run (w_none rfl) rfl (d_fa rfl rfl tf33_0) ?_
      refine s_run (w_none rfl) rfl (d_ldX (g := gm) (off := 0) rfl H rfl rfl rfl ta3) ?_
      refine s_run (w_none rfl) rfl (d_eq rfl rfl rfl) ?_
      refine l_nil ?_
      refine k_condF rfl (by first | rfl | (simp; omega) | (simp; done) | simp_all) ?_
      refine k_skip ?_
      refine k_seq ?_
      refine k_seq ?_
      refine k_region ?_
      refine s_run (w_none rfl) rfl (d_fa rfl rfl tf33_0) ?_
      refine s_run (w_none rfl) rfl (d_ldX (g := gm) (off := 0) rfl H rfl rfl rfl ta3) ?_
      refine s_run (w_none rfl) rfl (d_eq rfl rfl rfl) ?_
      refine l_nil ?_
      refine k_condF rfl (by first | rfl | (simp; omega) | (simp; done) | simp_all) ?_
      refine k_skip ?_
      refine k_seq ?_
      refine k_seq ?_
      refine k_region ?_
      refine s_run (w_none rfl) rfl (d_fa rfl rfl tf33_0) ?_
      refine s_run (w_none rfl) rfl (d_ldX (g := gm) (off := 0) rfl H rfl rfl rfl ta3) ?_
      refine s_run (w_none rfl) rfl (d_eq rfl rfl rfl) ?_
      refine l_nil ?_
      refine k_condF rfl (by first | rfl | (simp; omega) | (simp; done) | simp_all) ?_
      refine k_skip ?_
      refine k_seq ?_
      refine k_seq ?_
      have e1 := Rc.put_1 h1
      rw [e1] at hc9 H ⊢
      refine k_region ?_
      refine s_run (w_none rfl) rfl (mv_s rfl rfl) ?_
      refine s_run (w_none rfl) rfl (d_len rfl rfl tu37) ?_
      refine s_run (w_none rfl) rfl (d_gt rfl rfl rfl) ?_
      refine l_nil ?_
      refine k_cond rfl (fun hc95 => ?_) (fun hc95 => ?_)
      · have hlong : 400 < (Rc.putB r).length := by simp at hc95; omega
        refine k_seq ?_
        refine k_region ?_
        refine s_run (w_none rfl) rfl (as_s rfl rfl) ?_
        refine s_run (w_none rfl) rfl (as_i rfl rfl) ?_
        refine l_nil ?_
        refine k_ret ?_
        repeat (first | refine r_then ?_ | refine r_blk ?_)
        rw [Rc.put_long he hlong]
        replace H := H.nilrow 5 1
        exact q_ret2 (v := .slice _ _ _) (x := .int _ _) rfl rfl rfl ⟨_, rfl, _, rfl, H.newB (l := []) rfl rfl (Nat.le_refl _) (by omega)⟩
      · have hlong : ¬ 400 < (Rc.putB r).length := by simp at hc95; omega
        refine k_skip ?_
        refine k_seq ?_
        refine k_region ?_
        refine s_run (w_none rfl) rfl (mv_s rfl rfl) ?_
        refine s_run (w_none rfl) rfl (as_s rfl rfl) ?_
        refine s_run (w_none rfl) rfl (as_i rfl rfl) ?_
        refine l_nil ?_
        refine k_ret ?_
        repeat (first | refine r_then ?_ | refine r_blk ?_)
        rw [Rc.put_ok he hlong]
        exact q_ret2 (v := .slice _ _ _) (x := .int _ _) rfl rfl rfl ⟨_, rfl, _, rfl, H.newB (l := Rc.putB r) rfl rfl hc9 hd9⟩
    · skip
      refine k_region ?_
      refine s_run (w_none rfl) rfl (d_fa rfl rfl tf33_0) ?_
      refine s_run (w_none rfl) rfl (d_ldX (g := gm) (off := 0) rfl H rfl rfl rfl ta3) ?_
      refine s_run (w_none rfl) rfl (d_eq rfl rfl rfl) ?_
      refine l_nil ?_
      refine k_condF rfl (by first | rfl | (simp; omega) | (simp; done) | simp_all) ?_
      refine k_skip ?_
      refine k_seq ?_
      refine k_seq ?_
      refine k_region ?_
      refine s_run (w_none rfl) rfl (d_fa rfl rfl tf33_0) ?_
      refine s_run (w_none rfl) rfl (d_ldX (g := gm) (off := 0) rfl H rfl rfl rfl ta3) ?_
      refine s_run (w_none rfl) rfl (d_eq rfl rfl rfl) ?_
      refine l_nil ?_
      refine k_condT rfl (by first | rfl | (simp; omega) | (simp; done) | simp_all) ?_
      refine k_region ?_
      refine s_run (w_none rfl) rfl (mv_s rfl rfl) ?_
      refine s_run (w_none rfl) rfl (d_fa rfl rfl tf33_3) ?_
      refine s_run (w_none rfl) rfl (d_ldXM (g := gm) (off := 43) rfl H (sub_r_secret ho) (by rw [List.length_map]; exact ho.2.2.2.1) rfl rfl rfl ta25 ts25) ?_
      refine s_eff (e_call (w_none rfl) rfl rfl Tryz.func29 rfl rfl rfl (refHash (b := [] ++ Pk.int (Pk.toU r.kind) ++ Pk.int (Pk.toU r.id)) (h := r.secret) _ (H.rowbs (A := A1) rfl) (by simp only [List.length_append, List.length_nil]; omega) hs9) ?_)
      rintro _ W ⟨A9, c9, rfl, hc9, hd9, hn⟩
      replace H := H.new hn
      clear hn
      refine s_run (w_none rfl) rfl (as_s rfl rfl) ?_
      refine l_nil ?_
      refine k_seq ?_
      refine k_seq ?_
      refine k_region ?_
      refine s_run (w_none rfl) rfl (d_fa rfl rfl tf33_0) ?_
      refine s_run (w_none rfl) rfl (d_ldX (g := gm) (off := 0) rfl H rfl rfl rfl ta3) ?_
      refine s_run (w_none rfl) rfl (d_eq rfl rfl rfl) ?_
      refine l_nil ?_
      refine k_condF rfl (by first | rfl | (simp; omega) | (simp; done) | simp_all) ?_
      refine k_skip ?_
      refine k_seq ?_
      refine k_seq ?_
      refine k_region ?_
      refine s_run (w_none rfl) rfl (d_fa rfl rfl tf33_0) ?_
      refine s_run (w_none rfl) rfl (d_ldX (g := gm) (off := 0) rfl H rfl rfl rfl ta3) ?_
      refine s_run (w_none rfl) rfl (d_eq rfl rfl rfl) ?_
      refine l_nil ?_
      refine k_condF rfl (by first | rfl | (simp; omega) | (simp; done) | simp_all) ?_
      refine k_skip ?_
      refine k_seq ?_
      refine k_seq ?_
      have e1 := Rc.put_2 h1
      rw [e1] at hc9 H ⊢
      refine k_region ?_
      refine s_run (w_none rfl) rfl (mv_s rfl rfl) ?_
      refine s_run (w_none rfl) rfl (d_len rfl rfl tu37) ?_
      refine s_run (w_none rfl) rfl (d_gt rfl rfl rfl) ?_
      refine l_nil ?_
      refine k_cond rfl (fun hc95 => ?_) (fun hc95 => ?_)
      · have hlong : 400 < (Rc.putB r).length := by simp at hc95; omega
        refine k_seq ?_
        refine k_region ?_
        refine s_run (w_none rfl) rfl (as_s rfl rfl) ?_
        refine s_run (w_none rfl) rfl (as_i rfl rfl) ?_
        refine l_nil ?_
        refine k_ret ?_
        repeat (first | refine r_then ?_ | refine r_blk ?_)
        rw [Rc.put_long he hlong]
        replace H := H.nilrow 5 1
        exact q_ret2 (v := .slice _ _ _) (x := .int _ _) rfl rfl rfl ⟨_, rfl, _, rfl, H.newB (l := []) rfl rfl (Nat.le_refl _) (by omega)⟩
      · have hlong : ¬ 400 < (Rc.putB r).length := by simp at hc95; omega
        refine k_skip ?_
        refine k_seq ?_
        refine k_region ?_
        refine s_run (w_none rfl) rfl (mv_s rfl rfl) ?_
        refine s_run (w_none rfl) rfl (as_s rfl rfl) ?_
        refine s_run (w_none rfl) rfl (as_i rfl rfl) ?_
        refine l_nil ?_
        refine k_ret ?_
        repeat (first | refine r_then ?_ | refine r_blk ?_)
        rw [Rc.put_ok he hlong]
        exact q_ret2 (v := .slice _ _ _) (x := .int _ _) rfl rfl rfl ⟨_, rfl, _, rfl, H.newB (l := Rc.putB r) rfl rfl hc9 hd9⟩
    · skip
      refine k_region ?_
      refine s_run (w_none rfl) rfl (d_fa rfl rfl tf33_0) ?_
      refine s_run (w_none rfl) rfl (d_ldX (g := gm) (off := 0) rfl H rfl rfl rfl ta3) ?_
      refine s_run (w_none rfl) rfl (d_eq rfl rfl rfl) ?_
      refine l_nil ?_
      refine k_condF rfl (by first | rfl | (simp; omega) | (simp; done) | simp_all) ?_
      refine k_skip ?_
      refine k_seq ?_
      refine k_seq ?_
      refine k_region ?_
      refine s_run (w_none rfl) rfl (d_fa rfl rfl tf33_0) ?_
      refine s_run (w_none rfl) rfl (d_ldX (g := gm) (off := 0) rfl H rfl rfl rfl ta3) ?_
      refine s_run (w_none rfl) rfl (d_eq rfl rfl rfl) ?_
      refine l_nil ?_
      refine k_condF rfl (by first | rfl | (simp; omega) | (simp; done) | simp_all) ?_
      refine k_skip ?_
      refine k_seq ?_
      refine k_seq ?_
      refine k_region ?_
      refine s_run (w_none rfl) rfl (d_fa rfl rfl tf33_0) ?_
      refine s_run (w_none rfl) rfl (d_ldX (g := gm) (off := 0) rfl H rfl rfl rfl ta3) ?_
      refine s_run (w_none rfl) rfl (d_eq rfl rfl rfl) ?_
      refine l_nil ?_
      refine k_condT rfl (by first | rfl | (simp; omega) | (simp; done) | simp_all) ?_
      refine k_seq ?_
      refine k_region ?_
      refine s_run (w_none rfl) rfl (mv_s rfl rfl) ?_
      refine s_run (w_none rfl) rfl (d_fa rfl rfl tf33_4) ?_
      refine s_run (w_none rfl) rfl (d_ldX (g := gm) (off := 75) rfl H (sub_r_move ho) rfl rfl ta3) ?_
      refine s_eff (e_bsl (xs := [.tmp 68]) (vals := [.int .i64 _]) (vs := [.int .i64 _]) (w_none rfl) rfl rfl rfl rfl rfl rfl tu66 ts3 ty3 rfl rfl rfl H ?_)
      clear H; intro g6 W H
      refine s_eff (e_call (w_none rfl) rfl rfl Tryz.func28 rfl rfl rfl (intsR1 (b := [] ++ Pk.int (Pk.toU r.kind) ++ Pk.int (Pk.toU r.id)) (x0 := r.move) _ (H.rowbs (A := A1) rfl) (by simp only [List.length_append, List.length_nil]; omega) (gat_of (H.blk (g := g6))) ho.2.2.2.2.1) ?_)
      rintro _ W ⟨A8, c8, rfl, hc8, hd8, hn⟩
      replace H := H.new hn
      clear hn
      refine s_run (w_none rfl) rfl (as_s rfl rfl) ?_
      refine l_nil ?_
      refine k_seq ?_
      refine k_region ?_
      refine s_run (w_none rfl) rfl (d_fa rfl rfl tf33_6) ?_
      refine s_run (w_none rfl) rfl (d_ldXM (g := gm) (off := 77) rfl H (sub_r_tx ho rfl) rfl rfl rfl rfl ta31 ts31) ?_
      refine s_eff (e_call (w_none rfl) rfl rfl Tryz.func30 rfl rfl rfl (noneR _ (keeps_Tx _ _ _ _ _ ht (fun g hg _ => H.fr.block g hg (fun h => h))) hs) ?_)
      rintro _ W ⟨rfl, hb⟩
      replace H := H.below hb
      clear hb
      refine l_nil ?_
      refine k_cond rfl (fun hc73 => ?_) (fun hc73 => ?_)
      · have hn : Rc.none r.tx = true := by simpa using hc73
        refine k_region ?_
        refine s_run (w_none rfl) rfl (mv_s rfl rfl) ?_
        refine s_eff (e_call (w_none rfl) rfl rfl Tryz.func31 rfl rfl rfl (refBlob (b := [] ++ Pk.int (Pk.toU r.kind) ++ Pk.int (Pk.toU r.id) ++ Pk.int (Pk.toU r.move)) (p := []) _ (H.rowbs (A := A8) rfl) (by simp only [List.length_append, List.length_nil]; omega) (Bs.nil (S := nT)) (by simp)) ?_)
        rintro _ W ⟨A9, c9, rfl, hc9, hd9, hn⟩
        replace H := H.new hn
        clear hn
        refine s_run (w_none rfl) rfl (as_s rfl rfl) ?_
        refine l_nil ?_
        refine k_seq ?_
        refine k_seq ?_
        refine k_region ?_
        refine s_run (w_none rfl) rfl (d_fa rfl rfl tf33_0) ?_
        refine s_run (w_none rfl) rfl (d_ldX (g := gm) (off := 0) rfl H rfl rfl rfl ta3) ?_
        refine s_run (w_none rfl) rfl (d_eq rfl rfl rfl) ?_
        refine l_nil ?_
        refine k_condF rfl (by first | rfl | (simp; omega) | (simp; done) | simp_all) ?_
        refine k_skip ?_
        refine k_seq ?_
        refine k_seq ?_
        have e1 := Rc.put_3 h1 (Rc.txB_no hn).symm
        rw [e1] at hc9 H ⊢
        refine k_region ?_
        refine s_run (w_none rfl) rfl (mv_s rfl rfl) ?_
        refine s_run (w_none rfl) rfl (d_len rfl rfl tu37) ?_
        refine s_run (w_none rfl) rfl (d_gt rfl rfl rfl) ?_
        refine l_nil ?_
        refine k_cond rfl (fun hc95 => ?_) (fun hc95 => ?_)
        · have hlong : 400 < (Rc.putB r).length := by simp at hc95; omega
          refine k_seq ?_
          refine k_region ?_
          refine s_run (w_none rfl) rfl (as_s rfl rfl) ?_
          refine s_run (w_none rfl) rfl (as_i rfl rfl) ?_
          refine l_nil ?_
          refine k_ret ?_
          repeat (first | refine r_then ?_ | refine r_blk ?_)
          rw [Rc.put_long he hlong]
          replace H := H.nilrow 5 1
          exact q_ret2 (v := .slice _ _ _) (x := .int _ _) rfl rfl rfl ⟨_, rfl, _, rfl, H.newB (l := []) rfl rfl (Nat.le_refl _) (by omega)⟩
        · have hlong : ¬ 400 < (Rc.putB r).length := by simp at hc95; omega
          refine k_skip ?_
          refine k_seq ?_
          refine k_region ?_
          refine s_run (w_none rfl) rfl (mv_s rfl rfl) ?_
          refine s_run (w_none rfl) rfl (as_s rfl rfl) ?_
          refine s_run (w_none rfl) rfl (as_i rfl rfl) ?_
          refine l_nil ?_
          refine k_ret ?_
          repeat (first | refine r_then ?_ | refine r_blk ?_)
          rw [Rc.put_ok he hlong]
          exact q_ret2 (v := .slice _ _ _) (x := .int _ _) rfl rfl rfl ⟨_, rfl, _, rfl, H.newB (l := Rc.putB r) rfl rfl hc9 hd9⟩
      · have hn : Rc.none r.tx = false := by simpa using hc73
        have hlp : (Tx.put r.tx).length ≤ 11963 := Tx.len_put ho.2.2.2.2.2.2
        refine k_seq ?_
        refine k_region ?_
        refine s_run (w_none rfl) rfl (d_fa rfl rfl tf33_6) ?_
        refine s_run (w_none rfl) rfl (d_ldXM (g := gm) (off := 77) rfl H (sub_r_tx ho rfl) rfl rfl rfl rfl ta31 ts31) ?_
        refine s_eff (e_call (w_none rfl) rfl rfl Tryz.func32 rfl rfl rfl (putTR _ (keeps_Tx _ _ _ _ _ ht (fun g hg _ => H.fr.block g hg (fun h => h)))) ?_)
        rintro _ W ⟨_, rfl, A7, c7, rfl, hc7, hd7, hn⟩
        replace H := H.new hn
        clear hn
        refine s_run (w_none rfl) rfl (mv_t rfl rfl) ?_
        refine s_run (w_none rfl) rfl (d_ext rfl rfl rfl) ?_
        refine s_run (w_none rfl) rfl (d_ext rfl rfl rfl) ?_
        refine s_run (w_none rfl) rfl (as_s rfl rfl) ?_
        refine s_run (w_none rfl) rfl (as_i rfl rfl) ?_
        refine l_nil ?_
        refine k_region ?_
        refine s_run (w_none rfl) rfl (mv_s rfl rfl) ?_
        refine s_run (w_none rfl) rfl (mv_s rfl rfl) ?_
        refine s_eff (e_call (w_none rfl) rfl rfl Tryz.func31 rfl rfl rfl (refBlob (b := [] ++ Pk.int (Pk.toU r.kind) ++ Pk.int (Pk.toU r.id) ++ Pk.int (Pk.toU r.move)) (p := Tx.put r.tx) _ (H.rowbs (A := A8) rfl) (by simp only [List.length_append, List.length_nil]; omega) (H.rowbs (A := A7) rfl) (by omega)) ?_)
        rintro _ W ⟨A9, c9, rfl, hc9, hd9, hn⟩
        replace H := H.new hn
        clear hn
        refine s_run (w_none rfl) rfl (as_s rfl rfl) ?_
        refine l_nil ?_
        refine k_seq ?_
        refine k_seq ?_
        refine k_region ?_
        refine s_run (w_none rfl) rfl (d_fa rfl rfl tf33_0) ?_
        refine s_run (w_none rfl) rfl (d_ldX (g := gm) (off := 0) rfl H rfl rfl rfl ta3) ?_
        refine s_run (w_none rfl) rfl (d_eq rfl rfl rfl) ?_
        refine l_nil ?_
        refine k_condF rfl (by first | rfl | (simp; omega) | (simp; done) | simp_all) ?_
        refine k_skip ?_
        refine k_seq ?_
        refine k_seq ?_
        have e1 := Rc.put_3 h1 (Rc.txB_yes he h1 hn).symm
        rw [e1] at hc9 H ⊢
        refine k_region ?_
        refine s_run (w_none rfl) rfl (mv_s rfl rfl) ?_
        refine s_run (w_none rfl) rfl (d_len rfl rfl tu37) ?_
        refine s_run (w_none rfl) rfl (d_gt rfl rfl rfl) ?_
        refine l_nil ?_
        refine k_cond rfl (fun hc95 => ?_) (fun hc95 => ?_)
        · have hlong : 400 < (Rc.putB r).length := by simp at hc95; omega
          refine k_seq ?_
          refine k_region ?_
          refine s_run (w_none rfl) rfl (as_s rfl rfl) ?_
          refine s_run (w_none rfl) rfl (as_i rfl rfl) ?_
          refine l_nil ?_
          refine k_ret ?_
          repeat (first | refine r_then ?_ | refine r_blk ?_)
          rw [Rc.put_long he hlong]
          replace H := H.nilrow 5 1
          exact q_ret2 (v := .slice _ _ _) (x := .int _ _) rfl rfl rfl ⟨_, rfl, _, rfl, H.newB (l := []) rfl rfl (Nat.le_refl _) (by omega)⟩
        · have hlong : ¬ 400 < (Rc.putB r).length := by simp at hc95; omega
          refine k_skip ?_
          refine k_seq ?_
          refine k_region ?_
          refine s_run (w_none rfl) rfl (mv_s rfl rfl) ?_
          refine s_run (w_none rfl) rfl (as_s rfl rfl) ?_
          refine s_run (w_none rfl) rfl (as_i rfl rfl) ?_
          refine l_nil ?_
          refine k_ret ?_
          repeat (first | refine r_then ?_ | refine r_blk ?_)
          rw [Rc.put_ok he hlong]
          exact q_ret2 (v := .slice _ _ _) (x := .int _ _) rfl rfl rfl ⟨_, rfl, _, rfl, H.newB (l := Rc.putB r) rfl rfl hc9 hd9⟩
    · skip
      refine k_region ?_
      refine s_run (w_none rfl) rfl (d_fa rfl rfl tf33_0) ?_
      refine s_run (w_none rfl) rfl (d_ldX (g := gm) (off := 0) rfl H rfl rfl rfl ta3) ?_
      refine s_run (w_none rfl) rfl (d_eq rfl rfl rfl) ?_
      refine l_nil ?_
      refine k_condF rfl (by first | rfl | (simp; omega) | (simp; done) | simp_all) ?_
      refine k_skip ?_
      refine k_seq ?_
      refine k_seq ?_
      refine k_region ?_
      refine s_run (w_none rfl) rfl (d_fa rfl rfl tf33_0) ?_
      refine s_run (w_none rfl) rfl (d_ldX (g := gm) (off := 0) rfl H rfl rfl rfl ta3) ?_
      refine s_run (w_none rfl) rfl (d_eq rfl rfl rfl) ?_
      refine l_nil ?_
      refine k_condF rfl (by first | rfl | (simp; omega) | (simp; done) | simp_all) ?_
      refine k_skip ?_
      refine k_seq ?_
      refine k_seq ?_
      refine k_region ?_
      refine s_run (w_none rfl) rfl (d_fa rfl rfl tf33_0) ?_
      refine s_run (w_none rfl) rfl (d_ldX (g := gm) (off := 0) rfl H rfl rfl rfl ta3) ?_
      refine s_run (w_none rfl) rfl (d_eq rfl rfl rfl) ?_
      refine l_nil ?_
      refine k_condF rfl (by first | rfl | (simp; omega) | (simp; done) | simp_all) ?_
      refine k_skip ?_
      refine k_seq ?_
      refine k_seq ?_
      refine k_region ?_
      refine s_run (w_none rfl) rfl (d_fa rfl rfl tf33_0) ?_
      refine s_run (w_none rfl) rfl (d_ldX (g := gm) (off := 0) rfl H rfl rfl rfl ta3) ?_
      refine s_run (w_none rfl) rfl (d_eq rfl rfl rfl) ?_
      refine l_nil ?_
      refine k_condT rfl (by first | rfl | (simp; omega) | (simp; done) | simp_all) ?_
      refine k_region ?_
      refine s_run (w_none rfl) rfl (mv_s rfl rfl) ?_
      refine s_run (w_none rfl) rfl (d_fa rfl rfl tf33_5) ?_
      refine s_run (w_none rfl) rfl (d_ldX (g := gm) (off := 76) rfl H (sub_r_state ho) rfl rfl ta3) ?_
      refine s_eff (e_bsl (xs := [.tmp 90]) (vals := [.int .i64 _]) (vs := [.int .i64 _]) (w_none rfl) rfl rfl rfl rfl rfl rfl tu66 ts3 ty3 rfl rfl rfl H ?_)
      clear H; intro g7 W H
      refine s_eff (e_call (w_none rfl) rfl rfl Tryz.func28 rfl rfl rfl (intsR1 (b := [] ++ Pk.int (Pk.toU r.kind) ++ Pk.int (Pk.toU r.id)) (x0 := r.state) _ (H.rowbs (A := A1) rfl) (by simp only [List.length_append, List.length_nil]; omega) (gat_of (H.blk (g := g7))) ho.2.2.2.2.2.1) ?_)
      rintro _ W ⟨A9, c9, rfl, hc9, hd9, hn⟩
      replace H := H.new hn
      clear hn
      refine s_run (w_none rfl) rfl (as_s rfl rfl) ?_
      refine l_nil ?_
      refine k_seq ?_
      refine k_seq ?_
      have e1 := Rc.put_4 h1
      rw [e1] at hc9 H ⊢
      refine k_region ?_
      refine s_run (w_none rfl) rfl (mv_s rfl rfl) ?_
      refine s_run (w_none rfl) rfl (d_len rfl rfl tu37) ?_
      refine s_run (w_none rfl) rfl (d_gt rfl rfl rfl) ?_
      refine l_nil ?_
      refine k_cond rfl (fun hc95 => ?_) (fun hc95 => ?_)
      · have hlong : 400 < (Rc.putB r).length := by simp at hc95; omega
        refine k_seq ?_
        refine k_region ?_
        refine s_run (w_none rfl) rfl (as_s rfl rfl) ?_
        refine s_run (w_none rfl) rfl (as_i rfl rfl) ?_
        refine l_nil ?_
        refine k_ret ?_
        repeat (first | refine r_then ?_ | refine r_blk ?_)
        rw [Rc.put_long he hlong]
        replace H := H.nilrow 5 1
        exact q_ret2 (v := .slice _ _ _) (x := .int _ _) rfl rfl rfl ⟨_, rfl, _, rfl, H.newB (l := []) rfl rfl (Nat.le_refl _) (by omega)⟩
      · have hlong : ¬ 400 < (Rc.putB r).length := by simp at hc95; omega
        refine k_skip ?_
        refine k_seq ?_
        refine k_region ?_
        refine s_run (w_none rfl) rfl (mv_s rfl rfl) ?_
        refine s_run (w_none rfl) rfl (as_s rfl rfl) ?_
        refine s_run (w_none rfl) rfl (as_i rfl rfl) ?_
        refine l_nil ?_
        refine k_ret ?_
        repeat (first | refine r_then ?_ | refine r_blk ?_)
        rw [Rc.put_ok he hlong]
        exact q_ret2 (v := .slice _ _ _) (x := .int _ _) rfl rfl rfl ⟨_, rfl, _, rfl, H.newB (l := Rc.putB r) rfl rfl hc9 hd9⟩

set_option maxHeartbeats 4000000 in
theorem copyRec {S : Nat → Prop} {ct : List Value} {r : DRecord} (w : World) (ho : Rc.Ok r) (ht : RTx w S ct r.tx) (hf : Tx.Fits r.tx) : Calls Tryz.prog 7 [.agg (recC r ct).toArray].toArray w (Ret (NewRec w r)) := by
  obtain ⟨A, c, B, d, rfl, hI, hO, hk⟩ := tx_of ht
  refine k_enter (l := [_]) Tryz.func7 rfl rfl ?_
  have H := St.start nT w
  refine k_seq ?_
  refine k_region ?_
  refine s_eff (e_box (vs := (recC r (txC A r.tx.ins.length c B r.tx.outs.length d r.tx.lock))) (w_none rfl) rfl rfl rfl rfl H ?_)
  clear H; intro gm W H
  refine s_eff (e_alloc (w_none rfl) rfl rfl (recC Rc.zero zt) tz33 H ?_)
  clear H; intro go W H
  refine l_nil ?_
  refine k_seq ?_
  refine k_region ?_
  refine s_run (w_none rfl) rfl (d_fa rfl rfl tf33_6) ?_
  refine s_run (w_none rfl) rfl (d_ldXM (g := gm) (off := 77) rfl H (sub_r_tx ho rfl) rfl rfl rfl rfl ta31 ts31) ?_
  refine s_eff (e_call (w_none rfl) rfl rfl Tryz.func22 rfl rfl rfl (copyTx _ (keeps_Tx _ _ _ _ _ ht (fun g hg _ => H.fr.block g hg (fun h => h))) hf) ?_)
  rintro _ W hs_
  obtain ⟨S5, A5, c5, B5, d5, rfl, H1_⟩ := NewTx.rep hs_ H hk
  clear H hs_
  have H := H1_
  clear H1_
  refine s_run (w_none rfl) rfl (d_fa rfl rfl tf33_6) ?_
  refine s_eff (e_stoK (recC r (txC A5 r.tx.ins.length c5 B5 r.tx.outs.length d5 r.tx.lock)) (w_none rfl) rfl rfl rfl rfl rfl ts31 rfl rfl H (rec_le ho.2.2.1.2.2.2.2.1 ho.2.2.2.1 rfl (by decide)) (spl_r_tx (ct := (txC A r.tx.ins.length c B r.tx.outs.length d r.tx.lock)) (t := r.tx) ho.2.2.1.2.2.2.2.1 ho.2.2.2.1 rfl) ?_)
  clear H; intro W H
  refine l_nil ?_
  refine k_seq ?_
  refine k_region ?_
  refine s_run (w_none rfl) rfl (d_ldXM (g := gm) (off := 0) rfl H (sub_all (len_rec' ho rfl)) (len_rec' ho rfl) rfl rfl rfl ta33 ts33) ?_
  refine s_eff (e_stoK (recC r (txC A5 r.tx.ins.length c5 B5 r.tx.outs.length d5 r.tx.lock)) (w_none rfl) rfl rfl rfl rfl rfl ts33 (len_rec' ho rfl) (rec_one rfl) H (by rw [len_rec rfl rfl rfl]; decide) (spl_all ((len_rec' ho rfl).trans (len_rec rfl rfl rfl).symm)) ?_)
  clear H; intro W H
  refine l_nil ?_
  refine k_ret ?_
  repeat (first | refine r_then ?_ | refine r_blk ?_)
  exact q_retc rfl (c := recC r (txC A5 r.tx.ins.length c5 B5 r.tx.outs.length d5 r.tx.lock)) (g := go) H rfl ta33 (by rw [len_rec' ho rfl]; exact ts33) ⟨_, rfl, S5, A5, c5, B5, d5, rfl, H.sub (L' := [_]) (by repeat (first | exact List.Sublist.refl _ | exact List.nil_sublist _ | refine List.Sublist.cons_cons _ ?_ | refine List.Sublist.cons _ ?_))⟩

set_option maxHeartbeats 4000000 in
theorem recordPuts {S : Nat → Prop} {ct : List Value} {r : DRecord} (w : World) (ho : Rc.Ok r) (ht : RTx w S ct r.tx) (hG : Gat w 0 formsC) (hz : Tx.Szd r.tx) : Calls Tryz.prog 3 [.agg (recC r ct).toArray].toArray w (Ret (Is w (.bool true))) := by
  obtain ⟨A, c, B, d, rfl, hI, hO, hk⟩ := tx_of ht
  refine k_enter (l := [_]) Tryz.func3 rfl rfl ?_
  have H := St.start nT w
  refine k_seq ?_
  refine k_region ?_
  refine s_eff (e_box (vs := (recC r (txC A r.tx.ins.length c B r.tx.outs.length d r.tx.lock))) (w_none rfl) rfl rfl rfl rfl H ?_)
  clear H; intro gm W H
  refine s_run (w_none rfl) rfl (as_b rfl rfl) ?_
  refine l_nil ?_
  refine k_seq ?_
  refine k_seq ?_
  refine k_region ?_
  refine s_run (w_none rfl) rfl (d_fa rfl rfl tf33_6) ?_
  refine s_run (w_none rfl) rfl (d_ldXM (g := gm) (off := 77) rfl H (sub_r_tx ho rfl) rfl rfl rfl rfl ta31 ts31) ?_
  refine s_eff (e_call (w_none rfl) rfl rfl Tryz.func5 rfl rfl rfl (bigTx (rows := 20) (bytes := 8192) _ (keeps_Tx _ _ _ _ _ ht (fun g hg _ => H.fr.block g hg (fun h => h))) hz) ?_)
  rintro _ W ⟨rfl, hb⟩
  replace H := H.below hb
  clear hb
  refine l_nil ?_
  refine k_cond rfl (fun hc10 => ?_) (fun hc10 => ?_)
  · skip
    refine k_seq ?_
    refine k_region ?_
    refine s_eff (e_call (w_none rfl) rfl rfl Tryz.func6 rfl rfl rfl (knownT _ (H.gat hG)) ?_)
    rintro _ W ⟨rfl, hb⟩
    replace H := H.below hb
    clear hb
    refine s_run (w_none rfl) rfl (as_b rfl rfl) ?_
    refine l_nil ?_
    refine k_ret ?_
    repeat (first | refine r_then ?_ | refine r_blk ?_)
    exact q_ret (v := .bool _) rfl rfl ⟨_, rfl, rfl, H.under⟩
  · have hbig : Tx.big 20 8192 r.tx = false := by simpa using hc10
    have hsm := Tx.not_big hbig (by decide)
    have hf := Tx.fits hsm (by decide) (by decide)
    have hs1 : r.tx.ins.length ≤ 1000000 ∧ r.tx.outs.length ≤ 1000000 := ⟨by have := hsm.ins; omega, by have := hsm.outs; omega⟩
    refine k_skip ?_
    refine k_seq ?_
    refine k_region ?_
    refine s_run (w_none rfl) rfl (d_ldXM (g := gm) (off := 0) rfl H (sub_all (len_rec' ho rfl)) (len_rec' ho rfl) rfl rfl rfl ta33 ts33) ?_
    refine s_eff (e_call (w_none rfl) rfl rfl Tryz.func7 rfl rfl rfl (copyRec _ ho (keeps_Tx _ _ _ _ _ ht (fun g hg _ => H.fr.block g hg (fun h => h))) hf) ?_)
    rintro _ W ⟨S5, A5, c5, B5, d5, rfl, hn_⟩
    replace H := H.add1 hn_
    clear hn_
    refine s_eff (e_alloc (w_none rfl) rfl rfl (recC Rc.zero zt) tz33 H ?_)
    clear H; intro g3 W H
    refine s_eff (e_stoK (recC r (txC A5 r.tx.ins.length c5 B5 r.tx.outs.length d5 r.tx.lock)) (w_none rfl) rfl rfl rfl rfl rfl ts33 (len_rec' ho rfl) (rec_one rfl) H (by rw [len_rec rfl rfl rfl]; decide) (spl_all ((len_rec' ho rfl).trans (len_rec rfl rfl rfl).symm)) ?_)
    clear H; intro W H
    refine l_nil ?_
    refine k_seq ?_
    refine k_region ?_
    refine s_run (w_none rfl) rfl (d_ldXM (g := g3) (off := 0) rfl H (sub_all (len_rec' ho rfl)) (len_rec' ho rfl) rfl rfl rfl ta33 ts33) ?_
    refine s_eff (e_call (w_none rfl) rfl rfl Tryz.func8 rfl rfl rfl (putRT _ ho (H.rep1 (R := RTx) (S := S5) (cs := txC A5 r.tx.ins.length c5 B5 r.tx.outs.length d5 r.tx.lock) (a := r.tx)) (H.gat hG)) ?_)
    rintro _ W ⟨_, rfl, A1, c1, rfl, hc1, hd1, hn⟩
    replace H := H.new hn
    clear hn
    refine s_run (w_none rfl) rfl (mv_t rfl rfl) ?_
    refine s_run (w_none rfl) rfl (d_ext rfl rfl rfl) ?_
    refine s_run (w_none rfl) rfl (d_ext rfl rfl rfl) ?_
    refine s_run (w_none rfl) rfl (as_s rfl rfl) ?_
    refine s_run (w_none rfl) rfl (as_i rfl rfl) ?_
    refine l_nil ?_
    refine k_seq ?_
    refine k_region ?_
    refine s_run (w_none rfl) rfl (d_ldXM (g := gm) (off := 0) rfl H (sub_all (len_rec' ho rfl)) (len_rec' ho rfl) rfl rfl rfl ta33 ts33) ?_
    refine s_eff (e_call (w_none rfl) rfl rfl Tryz.func9 rfl rfl rfl (putRR _ ho (keeps_Tx _ _ _ _ _ ht (fun g hg _ => H.fr.block g hg (fun h => h))) hs1) ?_)
    rintro _ W ⟨_, rfl, A2, c2, rfl, hc2, hd2, hn⟩
    replace H := H.new hn
    clear hn
    refine s_run (w_none rfl) rfl (mv_t rfl rfl) ?_
    refine s_run (w_none rfl) rfl (d_ext rfl rfl rfl) ?_
    refine s_run (w_none rfl) rfl (d_ext rfl rfl rfl) ?_
    refine s_run (w_none rfl) rfl (as_s rfl rfl) ?_
    refine s_run (w_none rfl) rfl (as_i rfl rfl) ?_
    refine l_nil ?_
    refine k_seq ?_
    refine k_draw [(0, true), (1, true), (3, true), (4, true), (2, false), (5, false), (6, true), (7, true), (8, true), (10, true), (9, false), (11, false), (12, true), (13, true), (14, true), (15, true), (16, true), (17, true), (18, true), (19, true), (20, true), (21, true), (22, false), (23, true), (24, true), (25, true), (26, true), (27, false), (28, true), (29, true), (30, false), (31, true), (32, true)] [Fact.row 5 1 (.slice A2 (Rc.put r).1.length c2) (Rc.put r).1.length ((Rc.put r).1.map u8v), Fact.row 5 1 (.slice A1 (Rc.put r).1.length c1) (Rc.put r).1.length ((Rc.put r).1.map u8v), Fact.blk g3 (recC r (txC A5 r.tx.ins.length c5 B5 r.tx.outs.length d5 r.tx.lock)) 33, Fact.rep RTx S5 (txC A5 r.tx.ins.length c5 B5 r.tx.outs.length d5 r.tx.lock) r.tx, Fact.blk gm (recC r (txC A r.tx.ins.length c B r.tx.outs.length d r.tx.lock)) 33] (by kernel_rfl) (by kernel_rfl) H (by repeat (first | exact List.Sublist.refl _ | exact List.nil_sublist _ | refine List.Sublist.cons_cons _ ?_ | refine List.Sublist.cons _ ?_)) ?_
    clear H; intro W H
    refine c_run rfl (w_none rfl) rfl (fun W H => d_fa rfl rfl tf33_2) ?_
    refine c_run rfl (w_none rfl) rfl (fun W H => d_ldXM (g := gm) (off := 2) rfl H (sub_r_deal ho) (len_deal ho.2.2.1.2.2.2.2.1) rfl rfl rfl ta27 ts27) ?_
    refine c_run rfl (w_none rfl) rfl (fun W H => d_fa rfl rfl tf33_2) ?_
    refine c_run rfl (w_none rfl) rfl (fun W H => d_ldXM (g := gm) (off := 2) rfl H (sub_r_deal ho) (len_deal ho.2.2.1.2.2.2.2.1) rfl rfl rfl ta27 ts27) ?_
    refine c_eff rfl (e_call (w_none rfl) rfl rfl Tryz.func10 rfl rfl rfl (dealT (d := r.deal) _ ho.2.2.1.2.2.2.2.1) ?_)
    rintro _ W ⟨rfl, hb⟩
    replace H := H.below hb
    clear hb
    refine ⟨H.sub (by repeat (first | exact List.Sublist.refl _ | exact List.nil_sublist _ | refine List.Sublist.cons_cons _ ?_ | refine List.Sublist.cons _ ?_)), ?_⟩
    refine c_eff rfl (e_call (w_none rfl) rfl rfl Tryz.func11 rfl rfl rfl (dealR (d := r.deal) _ ho.2.2.1.2.2.2.2.1) ?_)
    rintro _ W ⟨rfl, hb⟩
    replace H := H.below hb
    clear hb
    refine ⟨H.sub (by repeat (first | exact List.Sublist.refl _ | exact List.nil_sublist _ | refine List.Sublist.cons_cons _ ?_ | refine List.Sublist.cons _ ?_)), ?_⟩
    refine c_run rfl (w_none rfl) rfl (fun W H => d_eq rfl rfl rfl) ?_
    refine c_run rfl (w_none rfl) rfl (fun W H => mv_bx (c := true) rfl rfl (by first | rfl | (simp; done) | exact decide_eq_true rfl)) ?_
    refine c_run rfl (w_g rfl rfl rfl rfl) rfl (fun W H => d_ldXM (g := g3) (off := 0) rfl H (sub_all (len_rec' ho rfl)) (len_rec' ho rfl) rfl rfl rfl ta33 ts33) ?_
    refine c_run rfl (w_g rfl rfl rfl rfl) rfl (fun W H => d_ldXM (g := gm) (off := 0) rfl H (sub_all (len_rec' ho rfl)) (len_rec' ho rfl) rfl rfl rfl ta33 ts33) ?_
    refine c_eff rfl (e_call (w_g rfl rfl rfl rfl) rfl rfl Tryz.func12 rfl rfl rfl (checkRT _ ho (H.rep1 (R := RTx) (S := S5) (cs := txC A5 r.tx.ins.length c5 B5 r.tx.outs.length d5 r.tx.lock) (a := r.tx))) ?_)
    rintro _ W ⟨rfl, hb⟩
    replace H := H.below hb
    clear hb
    refine ⟨H.sub (by repeat (first | exact List.Sublist.refl _ | exact List.nil_sublist _ | refine List.Sublist.cons_cons _ ?_ | refine List.Sublist.cons _ ?_)), ?_⟩
    refine c_eff rfl (e_call (w_g rfl rfl rfl rfl) rfl rfl Tryz.func13 rfl rfl rfl (checkRR _ ho (keeps_Tx _ _ _ _ _ ht (fun g hg _ => H.fr.block g hg (fun h => h))) hs1) ?_)
    rintro _ W ⟨rfl, hb⟩
    replace H := H.below hb
    clear hb
    refine ⟨H.sub (by repeat (first | exact List.Sublist.refl _ | exact List.nil_sublist _ | refine List.Sublist.cons_cons _ ?_ | refine List.Sublist.cons _ ?_)), ?_⟩
    refine c_run rfl (w_g rfl rfl rfl rfl) rfl (fun W H => d_eq rfl rfl rfl) ?_
    refine c_run rfl (w_none rfl) rfl (fun W H => d_pickT rfl rfl rfl) ?_
    refine c_run rfl (w_none rfl) rfl (fun W H => mv_bx (c := true) rfl rfl (by first | rfl | (simp; done) | exact decide_eq_true rfl)) ?_
    refine c_run rfl (w_g rfl rfl rfl rfl) rfl (fun W H => mv_i rfl rfl) ?_
    refine c_run rfl (w_g rfl rfl rfl rfl) rfl (fun W H => mv_i rfl rfl) ?_
    refine c_run rfl (w_g rfl rfl rfl rfl) rfl (fun W H => d_eq rfl rfl rfl) ?_
    refine c_run rfl (w_none rfl) rfl (fun W H => d_pickT rfl rfl rfl) ?_
    refine c_run rfl (w_none rfl) rfl (fun W H => mv_bx (c := true) rfl rfl (by first | rfl | (simp; done) | exact decide_eq_true rfl)) ?_
    refine c_run rfl (w_g rfl rfl rfl rfl) rfl (fun W H => mv_s rfl rfl) ?_
    refine c_run rfl (w_g rfl rfl rfl rfl) rfl (fun W H => mv_s rfl rfl) ?_
    refine c_eff rfl (e_call (w_g rfl rfl rfl rfl) rfl rfl Tryz.func14 rfl rfl rfl (sameBytes _ _ (Rc.put r).1 (Rc.put r).1 _ (H.rowbs (A := A1) rfl) (H.rowbs (A := A2) rfl)) ?_)
    rintro _ W ⟨rfl, hb⟩
    replace H := H.below hb
    clear hb
    refine ⟨H.sub (by repeat (first | exact List.Sublist.refl _ | exact List.nil_sublist _ | refine List.Sublist.cons_cons _ ?_ | refine List.Sublist.cons _ ?_)), ?_⟩
    refine c_run rfl (w_none rfl) rfl (fun W H => d_pickT rfl rfl rfl) ?_
    refine c_run rfl (w_none rfl) rfl (fun W H => mv_bx (c := true) rfl rfl (by first | rfl | (simp; done) | exact decide_eq_true rfl)) ?_
    refine c_run rfl (w_g rfl rfl rfl rfl) rfl (fun W H => d_ldXM (g := g3) (off := 0) rfl H (sub_all (len_rec' ho rfl)) (len_rec' ho rfl) rfl rfl rfl ta33 ts33) ?_
    refine c_run rfl (w_g rfl rfl rfl rfl) rfl (fun W H => d_ldXM (g := gm) (off := 0) rfl H (sub_all (len_rec' ho rfl)) (len_rec' ho rfl) rfl rfl rfl ta33 ts33) ?_
    refine c_eff rfl (e_call (w_g rfl rfl rfl rfl) rfl rfl Tryz.func15 rfl rfl rfl (sameRec (r := r) (u := r) _ ho (H.rep1 (R := RTx) (S := S5) (cs := txC A5 r.tx.ins.length c5 B5 r.tx.outs.length d5 r.tx.lock) (a := r.tx)) ho (keeps_Tx _ _ _ _ _ ht (fun g hg _ => H.fr.block g hg (fun h => h)))) ?_)
    rintro _ W ⟨rfl, hb⟩
    replace H := H.below hb
    clear hb
    refine ⟨H.sub (by repeat (first | exact List.Sublist.refl _ | exact List.nil_sublist _ | refine List.Sublist.cons_cons _ ?_ | refine List.Sublist.cons _ ?_)), ?_⟩
    refine c_run rfl (w_none rfl) rfl (fun W H => d_pickT rfl rfl rfl) ?_
    refine c_run rfl (w_none rfl) rfl (fun W H => mv_bx (c := true) rfl rfl (by first | rfl | (simp; done) | exact decide_eq_true rfl)) ?_
    refine c_eff rfl (e_call (w_g rfl rfl rfl rfl) rfl rfl Tryz.func6 rfl rfl rfl (knownT _ (H.gat hG)) ?_)
    rintro _ W ⟨rfl, hb⟩
    replace H := H.below hb
    clear hb
    refine ⟨H.sub (by repeat (first | exact List.Sublist.refl _ | exact List.nil_sublist _ | refine List.Sublist.cons_cons _ ?_ | refine List.Sublist.cons _ ?_)), ?_⟩
    refine c_run rfl (w_none rfl) rfl (fun W H => d_pickT rfl rfl rfl) ?_
    refine c_run rfl (w_none rfl) rfl (fun W H => as_b rfl rfl) ?_
    refine c_nil ?_
    refine k_ret ?_
    repeat (first | refine r_then ?_ | refine r_blk ?_)
    exact q_ret (v := .bool _) rfl rfl ⟨_, rfl, rfl, H.under⟩
end Go.Proofs.YtfjhmecmhchbdaaGreatDoor

namespace Go.Proofs.YtfjhmecmhchbdaaGreatDoor
open Go Go.RowKit

theorem recordPuts_any {S : Nat → Prop} {cs : List Value} {r : DRecord} (w : World) (hG : Gat w 0 formsC) (hz : Tx.Szd r.tx) (h0 : RRecord w S cs r) :
    Calls Tryz.prog 3 #[.agg cs.toArray] w (fun e w' => e = .returned (.bool true) ∧ Below w.heap.size w w') := by
  obtain ⟨A, c, B, d, rfl, ht, ho⟩ := rec_of h0
  exact Calls.mono (recordPuts w ho ht hG hz) (fun e w' h => by
    obtain ⟨v, rfl, rfl, hb⟩ := h
    exact ⟨rfl, hb⟩)
end Go.Proofs.YtfjhmecmhchbdaaGreatDoor
