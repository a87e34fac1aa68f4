/- PackForms. -/
import Derived.Test.YtejaohlijaodjaaDoorK13
import Derived.Test.YtejaohlijaodjaaDoorPkLaw
import Derived.Test.YtejaohlijaodjaaDoorVY
namespace Go.Proofs.YtejaohlijaodjaaDoor
open Go Go.RowKit
attribute [local irreducible] wpList

def wd (i : Nat) : Nat := [2, 4, 8].getD i 0
def ah (i : Nat) : UInt8 := [253, 254, 255].getD i 0
theorem wd_at {i : Nat} (hi : i < 3) : Pk.wide (ah i) = wd i ∧ (wd i = 2 ∨ wd i = 4 ∨ wd i = 8) ∧ ([.int .i64 2, .int .i64 4, .int .i64 8] : List Value)[i * 1]? = some (.int .i64 ((wd i : Nat) : Int)) ∧ ([.int .u8 253, .int .u8 254, .int .u8 255] : List Value)[i * 1]? = some (u8v (ah i)) := by
  match i, hi with
  | 0, _ => exact ⟨rfl, by decide, rfl, rfl⟩
  | 1, _ => exact ⟨rfl, by decide, rfl, rfl⟩
  | 2, _ => exact ⟨rfl, by decide, rfl, rfl⟩
theorem small_of {u q : Nat} (h : (((u : Int) / 2 ^ (8 * q)) != 0) = false) : u < 256 ^ q := by
  rw [shr_le] at h
  have h2 : u / 256 ^ q = 0 := by
    generalize u / 256 ^ q = z at h
    have h3 : (z : Int) = 0 := by simpa only [bne_eq_false_iff_eq] using h
    omega
  exact Nat.lt_of_div_eq_zero (Nat.pow_pos (by decide)) h2
/-- What a form tells. -/
theorem form_read {i u : Nat} (hi : i < 3) (hu : u < 256 ^ wd i) : Pk.rInt (ah i :: Pk.le u (wd i), 0) = if 9223372036854775808 ≤ u then (0, ([], 15)) else if u < Pk.least (ah i) then (0, ([], 10)) else (u, ([], 0)) := by
  obtain ⟨h1, h2, _⟩ := wd_at hi
  have h3 := Pk.rInt_wide (c := ah i) (b := Pk.le u (wd i)) [] (by omega) (by rw [Pk.len_le, h1])
  rw [List.append_nil] at h3
  rw [h3, Pk.num, Pk.ofLe_le, Nat.mod_eq_of_lt hu]
theorem form_own {i u : Nat} (hi : i < 3) (hu : u < 256 ^ wd i) (h63 : u < 9223372036854775808) (hl : ¬ u < Pk.least (ah i)) : Pk.int u = ah i :: Pk.le u (wd i) := by
  have h1 := form_read hi hu
  rw [if_neg (by omega), if_neg hl] at h1
  have h2 := Pk.rInt_back (s := (ah i :: Pk.le u (wd i), 0)) rfl (by rw [h1])
  rw [h1] at h2
  simpa using h2.symm
theorem form_len {i u : Nat} (hi : i < 3) (hu : u < 256 ^ wd i) (h63 : u < 9223372036854775808) : (Pk.int u).length < 1 + wd i ↔ u < Pk.least (ah i) := by
  obtain ⟨h1, h2, _⟩ := wd_at hi
  have h3 := Pk.int_len (c := ah i) (u := u) (by omega) (by rw [h1]; exact hu)
  rw [h1] at h3
  constructor
  · intro h; exact h3.1 (by omega)
  · intro h
    have h4 := h3.2 h
    rcases Nat.lt_or_ge (Pk.int u).length (1 + wd i) with h5 | h5
    · exact h5
    · exfalso
      have h6 : ∀ k, u < 256 ^ k → k = 2 ∨ k = 4 ∨ k = 8 → (Pk.int u).length ≤ 1 + k := fun k hk hq => by
        unfold Pk.int
        rcases hq with rfl | rfl | rfl
        · have : u < 65536 := hk
          (repeat' split) <;> simp [Pk.len_le] <;> omega
        · have : u < 4294967296 := hk
          (repeat' split) <;> simp [Pk.len_le] <;> omega
        · (repeat' split) <;> simp [Pk.len_le]
      have := h6 _ hu h2
      omega
theorem int_more {u : Nat} (h : 253 ≤ u) : 1 < (Pk.int u).length := by
  unfold Pk.int
  rw [if_neg (by omega)]
  split
  · simp [Pk.len_le]
  · split <;> simp [Pk.len_le]

set_option maxHeartbeats 4000000 in
theorem packForms (n : Int) (w : World) (hG : Gat w 0 formsC) (hn : -9223372036854775808 ≤ n ∧ n ≤ 9223372036854775807) : Calls Tryd.prog 3 [.int .i64 n].toArray w (Ret (Is w (.bool true))) := by
  have hc := u64_wrap n
  have hlt := Pk.toU_lt n
  have hnu : 0 ≤ n → n = ((Pk.toU n : Nat) : Int) := fun h => by rw [Pk.toU_cast]; omega
  have hneg : n < 0 → 9223372036854775808 ≤ Pk.toU n := fun h => by unfold Pk.toU; omega
  have hint := fun W => packInt (S := (0 ≤ ·)) (v := .slice none 0 0) (b := []) n W
  generalize Pk.toU n = u at *
  refine k_enter (l := [_]) Tryd.func3 rfl rfl ?_
  have H := St.start nT w
  refine k_seq ?_
  refine k_region ?_
  refine s_run (w_none rfl) rfl (as_b rfl rfl) ?_
  refine l_nil ?_
  refine k_seq ?_
  refine k_region ?_
  refine s_run (w_none rfl) rfl (mv_i rfl rfl) ?_
  refine s_run (w_none rfl) rfl (d_conv rfl rfl (by rw [tu3]; rfl) tu22 hc) ?_
  refine s_run (w_none rfl) rfl (as_i rfl rfl) ?_
  refine l_nil ?_
  refine k_seq ?_
  refine k_region ?_
  refine s_eff (e_bsl (xs := [.const (.int .u8 253), .const (.int .u8 254), .const (.int .u8 255)]) (vals := [.int .u8 _, .int .u8 _, .int .u8 _]) (vs := [.int .u8 _, .int .u8 _, .int .u8 _]) (w_none rfl) rfl rfl rfl rfl rfl rfl tu23 ts5 ty5 rfl rfl rfl H ?_)
  clear H; intro ga W H
  refine s_run (w_none rfl) rfl (as_s rfl rfl) ?_
  refine l_nil ?_
  refine k_seq ?_
  refine k_region ?_
  refine s_eff (e_bsl (xs := [.const (.int .i64 2), .const (.int .i64 4), .const (.int .i64 8)]) (vals := [.int .i64 _, .int .i64 _, .int .i64 _]) (vs := [.int .i64 _, .int .i64 _, .int .i64 _]) (w_none rfl) rfl rfl rfl rfl rfl rfl tu24 ts3 ty3 rfl rfl rfl H ?_)
  clear H; intro gw W H
  refine s_run (w_none rfl) rfl (as_s rfl rfl) ?_
  refine l_nil ?_
  refine k_seq ?_
  refine k_region ?_
  refine s_run (w_none rfl) rfl (mv_i rfl rfl) ?_
  refine s_eff (e_call (w_none rfl) rfl rfl Tryd.func18 rfl rfl rfl (hint _ (H.gat hG) Bs.nil hn (by simp)) ?_)
  rintro _ W ⟨A1, c1, rfl, hc1, hd1, hn⟩
  replace H := H.new hn
  clear hn
  rw [List.nil_append] at hc1 H ⊢
  refine s_run (w_none rfl) rfl (as_s rfl rfl) ?_
  refine l_nil ?_
  refine k_seq ?_
  refine k_seq ?_
  refine k_region ?_
  refine s_run (w_none rfl) rfl (as_i rfl rfl) ?_
  refine l_nil ?_
  refine k_block ?_
  refine k_loop 19 [2, 7, 8, 9, 10, 11, 12] (fun mm sl W => ∃ i : Nat, 3 - i = mm ∧ sl = [(7, .int .i64 (i : Int))] ∧ (i ≤ 3) ∧ St nT w W [Fact.row 5 1 (.slice A1 (Pk.int u).length c1) (Pk.int u).length ((Pk.int u).map u8v), Fact.blk gw [.int .i64 2, .int .i64 4, .int .i64 8] 3, Fact.blk ga [.int .u8 253, .int .u8 254, .int .u8 255] 5]) _ _ ⟨0, rfl, rfl, Nat.zero_le _, H⟩ ⟨rfl, trivial⟩ (fun mm sl ρv W hJ => ?_)
  clear H; obtain ⟨i, rfl, rfl, hi, H⟩ := hJ
  refine k_one ?_
  refine k_seq ?_
  refine k_seq ?_
  refine k_region ?_
  refine s_run (w_none rfl) rfl (mv_i rfl rfl) ?_
  refine s_run (w_none rfl) rfl (d_lt rfl rfl rfl) ?_
  refine l_nil ?_
  refine k_cond rfl (fun hc20 => ?_) (fun hc20 => ?_)
  · replace hc20 := of_decide_eq_true hc20
    have hi3 : i < 3 := by omega
    have hwd := wd_at hi3
    refine k_skip ?_
    refine k_seq ?_
    refine k_block ?_
    refine k_seq ?_
    refine k_seq ?_
    rcases Nat.lt_or_ge (wd i) 8 with h8 | h8
    · skip
      refine k_region ?_
      refine s_run (w_none rfl) rfl (mv_s rfl rfl) ?_
      refine s_run (w_none rfl) rfl (mv_i rfl rfl) ?_
      refine s_run (w_none rfl) rfl (d_iaS rfl (rd_blk (H.blk (g := gw)) rfl) rfl rfl (q := i) rfl (by omega) tu24 ts3) ?_
      refine s_run (w_none rfl) rfl (d_ldR0 rfl (rd_blk (m := 3) (H.blk (g := gw)) rfl) rfl ta3 hwd.2.2.1) ?_
      refine s_run (w_none rfl) rfl (d_lt rfl rfl rfl) ?_
      refine s_run (w_none rfl) rfl (mv_bx (c := true) rfl rfl (by simp; omega)) ?_
      refine s_run (w_g rfl rfl rfl rfl) rfl (mv_i rfl rfl) ?_
      refine s_run (w_g rfl rfl rfl rfl) rfl (mv_s rfl rfl) ?_
      refine s_run (w_g rfl rfl rfl rfl) rfl (mv_i rfl rfl) ?_
      refine s_run (w_g rfl rfl rfl rfl) rfl (d_iaS rfl (rd_blk (H.blk (g := gw)) rfl) rfl rfl (q := i) rfl (by omega) tu24 ts3) ?_
      refine s_run (w_g rfl rfl rfl rfl) rfl (d_ldR0 rfl (rd_blk (m := 3) (H.blk (g := gw)) rfl) rfl ta3 hwd.2.2.1) ?_
      refine s_run (w_g rfl rfl rfl rfl) rfl (d_mul rfl rfl rfl (by omega)) ?_
      refine s_run (w_g rfl rfl rfl rfl) rfl (d_conv rfl rfl (by rw [tu3]; rfl) tu26 (IntWalk.u64_in _ (by omega))) ?_
      refine s_run (w_g rfl rfl rfl rfl) rfl (d_shr rfl rfl rfl (m := 8 * wd i) rfl (by show 8 * wd i ≤ 64; omega)) ?_
      refine s_run (w_g rfl rfl rfl rfl) rfl (d_ne rfl rfl rfl) ?_
      refine s_run (w_none rfl) rfl (d_pickT rfl rfl rfl) ?_
      refine l_nil ?_
      refine k_cond rfl (fun hc38 => ?_) (fun hc38 => ?_)
      · skip
        refine k_exit ?_
        refine x_hit ?_
        refine k_region ?_
        refine s_run (w_none rfl) rfl (mv_i rfl rfl) ?_
        refine s_run (w_none rfl) rfl (d_add rfl rfl rfl (by omega)) ?_
        refine s_run (w_none rfl) rfl (as_i rfl rfl) ?_
        refine l_nil ?_
        refine k_nil ?_
        refine k_next ?_
        refine ⟨_, _, _, ?_, rfl, ?_, ?_, ⟨i + 1, rfl, rfl, by omega, H.sub (by repeat (first | exact List.Sublist.refl _ | refine List.Sublist.cons_cons _ ?_ | refine List.Sublist.cons _ ?_))⟩⟩
        · omega
        · repeat (first | ((with_reducible refine Eqo.updl _ Eqo.ovr ?_); exact rfl) | ((with_reducible refine Eqo.updl _ (Eqo.ovr2 ?_ ?_) ?_); rotate_left; exact rfl; exact rfl) | ((with_reducible refine Eqo.upd ?_ ?_); rotate_left; exact rfl))
        · refine ⟨?_, trivial⟩
          · exact vi (by omega)
      · have huq : u < 256 ^ wd i := small_of hc38
        refine k_skip ?_
        refine k_seq ?_
        refine k_region ?_
        refine s_run (w_none rfl) rfl (mv_s rfl rfl) ?_
        refine s_run (w_none rfl) rfl (mv_i rfl rfl) ?_
        refine s_run (w_none rfl) rfl (d_iaS rfl (rd_blk (H.blk (g := ga)) rfl) rfl rfl (q := i) rfl (by omega) tu23 ts5) ?_
        refine s_run (w_none rfl) rfl (d_ldR0 rfl (rd_blk (m := 3) (H.blk (g := ga)) rfl) rfl ta5 hwd.2.2.2) ?_
        refine s_eff (e_bsl (xs := [.tmp 42]) (vals := [.int .u8 _]) (vs := [.int .u8 _]) (w_none rfl) rfl rfl rfl rfl rfl rfl tu23 ts5 ty5 rfl rfl rfl H ?_)
        clear H; intro gb W H
        refine s_run (w_none rfl) rfl (as_s rfl rfl) ?_
        refine l_nil ?_
        refine k_seq ?_
        refine k_seq ?_
        refine k_region ?_
        refine s_run (w_none rfl) rfl (as_i rfl rfl) ?_
        refine l_nil ?_
        refine k_block ?_
        refine k_loop 44 [8, 9] (fun mm sl W => ∃ k : Nat, ∃ B2 : Option Addr, ∃ d2 : Nat, wd i - k = mm ∧ sl = [(9, .int .i64 (k : Int)), (8, .slice B2 (k + 1) d2)] ∧ (k ≤ wd i) ∧ (k + 1 ≤ d2 ∧ d2 ≤ 9223372036854775807) ∧ St nT w W [Fact.row 5 1 (.slice B2 (k + 1) d2) (k + 1) ((ah i :: Pk.le u k).map u8v), Fact.row 5 1 (.slice A1 (Pk.int u).length c1) (Pk.int u).length ((Pk.int u).map u8v), Fact.blk gw [.int .i64 2, .int .i64 4, .int .i64 8] 3, Fact.blk ga [.int .u8 253, .int .u8 254, .int .u8 255] 5]) _ _ ⟨0, some ⟨gb, 0, none⟩, 1, rfl, rfl, Nat.zero_le _, ⟨by omega, by omega⟩, H.torow 1 rfl (by decide)⟩ ⟨rfl, rfl, trivial⟩ (fun mm sl ρv W hJ => ?_)
        clear H; obtain ⟨k, B2, d2, rfl, rfl, hk, hd, H⟩ := hJ
        refine k_one ?_
        refine k_seq ?_
        refine k_seq ?_
        refine k_region ?_
        refine s_run (w_none rfl) rfl (mv_i rfl rfl) ?_
        refine s_run (w_none rfl) rfl (mv_s rfl rfl) ?_
        refine s_run (w_none rfl) rfl (mv_i rfl rfl) ?_
        refine s_run (w_none rfl) rfl (d_iaS rfl (rd_blk (H.blk (g := gw)) rfl) rfl rfl (q := i) rfl (by omega) tu24 ts3) ?_
        refine s_run (w_none rfl) rfl (d_ldR0 rfl (rd_blk (m := 3) (H.blk (g := gw)) rfl) rfl ta3 hwd.2.2.1) ?_
        refine s_run (w_none rfl) rfl (d_lt rfl rfl rfl) ?_
        refine l_nil ?_
        refine k_cond rfl (fun hc49 => ?_) (fun hc49 => ?_)
        · first | (replace hc49 := of_decide_eq_true hc49) | simp at hc49
          refine k_skip ?_
          refine k_seq ?_
          refine k_block ?_
          refine k_region ?_
          refine s_run (w_none rfl) rfl (mv_s rfl rfl) ?_
          refine s_run (w_none rfl) rfl (mv_i rfl rfl) ?_
          refine s_run (w_none rfl) rfl (mv_i rfl rfl) ?_
          refine s_run (w_none rfl) rfl (d_mul rfl rfl rfl (by omega)) ?_
          refine s_run (w_none rfl) rfl (d_conv rfl rfl (by rw [tu3]; rfl) tu26 (IntWalk.u64_in _ (by omega))) ?_
          refine s_run (w_none rfl) rfl (d_shr rfl rfl rfl (m := 8 * k) rfl (by show 8 * k ≤ 64; omega)) ?_
          refine s_run (w_none rfl) rfl (d_conv rfl rfl (by rw [tu22]; rfl) tu5 (u8_eq (shr_le u k))) ?_
          refine s_eff (e_bsl (xs := [.tmp 58]) (vals := [.int .u8 _]) (vs := [.int .u8 _]) (w_none rfl) rfl rfl rfl rfl rfl rfl tu23 ts5 ty5 rfl rfl rfl H ?_)
          clear H; intro g13_7 W H
          refine s_eff (e_app (w_none rfl) rfl rfl tu23 tx5 rfl rfl rfl H (rd_blk H.blk rfl) (rfl) (by omega) rfl ?_)
          clear H; intro A2 c2 W hc2 hd2 H
          replace H := H.drop
          refine s_run (w_none rfl) rfl (as_s rfl rfl) ?_
          refine l_nil ?_
          refine k_nil ?_
          refine b_end ?_
          refine k_region ?_
          refine s_run (w_none rfl) rfl (mv_i rfl rfl) ?_
          refine s_run (w_none rfl) rfl (d_add rfl rfl rfl (by omega)) ?_
          refine s_run (w_none rfl) rfl (as_i rfl rfl) ?_
          refine l_nil ?_
          refine k_nil ?_
          refine k_next ?_
          refine ⟨_, _, _, ?_, rfl, ?_, ?_, ⟨k + 1, A2, c2, rfl, rfl, by omega, ⟨by omega, hd2⟩, by rw [Pk.le_succ, ← List.cons_append, List.map_append]; exact H⟩⟩
          · omega
          · repeat (first | ((with_reducible refine Eqo.updl _ Eqo.ovr ?_); exact rfl) | ((with_reducible refine Eqo.updl _ (Eqo.ovr2 ?_ ?_) ?_); rotate_left; exact rfl; exact rfl) | ((with_reducible refine Eqo.upd ?_ ?_); rotate_left; exact rfl))
          · refine ⟨?_, ?_, trivial⟩
            · exact vi (by omega)
            · exact rfl
        · first | (replace hc49 := of_decide_eq_false hc49) | simp at hc49
          refine k_exit ?_
          refine x_then (x_then ?_)
          refine x_hit ?_
          refine k_seq ?_
          obtain rfl : k = wd i := by omega
          refine k_region ?_
          refine s_run (w_none rfl) rfl (mv_s rfl rfl) ?_
          refine s_eff (e_call (w_none rfl) rfl rfl Tryd.func19 rfl rfl rfl (prgRead (l := (ah i :: Pk.le u (wd i))) _ (H.rowbs (A := B2) (by simp [Pk.len_le])) (by simp [Pk.len_le]; omega)) ?_)
          rintro _ W ⟨r3, A3, c3, rfl, hS⟩
          replace H := H.add hS
          clear hS
          simp only [List.cons_append, List.nil_append] at H
          refine s_run (w_none rfl) rfl (as_p rfl rfl) ?_
          refine l_nil ?_
          refine k_seq ?_
          refine k_region ?_
          refine s_run (w_none rfl) rfl (mv_p rfl rfl) ?_
          refine s_eff (e_call (w_none rfl) rfl rfl Tryd.func20 rfl rfl rfl (prgInt _ (H.get (f := RdP 5 96 r3 A3 (ah i :: Pk.le u (wd i)).length c3 ((ah i :: Pk.le u (wd i)), 0))) ⟨fun h => absurd rfl h, by simp, by simp⟩ (H.gat hG) (H.away (f := RdP 5 96 r3 A3 (ah i :: Pk.le u (wd i)).length c3 ((ah i :: Pk.le u (wd i)), 0)) hG.1)) ?_)
          rintro _ W ⟨rfl, hp, hf⟩
          replace H := H.mut (f := RdP 5 96 r3 A3 (ah i :: Pk.le u (wd i)).length c3 ((ah i :: Pk.le u (wd i)), 0)) (f' := RdP 5 96 r3 A3 (ah i :: Pk.le u (wd i)).length c3 (Pk.rInt ((ah i :: Pk.le u (wd i)), 0)).2) hf hp (fun _ h => h)
          clear hp hf
          refine s_run (w_none rfl) rfl (as_i rfl rfl) ?_
          refine l_nil ?_
          refine k_seq ?_
          refine k_region ?_
          refine s_run (w_none rfl) rfl (as_i rfl rfl) ?_
          refine l_nil ?_
          refine k_seq ?_
          refine k_seq ?_
          refine k_region ?_
          refine s_run (w_none rfl) rfl (mv_i rfl rfl) ?_
          refine s_run (w_none rfl) rfl (d_lt rfl rfl rfl) ?_
          refine l_nil ?_
          refine k_cond rfl (fun hc66 => ?_) (fun hc66 => ?_)
          · first | (replace hc66 := of_decide_eq_true hc66) | simp at hc66
            refine k_region ?_
            refine s_run (w_none rfl) rfl (as_i rfl rfl) ?_
            refine l_nil ?_
            have hr := form_read hi3 huq
            rw [if_pos (hneg (by omega))] at hr
            rw [hr] at H ⊢
            refine k_seq ?_
            refine k_region ?_
            refine s_run (w_none rfl) rfl (mv_p rfl rfl) ?_
            refine s_eff (e_call (w_none rfl) rfl rfl Tryd.func21 rfl rfl rfl (prgEnd _ (H.get (f := RdP 5 96 r3 A3 (ah i :: Pk.le u (wd i)).length c3 ([], 15)))) ?_)
            rintro _ W ⟨rfl, hb⟩
            replace H := H.below hb
            clear hb
            refine s_run (w_none rfl) rfl (mv_i rfl rfl) ?_
            refine s_run (w_none rfl) rfl (d_ne rfl rfl rfl) ?_
            refine s_run (w_none rfl) rfl (mv_bx (c := false) rfl rfl (by decide)) ?_
            refine s_run (w_g rfl rfl rfl rfl) rfl (mv_i rfl rfl) ?_
            refine s_run (w_g rfl rfl rfl rfl) rfl (d_eq rfl rfl rfl) ?_
            refine s_run (w_g rfl rfl rfl rfl) rfl (mv_bx (c := false) rfl rfl (by decide)) ?_
            refine s_skip (w_gno rfl rfl rfl rfl rfl) rfl ?_
            refine s_skip (w_gno rfl rfl rfl rfl rfl) rfl ?_
            refine s_skip (w_gno rfl rfl rfl rfl rfl) rfl ?_
            refine s_skip (w_gno rfl rfl rfl rfl rfl) rfl ?_
            refine s_skip (w_gu rfl rfl rfl rfl rfl) rfl ?_
            refine s_skip (w_gu rfl rfl rfl rfl rfl) rfl ?_
            refine s_skip (w_gu rfl rfl rfl rfl rfl) rfl ?_
            refine s_skip (w_gu rfl rfl rfl rfl rfl) rfl ?_
            refine s_skip (w_gno rfl rfl rfl rfl rfl) rfl ?_
            refine s_run (w_g rfl rfl rfl rfl) rfl (d_pickF rfl rfl rfl) ?_
            refine s_run (w_none rfl) rfl (d_pickF rfl rfl rfl) ?_
            refine s_run (w_none rfl) rfl (mv_bx (c := false) rfl rfl (rfl)) ?_
            refine s_run (w_g rfl rfl rfl rfl) rfl (mv_i rfl rfl) ?_
            refine s_run (w_g rfl rfl rfl rfl) rfl (d_ne rfl rfl rfl) ?_
            refine s_run (w_g rfl rfl rfl rfl) rfl (mv_bx (c := true) rfl rfl (by decide)) ?_
            refine s_run (w_g rfl rfl rfl rfl) rfl (mv_i rfl rfl) ?_
            refine s_run (w_g rfl rfl rfl rfl) rfl (d_ne rfl rfl rfl) ?_
            refine s_run (w_g rfl rfl rfl rfl) rfl (d_pickT rfl rfl rfl) ?_
            refine s_run (w_none rfl) rfl (d_pickF rfl rfl rfl) ?_
            refine l_nil ?_
            refine k_condF rfl (by first | (simp; done) | (simp; omega)) ?_
            refine k_skip ?_
            refine k_nil ?_
            refine b_end ?_
            refine k_region ?_
            refine s_run (w_none rfl) rfl (mv_i rfl rfl) ?_
            refine s_run (w_none rfl) rfl (d_add rfl rfl rfl (by omega)) ?_
            refine s_run (w_none rfl) rfl (as_i rfl rfl) ?_
            refine l_nil ?_
            refine k_nil ?_
            refine k_next ?_
            refine ⟨_, _, _, ?_, rfl, ?_, ?_, ⟨i + 1, rfl, rfl, by omega, H.sub (by repeat (first | exact List.Sublist.refl _ | refine List.Sublist.cons_cons _ ?_ | refine List.Sublist.cons _ ?_))⟩⟩
            · omega
            · repeat (first | ((with_reducible refine Eqo.updl _ Eqo.ovr ?_); exact rfl) | ((with_reducible refine Eqo.updl _ (Eqo.ovr2 ?_ ?_) ?_); rotate_left; exact rfl; exact rfl) | ((with_reducible refine Eqo.upd ?_ ?_); rotate_left; exact rfl))
            · refine ⟨?_, trivial⟩
              · exact vi (by omega)
          · first | (replace hc66 := of_decide_eq_false hc66) | simp at hc66
            refine k_seq ?_
            have h63 : u < 9223372036854775808 := by have := hnu (by omega); omega
            have hfl := form_len hi3 huq h63
            refine k_region ?_
            refine s_run (w_none rfl) rfl (mv_s rfl rfl) ?_
            refine s_run (w_none rfl) rfl (d_len rfl rfl tu23) ?_
            refine s_run (w_none rfl) rfl (mv_s rfl rfl) ?_
            refine s_run (w_none rfl) rfl (d_len rfl rfl tu23) ?_
            refine s_run (w_none rfl) rfl (d_lt rfl rfl rfl) ?_
            refine l_nil ?_
            refine k_cond rfl (fun hc71 => ?_) (fun hc71 => ?_)
            · replace hc71 := of_decide_eq_true hc71
              refine k_region ?_
              refine s_run (w_none rfl) rfl (as_i rfl rfl) ?_
              refine l_nil ?_
              have hr := form_read hi3 huq
              rw [if_neg (by omega), if_pos (hfl.1 (by omega))] at hr
              rw [hr] at H ⊢
              refine k_seq ?_
              refine k_region ?_
              refine s_run (w_none rfl) rfl (mv_p rfl rfl) ?_
              refine s_eff (e_call (w_none rfl) rfl rfl Tryd.func21 rfl rfl rfl (prgEnd _ (H.get (f := RdP 5 96 r3 A3 (ah i :: Pk.le u (wd i)).length c3 ([], 10)))) ?_)
              rintro _ W ⟨rfl, hb⟩
              replace H := H.below hb
              clear hb
              refine s_run (w_none rfl) rfl (mv_i rfl rfl) ?_
              refine s_run (w_none rfl) rfl (d_ne rfl rfl rfl) ?_
              refine s_run (w_none rfl) rfl (mv_bx (c := false) rfl rfl (by decide)) ?_
              refine s_run (w_g rfl rfl rfl rfl) rfl (mv_i rfl rfl) ?_
              refine s_run (w_g rfl rfl rfl rfl) rfl (d_eq rfl rfl rfl) ?_
              refine s_run (w_g rfl rfl rfl rfl) rfl (mv_bx (c := false) rfl rfl (by decide)) ?_
              refine s_skip (w_gno rfl rfl rfl rfl rfl) rfl ?_
              refine s_skip (w_gno rfl rfl rfl rfl rfl) rfl ?_
              refine s_skip (w_gno rfl rfl rfl rfl rfl) rfl ?_
              refine s_skip (w_gno rfl rfl rfl rfl rfl) rfl ?_
              refine s_skip (w_gu rfl rfl rfl rfl rfl) rfl ?_
              refine s_skip (w_gu rfl rfl rfl rfl rfl) rfl ?_
              refine s_skip (w_gu rfl rfl rfl rfl rfl) rfl ?_
              refine s_skip (w_gu rfl rfl rfl rfl rfl) rfl ?_
              refine s_skip (w_gno rfl rfl rfl rfl rfl) rfl ?_
              refine s_run (w_g rfl rfl rfl rfl) rfl (d_pickF rfl rfl rfl) ?_
              refine s_run (w_none rfl) rfl (d_pickF rfl rfl rfl) ?_
              refine s_run (w_none rfl) rfl (mv_bx (c := false) rfl rfl (rfl)) ?_
              refine s_run (w_g rfl rfl rfl rfl) rfl (mv_i rfl rfl) ?_
              refine s_run (w_g rfl rfl rfl rfl) rfl (d_ne rfl rfl rfl) ?_
              refine s_run (w_g rfl rfl rfl rfl) rfl (mv_bx (c := true) rfl rfl (by decide)) ?_
              refine s_run (w_g rfl rfl rfl rfl) rfl (mv_i rfl rfl) ?_
              refine s_run (w_g rfl rfl rfl rfl) rfl (d_ne rfl rfl rfl) ?_
              refine s_run (w_g rfl rfl rfl rfl) rfl (d_pickT rfl rfl rfl) ?_
              refine s_run (w_none rfl) rfl (d_pickF rfl rfl rfl) ?_
              refine l_nil ?_
              refine k_condF rfl (by first | (simp; done) | (simp; omega)) ?_
              refine k_skip ?_
              refine k_nil ?_
              refine b_end ?_
              refine k_region ?_
              refine s_run (w_none rfl) rfl (mv_i rfl rfl) ?_
              refine s_run (w_none rfl) rfl (d_add rfl rfl rfl (by omega)) ?_
              refine s_run (w_none rfl) rfl (as_i rfl rfl) ?_
              refine l_nil ?_
              refine k_nil ?_
              refine k_next ?_
              refine ⟨_, _, _, ?_, rfl, ?_, ?_, ⟨i + 1, rfl, rfl, by omega, H.sub (by repeat (first | exact List.Sublist.refl _ | refine List.Sublist.cons_cons _ ?_ | refine List.Sublist.cons _ ?_))⟩⟩
              · omega
              · repeat (first | ((with_reducible refine Eqo.updl _ Eqo.ovr ?_); exact rfl) | ((with_reducible refine Eqo.updl _ (Eqo.ovr2 ?_ ?_) ?_); rotate_left; exact rfl; exact rfl) | ((with_reducible refine Eqo.upd ?_ ?_); rotate_left; exact rfl))
              · refine ⟨?_, trivial⟩
                · exact vi (by omega)
            · replace hc71 := of_decide_eq_false hc71
              have hnl : ¬ u < Pk.least (ah i) := fun h => by have := hfl.2 h; omega
              have hown := form_own hi3 huq h63 hnl
              have hr := form_read hi3 huq
              rw [if_neg (by omega), if_neg hnl] at hr
              rw [hr] at H ⊢
              refine k_skip ?_
              refine k_seq ?_
              refine k_region ?_
              refine s_run (w_none rfl) rfl (mv_p rfl rfl) ?_
              refine s_eff (e_call (w_none rfl) rfl rfl Tryd.func21 rfl rfl rfl (prgEnd _ (H.get (f := RdP 5 96 r3 A3 (ah i :: Pk.le u (wd i)).length c3 ([], 0)))) ?_)
              rintro _ W ⟨rfl, hb⟩
              replace H := H.below hb
              clear hb
              refine s_run (w_none rfl) rfl (mv_i rfl rfl) ?_
              refine s_run (w_none rfl) rfl (d_ne rfl rfl rfl) ?_
              refine s_run (w_none rfl) rfl (mv_bx (c := false) rfl rfl (by decide)) ?_
              refine s_run (w_g rfl rfl rfl rfl) rfl (mv_i rfl rfl) ?_
              refine s_run (w_g rfl rfl rfl rfl) rfl (d_eq rfl rfl rfl) ?_
              refine s_run (w_g rfl rfl rfl rfl) rfl (mv_bx (c := true) rfl rfl (by decide)) ?_
              refine s_run (w_g rfl rfl rfl rfl) rfl (mv_i rfl rfl) ?_
              refine s_run (w_g rfl rfl rfl rfl) rfl (mv_i rfl rfl) ?_
              refine s_run (w_g rfl rfl rfl rfl) rfl (d_ne rfl rfl rfl) ?_
              refine s_run (w_g rfl rfl rfl rfl) rfl (mv_bx (c := false) rfl rfl (by rw [hnu (by omega)]; simp)) ?_
              refine s_run (w_g rfl rfl rfl rfl) rfl (mv_s rfl rfl) ?_
              refine s_run (w_g rfl rfl rfl rfl) rfl (mv_s rfl rfl) ?_
              refine s_eff (e_call (w_g rfl rfl rfl rfl) rfl rfl Tryd.func22 rfl rfl rfl (sameBytes _ _ (Pk.int u) (ah i :: Pk.le u (wd i)) _ (H.rowbs (A := A1) rfl) (H.rowbs (A := B2) (by simp [Pk.len_le]))) ?_)
              rw [decide_eq_true hown]
              rintro _ W ⟨rfl, hb⟩
              replace H := H.below hb
              clear hb
              refine s_run (w_g rfl rfl rfl rfl) rfl (d_not rfl rfl) ?_
              refine s_run (w_g rfl rfl rfl rfl) rfl (d_pickF rfl rfl rfl) ?_
              refine s_run (w_g rfl rfl rfl rfl) rfl (d_pickT rfl rfl rfl) ?_
              refine s_run (w_none rfl) rfl (d_pickF rfl rfl rfl) ?_
              refine s_run (w_none rfl) rfl (mv_bx (c := false) rfl rfl (rfl)) ?_
              refine s_run (w_g rfl rfl rfl rfl) rfl (mv_i rfl rfl) ?_
              refine s_run (w_g rfl rfl rfl rfl) rfl (d_ne rfl rfl rfl) ?_
              refine s_run (w_g rfl rfl rfl rfl) rfl (mv_bx (c := false) rfl rfl (by decide)) ?_
              refine s_skip (w_gno rfl rfl rfl rfl rfl) rfl ?_
              refine s_skip (w_gno rfl rfl rfl rfl rfl) rfl ?_
              refine s_run (w_g rfl rfl rfl rfl) rfl (d_pickF rfl rfl rfl) ?_
              refine s_run (w_none rfl) rfl (d_pickF rfl rfl rfl) ?_
              refine l_nil ?_
              refine k_condF rfl (by first | (simp; done) | (simp; omega)) ?_
              refine k_skip ?_
              refine k_nil ?_
              refine b_end ?_
              refine k_region ?_
              refine s_run (w_none rfl) rfl (mv_i rfl rfl) ?_
              refine s_run (w_none rfl) rfl (d_add rfl rfl rfl (by omega)) ?_
              refine s_run (w_none rfl) rfl (as_i rfl rfl) ?_
              refine l_nil ?_
              refine k_nil ?_
              refine k_next ?_
              refine ⟨_, _, _, ?_, rfl, ?_, ?_, ⟨i + 1, rfl, rfl, by omega, H.sub (by repeat (first | exact List.Sublist.refl _ | refine List.Sublist.cons_cons _ ?_ | refine List.Sublist.cons _ ?_))⟩⟩
              · omega
              · repeat (first | ((with_reducible refine Eqo.updl _ Eqo.ovr ?_); exact rfl) | ((with_reducible refine Eqo.updl _ (Eqo.ovr2 ?_ ?_) ?_); rotate_left; exact rfl; exact rfl) | ((with_reducible refine Eqo.upd ?_ ?_); rotate_left; exact rfl))
              · refine ⟨?_, trivial⟩
                · exact vi (by omega)
    · have huq : u < 256 ^ wd i := by rw [show wd i = 8 by omega]; exact hlt
      refine k_region ?_
      refine s_run (w_none rfl) rfl (mv_s rfl rfl) ?_
      refine s_run (w_none rfl) rfl (mv_i rfl rfl) ?_
      refine s_run (w_none rfl) rfl (d_iaS rfl (rd_blk (H.blk (g := gw)) rfl) rfl rfl (q := i) rfl (by omega) tu24 ts3) ?_
      refine s_run (w_none rfl) rfl (d_ldR0 rfl (rd_blk (m := 3) (H.blk (g := gw)) rfl) rfl ta3 hwd.2.2.1) ?_
      refine s_run (w_none rfl) rfl (d_lt rfl rfl rfl) ?_
      refine s_run (w_none rfl) rfl (mv_bx (c := false) rfl rfl (by simp; omega)) ?_
      refine s_skip (w_gno rfl rfl rfl rfl rfl) rfl ?_
      refine s_skip (w_gno rfl rfl rfl rfl rfl) rfl ?_
      refine s_skip (w_gno rfl rfl rfl rfl rfl) rfl ?_
      refine s_skip (w_gno rfl rfl rfl rfl rfl) rfl ?_
      refine s_skip (w_gno rfl rfl rfl rfl rfl) rfl ?_
      refine s_skip (w_gno rfl rfl rfl rfl rfl) rfl ?_
      refine s_skip (w_gno rfl rfl rfl rfl rfl) rfl ?_
      refine s_skip (w_gno rfl rfl rfl rfl rfl) rfl ?_
      refine s_skip (w_gno rfl rfl rfl rfl rfl) rfl ?_
      refine s_run (w_none rfl) rfl (d_pickF rfl rfl rfl) ?_
      refine l_nil ?_
      refine k_condF rfl (by first | (simp; done) | (simp; omega)) ?_
      refine k_skip ?_
      refine k_seq ?_
      refine k_region ?_
      refine s_run (w_none rfl) rfl (mv_s rfl rfl) ?_
      refine s_run (w_none rfl) rfl (mv_i rfl rfl) ?_
      refine s_run (w_none rfl) rfl (d_iaS rfl (rd_blk (H.blk (g := ga)) rfl) rfl rfl (q := i) rfl (by omega) tu23 ts5) ?_
      refine s_run (w_none rfl) rfl (d_ldR0 rfl (rd_blk (m := 3) (H.blk (g := ga)) rfl) rfl ta5 hwd.2.2.2) ?_
      refine s_eff (e_bsl (xs := [.tmp 42]) (vals := [.int .u8 _]) (vs := [.int .u8 _]) (w_none rfl) rfl rfl rfl rfl rfl rfl tu23 ts5 ty5 rfl rfl rfl H ?_)
      clear H; intro gb W H
      refine s_run (w_none rfl) rfl (as_s rfl rfl) ?_
      refine l_nil ?_
      refine k_seq ?_
      refine k_seq ?_
      refine k_region ?_
      refine s_run (w_none rfl) rfl (as_i rfl rfl) ?_
      refine l_nil ?_
      refine k_block ?_
      refine k_loop 44 [8, 9] (fun mm sl W => ∃ k : Nat, ∃ B2 : Option Addr, ∃ d2 : Nat, wd i - k = mm ∧ sl = [(9, .int .i64 (k : Int)), (8, .slice B2 (k + 1) d2)] ∧ (k ≤ wd i) ∧ (k + 1 ≤ d2 ∧ d2 ≤ 9223372036854775807) ∧ St nT w W [Fact.row 5 1 (.slice B2 (k + 1) d2) (k + 1) ((ah i :: Pk.le u k).map u8v), Fact.row 5 1 (.slice A1 (Pk.int u).length c1) (Pk.int u).length ((Pk.int u).map u8v), Fact.blk gw [.int .i64 2, .int .i64 4, .int .i64 8] 3, Fact.blk ga [.int .u8 253, .int .u8 254, .int .u8 255] 5]) _ _ ⟨0, some ⟨gb, 0, none⟩, 1, rfl, rfl, Nat.zero_le _, ⟨by omega, by omega⟩, H.torow 1 rfl (by decide)⟩ ⟨rfl, rfl, trivial⟩ (fun mm sl ρv W hJ => ?_)
      clear H; obtain ⟨k, B2, d2, rfl, rfl, hk, hd, H⟩ := hJ
      refine k_one ?_
      refine k_seq ?_
      refine k_seq ?_
      refine k_region ?_
      refine s_run (w_none rfl) rfl (mv_i rfl rfl) ?_
      refine s_run (w_none rfl) rfl (mv_s rfl rfl) ?_
      refine s_run (w_none rfl) rfl (mv_i rfl rfl) ?_
      refine s_run (w_none rfl) rfl (d_iaS rfl (rd_blk (H.blk (g := gw)) rfl) rfl rfl (q := i) rfl (by omega) tu24 ts3) ?_
      refine s_run (w_none rfl) rfl (d_ldR0 rfl (rd_blk (m := 3) (H.blk (g := gw)) rfl) rfl ta3 hwd.2.2.1) ?_
      refine s_run (w_none rfl) rfl (d_lt rfl rfl rfl) ?_
      refine l_nil ?_
      refine k_cond rfl (fun hc49 => ?_) (fun hc49 => ?_)
      · first | (replace hc49 := of_decide_eq_true hc49) | simp at hc49
        refine k_skip ?_
        refine k_seq ?_
        refine k_block ?_
        refine k_region ?_
        refine s_run (w_none rfl) rfl (mv_s rfl rfl) ?_
        refine s_run (w_none rfl) rfl (mv_i rfl rfl) ?_
        refine s_run (w_none rfl) rfl (mv_i rfl rfl) ?_
        refine s_run (w_none rfl) rfl (d_mul rfl rfl rfl (by omega)) ?_
        refine s_run (w_none rfl) rfl (d_conv rfl rfl (by rw [tu3]; rfl) tu26 (IntWalk.u64_in _ (by omega))) ?_
        refine s_run (w_none rfl) rfl (d_shr rfl rfl rfl (m := 8 * k) rfl (by show 8 * k ≤ 64; omega)) ?_
        refine s_run (w_none rfl) rfl (d_conv rfl rfl (by rw [tu22]; rfl) tu5 (u8_eq (shr_le u k))) ?_
        refine s_eff (e_bsl (xs := [.tmp 58]) (vals := [.int .u8 _]) (vs := [.int .u8 _]) (w_none rfl) rfl rfl rfl rfl rfl rfl tu23 ts5 ty5 rfl rfl rfl H ?_)
        clear H; intro g13_7 W H
        refine s_eff (e_app (w_none rfl) rfl rfl tu23 tx5 rfl rfl rfl H (rd_blk H.blk rfl) (rfl) (by omega) rfl ?_)
        clear H; intro A2 c2 W hc2 hd2 H
        replace H := H.drop
        refine s_run (w_none rfl) rfl (as_s rfl rfl) ?_
        refine l_nil ?_
        refine k_nil ?_
        refine b_end ?_
        refine k_region ?_
        refine s_run (w_none rfl) rfl (mv_i rfl rfl) ?_
        refine s_run (w_none rfl) rfl (d_add rfl rfl rfl (by omega)) ?_
        refine s_run (w_none rfl) rfl (as_i rfl rfl) ?_
        refine l_nil ?_
        refine k_nil ?_
        refine k_next ?_
        refine ⟨_, _, _, ?_, rfl, ?_, ?_, ⟨k + 1, A2, c2, rfl, rfl, by omega, ⟨by omega, hd2⟩, by rw [Pk.le_succ, ← List.cons_append, List.map_append]; exact H⟩⟩
        · omega
        · repeat (first | ((with_reducible refine Eqo.updl _ Eqo.ovr ?_); exact rfl) | ((with_reducible refine Eqo.updl _ (Eqo.ovr2 ?_ ?_) ?_); rotate_left; exact rfl; exact rfl) | ((with_reducible refine Eqo.upd ?_ ?_); rotate_left; exact rfl))
        · refine ⟨?_, ?_, trivial⟩
          · exact vi (by omega)
          · exact rfl
      · first | (replace hc49 := of_decide_eq_false hc49) | simp at hc49
        refine k_exit ?_
        refine x_then (x_then ?_)
        refine x_hit ?_
        refine k_seq ?_
        obtain rfl : k = wd i := by omega
        refine k_region ?_
        refine s_run (w_none rfl) rfl (mv_s rfl rfl) ?_
        refine s_eff (e_call (w_none rfl) rfl rfl Tryd.func19 rfl rfl rfl (prgRead (l := (ah i :: Pk.le u (wd i))) _ (H.rowbs (A := B2) (by simp [Pk.len_le])) (by simp [Pk.len_le]; omega)) ?_)
        rintro _ W ⟨r3, A3, c3, rfl, hS⟩
        replace H := H.add hS
        clear hS
        simp only [List.cons_append, List.nil_append] at H
        refine s_run (w_none rfl) rfl (as_p rfl rfl) ?_
        refine l_nil ?_
        refine k_seq ?_
        refine k_region ?_
        refine s_run (w_none rfl) rfl (mv_p rfl rfl) ?_
        refine s_eff (e_call (w_none rfl) rfl rfl Tryd.func20 rfl rfl rfl (prgInt _ (H.get (f := RdP 5 96 r3 A3 (ah i :: Pk.le u (wd i)).length c3 ((ah i :: Pk.le u (wd i)), 0))) ⟨fun h => absurd rfl h, by simp, by simp⟩ (H.gat hG) (H.away (f := RdP 5 96 r3 A3 (ah i :: Pk.le u (wd i)).length c3 ((ah i :: Pk.le u (wd i)), 0)) hG.1)) ?_)
        rintro _ W ⟨rfl, hp, hf⟩
        replace H := H.mut (f := RdP 5 96 r3 A3 (ah i :: Pk.le u (wd i)).length c3 ((ah i :: Pk.le u (wd i)), 0)) (f' := RdP 5 96 r3 A3 (ah i :: Pk.le u (wd i)).length c3 (Pk.rInt ((ah i :: Pk.le u (wd i)), 0)).2) hf hp (fun _ h => h)
        clear hp hf
        refine s_run (w_none rfl) rfl (as_i rfl rfl) ?_
        refine l_nil ?_
        refine k_seq ?_
        refine k_region ?_
        refine s_run (w_none rfl) rfl (as_i rfl rfl) ?_
        refine l_nil ?_
        refine k_seq ?_
        refine k_seq ?_
        refine k_region ?_
        refine s_run (w_none rfl) rfl (mv_i rfl rfl) ?_
        refine s_run (w_none rfl) rfl (d_lt rfl rfl rfl) ?_
        refine l_nil ?_
        refine k_cond rfl (fun hc66 => ?_) (fun hc66 => ?_)
        · first | (replace hc66 := of_decide_eq_true hc66) | simp at hc66
          refine k_region ?_
          refine s_run (w_none rfl) rfl (as_i rfl rfl) ?_
          refine l_nil ?_
          have hr := form_read hi3 huq
          rw [if_pos (hneg (by omega))] at hr
          rw [hr] at H ⊢
          refine k_seq ?_
          refine k_region ?_
          refine s_run (w_none rfl) rfl (mv_p rfl rfl) ?_
          refine s_eff (e_call (w_none rfl) rfl rfl Tryd.func21 rfl rfl rfl (prgEnd _ (H.get (f := RdP 5 96 r3 A3 (ah i :: Pk.le u (wd i)).length c3 ([], 15)))) ?_)
          rintro _ W ⟨rfl, hb⟩
          replace H := H.below hb
          clear hb
          refine s_run (w_none rfl) rfl (mv_i rfl rfl) ?_
          refine s_run (w_none rfl) rfl (d_ne rfl rfl rfl) ?_
          refine s_run (w_none rfl) rfl (mv_bx (c := false) rfl rfl (by decide)) ?_
          refine s_run (w_g rfl rfl rfl rfl) rfl (mv_i rfl rfl) ?_
          refine s_run (w_g rfl rfl rfl rfl) rfl (d_eq rfl rfl rfl) ?_
          refine s_run (w_g rfl rfl rfl rfl) rfl (mv_bx (c := false) rfl rfl (by decide)) ?_
          refine s_skip (w_gno rfl rfl rfl rfl rfl) rfl ?_
          refine s_skip (w_gno rfl rfl rfl rfl rfl) rfl ?_
          refine s_skip (w_gno rfl rfl rfl rfl rfl) rfl ?_
          refine s_skip (w_gno rfl rfl rfl rfl rfl) rfl ?_
          refine s_skip (w_gu rfl rfl rfl rfl rfl) rfl ?_
          refine s_skip (w_gu rfl rfl rfl rfl rfl) rfl ?_
          refine s_skip (w_gu rfl rfl rfl rfl rfl) rfl ?_
          refine s_skip (w_gu rfl rfl rfl rfl rfl) rfl ?_
          refine s_skip (w_gno rfl rfl rfl rfl rfl) rfl ?_
          refine s_run (w_g rfl rfl rfl rfl) rfl (d_pickF rfl rfl rfl) ?_
          refine s_run (w_none rfl) rfl (d_pickF rfl rfl rfl) ?_
          refine s_run (w_none rfl) rfl (mv_bx (c := false) rfl rfl (rfl)) ?_
          refine s_run (w_g rfl rfl rfl rfl) rfl (mv_i rfl rfl) ?_
          refine s_run (w_g rfl rfl rfl rfl) rfl (d_ne rfl rfl rfl) ?_
          refine s_run (w_g rfl rfl rfl rfl) rfl (mv_bx (c := true) rfl rfl (by decide)) ?_
          refine s_run (w_g rfl rfl rfl rfl) rfl (mv_i rfl rfl) ?_
          refine s_run (w_g rfl rfl rfl rfl) rfl (d_ne rfl rfl rfl) ?_
          refine s_run (w_g rfl rfl rfl rfl) rfl (d_pickT rfl rfl rfl) ?_
          refine s_run (w_none rfl) rfl (d_pickF rfl rfl rfl) ?_
          refine l_nil ?_
          refine k_condF rfl (by first | (simp; done) | (simp; omega)) ?_
          refine k_skip ?_
          refine k_nil ?_
          refine b_end ?_
          refine k_region ?_
          refine s_run (w_none rfl) rfl (mv_i rfl rfl) ?_
          refine s_run (w_none rfl) rfl (d_add rfl rfl rfl (by omega)) ?_
          refine s_run (w_none rfl) rfl (as_i rfl rfl) ?_
          refine l_nil ?_
          refine k_nil ?_
          refine k_next ?_
          refine ⟨_, _, _, ?_, rfl, ?_, ?_, ⟨i + 1, rfl, rfl, by omega, H.sub (by repeat (first | exact List.Sublist.refl _ | refine List.Sublist.cons_cons _ ?_ | refine List.Sublist.cons _ ?_))⟩⟩
          · omega
          · repeat (first | ((with_reducible refine Eqo.updl _ Eqo.ovr ?_); exact rfl) | ((with_reducible refine Eqo.updl _ (Eqo.ovr2 ?_ ?_) ?_); rotate_left; exact rfl; exact rfl) | ((with_reducible refine Eqo.upd ?_ ?_); rotate_left; exact rfl))
          · refine ⟨?_, trivial⟩
            · exact vi (by omega)
        · first | (replace hc66 := of_decide_eq_false hc66) | simp at hc66
          refine k_seq ?_
          have h63 : u < 9223372036854775808 := by have := hnu (by omega); omega
          have hfl := form_len hi3 huq h63
          refine k_region ?_
          refine s_run (w_none rfl) rfl (mv_s rfl rfl) ?_
          refine s_run (w_none rfl) rfl (d_len rfl rfl tu23) ?_
          refine s_run (w_none rfl) rfl (mv_s rfl rfl) ?_
          refine s_run (w_none rfl) rfl (d_len rfl rfl tu23) ?_
          refine s_run (w_none rfl) rfl (d_lt rfl rfl rfl) ?_
          refine l_nil ?_
          refine k_cond rfl (fun hc71 => ?_) (fun hc71 => ?_)
          · replace hc71 := of_decide_eq_true hc71
            refine k_region ?_
            refine s_run (w_none rfl) rfl (as_i rfl rfl) ?_
            refine l_nil ?_
            have hr := form_read hi3 huq
            rw [if_neg (by omega), if_pos (hfl.1 (by omega))] at hr
            rw [hr] at H ⊢
            refine k_seq ?_
            refine k_region ?_
            refine s_run (w_none rfl) rfl (mv_p rfl rfl) ?_
            refine s_eff (e_call (w_none rfl) rfl rfl Tryd.func21 rfl rfl rfl (prgEnd _ (H.get (f := RdP 5 96 r3 A3 (ah i :: Pk.le u (wd i)).length c3 ([], 10)))) ?_)
            rintro _ W ⟨rfl, hb⟩
            replace H := H.below hb
            clear hb
            refine s_run (w_none rfl) rfl (mv_i rfl rfl) ?_
            refine s_run (w_none rfl) rfl (d_ne rfl rfl rfl) ?_
            refine s_run (w_none rfl) rfl (mv_bx (c := false) rfl rfl (by decide)) ?_
            refine s_run (w_g rfl rfl rfl rfl) rfl (mv_i rfl rfl) ?_
            refine s_run (w_g rfl rfl rfl rfl) rfl (d_eq rfl rfl rfl) ?_
            refine s_run (w_g rfl rfl rfl rfl) rfl (mv_bx (c := false) rfl rfl (by decide)) ?_
            refine s_skip (w_gno rfl rfl rfl rfl rfl) rfl ?_
            refine s_skip (w_gno rfl rfl rfl rfl rfl) rfl ?_
            refine s_skip (w_gno rfl rfl rfl rfl rfl) rfl ?_
            refine s_skip (w_gno rfl rfl rfl rfl rfl) rfl ?_
            refine s_skip (w_gu rfl rfl rfl rfl rfl) rfl ?_
            refine s_skip (w_gu rfl rfl rfl rfl rfl) rfl ?_
            refine s_skip (w_gu rfl rfl rfl rfl rfl) rfl ?_
            refine s_skip (w_gu rfl rfl rfl rfl rfl) rfl ?_
            refine s_skip (w_gno rfl rfl rfl rfl rfl) rfl ?_
            refine s_run (w_g rfl rfl rfl rfl) rfl (d_pickF rfl rfl rfl) ?_
            refine s_run (w_none rfl) rfl (d_pickF rfl rfl rfl) ?_
            refine s_run (w_none rfl) rfl (mv_bx (c := false) rfl rfl (rfl)) ?_
            refine s_run (w_g rfl rfl rfl rfl) rfl (mv_i rfl rfl) ?_
            refine s_run (w_g rfl rfl rfl rfl) rfl (d_ne rfl rfl rfl) ?_
            refine s_run (w_g rfl rfl rfl rfl) rfl (mv_bx (c := true) rfl rfl (by decide)) ?_
            refine s_run (w_g rfl rfl rfl rfl) rfl (mv_i rfl rfl) ?_
            refine s_run (w_g rfl rfl rfl rfl) rfl (d_ne rfl rfl rfl) ?_
            refine s_run (w_g rfl rfl rfl rfl) rfl (d_pickT rfl rfl rfl) ?_
            refine s_run (w_none rfl) rfl (d_pickF rfl rfl rfl) ?_
            refine l_nil ?_
            refine k_condF rfl (by first | (simp; done) | (simp; omega)) ?_
            refine k_skip ?_
            refine k_nil ?_
            refine b_end ?_
            refine k_region ?_
            refine s_run (w_none rfl) rfl (mv_i rfl rfl) ?_
            refine s_run (w_none rfl) rfl (d_add rfl rfl rfl (by omega)) ?_
            refine s_run (w_none rfl) rfl (as_i rfl rfl) ?_
            refine l_nil ?_
            refine k_nil ?_
            refine k_next ?_
            refine ⟨_, _, _, ?_, rfl, ?_, ?_, ⟨i + 1, rfl, rfl, by omega, H.sub (by repeat (first | exact List.Sublist.refl _ | refine List.Sublist.cons_cons _ ?_ | refine List.Sublist.cons _ ?_))⟩⟩
            · omega
            · repeat (first | ((with_reducible refine Eqo.updl _ Eqo.ovr ?_); exact rfl) | ((with_reducible refine Eqo.updl _ (Eqo.ovr2 ?_ ?_) ?_); rotate_left; exact rfl; exact rfl) | ((with_reducible refine Eqo.upd ?_ ?_); rotate_left; exact rfl))
            · refine ⟨?_, trivial⟩
              · exact vi (by omega)
          · replace hc71 := of_decide_eq_false hc71
            have hnl : ¬ u < Pk.least (ah i) := fun h => by have := hfl.2 h; omega
            have hown := form_own hi3 huq h63 hnl
            have hr := form_read hi3 huq
            rw [if_neg (by omega), if_neg hnl] at hr
            rw [hr] at H ⊢
            refine k_skip ?_
            refine k_seq ?_
            refine k_region ?_
            refine s_run (w_none rfl) rfl (mv_p rfl rfl) ?_
            refine s_eff (e_call (w_none rfl) rfl rfl Tryd.func21 rfl rfl rfl (prgEnd _ (H.get (f := RdP 5 96 r3 A3 (ah i :: Pk.le u (wd i)).length c3 ([], 0)))) ?_)
            rintro _ W ⟨rfl, hb⟩
            replace H := H.below hb
            clear hb
            refine s_run (w_none rfl) rfl (mv_i rfl rfl) ?_
            refine s_run (w_none rfl) rfl (d_ne rfl rfl rfl) ?_
            refine s_run (w_none rfl) rfl (mv_bx (c := false) rfl rfl (by decide)) ?_
            refine s_run (w_g rfl rfl rfl rfl) rfl (mv_i rfl rfl) ?_
            refine s_run (w_g rfl rfl rfl rfl) rfl (d_eq rfl rfl rfl) ?_
            refine s_run (w_g rfl rfl rfl rfl) rfl (mv_bx (c := true) rfl rfl (by decide)) ?_
            refine s_run (w_g rfl rfl rfl rfl) rfl (mv_i rfl rfl) ?_
            refine s_run (w_g rfl rfl rfl rfl) rfl (mv_i rfl rfl) ?_
            refine s_run (w_g rfl rfl rfl rfl) rfl (d_ne rfl rfl rfl) ?_
            refine s_run (w_g rfl rfl rfl rfl) rfl (mv_bx (c := false) rfl rfl (by rw [hnu (by omega)]; simp)) ?_
            refine s_run (w_g rfl rfl rfl rfl) rfl (mv_s rfl rfl) ?_
            refine s_run (w_g rfl rfl rfl rfl) rfl (mv_s rfl rfl) ?_
            refine s_eff (e_call (w_g rfl rfl rfl rfl) rfl rfl Tryd.func22 rfl rfl rfl (sameBytes _ _ (Pk.int u) (ah i :: Pk.le u (wd i)) _ (H.rowbs (A := A1) rfl) (H.rowbs (A := B2) (by simp [Pk.len_le]))) ?_)
            rw [decide_eq_true hown]
            rintro _ W ⟨rfl, hb⟩
            replace H := H.below hb
            clear hb
            refine s_run (w_g rfl rfl rfl rfl) rfl (d_not rfl rfl) ?_
            refine s_run (w_g rfl rfl rfl rfl) rfl (d_pickF rfl rfl rfl) ?_
            refine s_run (w_g rfl rfl rfl rfl) rfl (d_pickT rfl rfl rfl) ?_
            refine s_run (w_none rfl) rfl (d_pickF rfl rfl rfl) ?_
            refine s_run (w_none rfl) rfl (mv_bx (c := false) rfl rfl (rfl)) ?_
            refine s_run (w_g rfl rfl rfl rfl) rfl (mv_i rfl rfl) ?_
            refine s_run (w_g rfl rfl rfl rfl) rfl (d_ne rfl rfl rfl) ?_
            refine s_run (w_g rfl rfl rfl rfl) rfl (mv_bx (c := false) rfl rfl (by decide)) ?_
            refine s_skip (w_gno rfl rfl rfl rfl rfl) rfl ?_
            refine s_skip (w_gno rfl rfl rfl rfl rfl) rfl ?_
            refine s_run (w_g rfl rfl rfl rfl) rfl (d_pickF rfl rfl rfl) ?_
            refine s_run (w_none rfl) rfl (d_pickF rfl rfl rfl) ?_
            refine l_nil ?_
            refine k_condF rfl (by first | (simp; done) | (simp; omega)) ?_
            refine k_skip ?_
            refine k_nil ?_
            refine b_end ?_
            refine k_region ?_
            refine s_run (w_none rfl) rfl (mv_i rfl rfl) ?_
            refine s_run (w_none rfl) rfl (d_add rfl rfl rfl (by omega)) ?_
            refine s_run (w_none rfl) rfl (as_i rfl rfl) ?_
            refine l_nil ?_
            refine k_nil ?_
            refine k_next ?_
            refine ⟨_, _, _, ?_, rfl, ?_, ?_, ⟨i + 1, rfl, rfl, by omega, H.sub (by repeat (first | exact List.Sublist.refl _ | refine List.Sublist.cons_cons _ ?_ | refine List.Sublist.cons _ ?_))⟩⟩
            · omega
            · repeat (first | ((with_reducible refine Eqo.updl _ Eqo.ovr ?_); exact rfl) | ((with_reducible refine Eqo.updl _ (Eqo.ovr2 ?_ ?_) ?_); rotate_left; exact rfl; exact rfl) | ((with_reducible refine Eqo.upd ?_ ?_); rotate_left; exact rfl))
            · refine ⟨?_, trivial⟩
              · exact vi (by omega)
  · replace hc20 := of_decide_eq_false hc20
    refine k_exit ?_
    refine x_then (x_then ?_)
    refine x_hit ?_
    refine k_seq ?_
    refine k_seq ?_
    rcases Int.lt_or_le n 0 with h0 | h0
    · have := hneg h0
      refine k_region ?_
      refine s_run (w_none rfl) rfl (mv_i rfl rfl) ?_
      refine s_run (w_none rfl) rfl (d_ge rfl rfl rfl) ?_
      refine s_run (w_none rfl) rfl (mv_bx (c := false) rfl rfl (by simp; omega)) ?_
      refine s_skip (w_gno rfl rfl rfl rfl rfl) rfl ?_
      refine s_skip (w_gno rfl rfl rfl rfl rfl) rfl ?_
      refine s_run (w_none rfl) rfl (d_pickF rfl rfl rfl) ?_
      refine l_nil ?_
      refine k_condF rfl (by first | (simp; done) | (simp; omega)) ?_
      refine k_skip ?_
      refine k_seq ?_
      refine k_region ?_
      refine s_run (w_none rfl) rfl (mv_s rfl rfl) ?_
      refine s_run (w_none rfl) rfl (d_len rfl rfl tu23) ?_
      refine s_run (w_none rfl) rfl (d_gt rfl rfl rfl) ?_
      refine s_run (w_none rfl) rfl (mv_bx (c := true) rfl rfl (by have := int_more (u := u) (by omega); simp; omega)) ?_
      refine s_eff (e_call (w_g rfl rfl rfl rfl) rfl rfl Tryd.func23 rfl rfl rfl (works03 _ (H.gat hG)) ?_)
      rintro _ W ⟨rfl, hb⟩
      replace H := H.below hb
      clear hb
      refine s_run (w_none rfl) rfl (d_pickT rfl rfl rfl) ?_
      refine s_run (w_none rfl) rfl (as_b rfl rfl) ?_
      refine l_nil ?_
      refine k_ret ?_
      repeat (first | refine r_then ?_ | refine r_blk ?_)
      exact q_ret (v := .bool _) rfl rfl ⟨_, rfl, rfl, H.under⟩
    · have := hnu h0
      refine k_region ?_
      refine s_run (w_none rfl) rfl (mv_i rfl rfl) ?_
      refine s_run (w_none rfl) rfl (d_ge rfl rfl rfl) ?_
      refine s_run (w_none rfl) rfl (mv_bx (c := true) rfl rfl (by simp; omega)) ?_
      refine s_run (w_g rfl rfl rfl rfl) rfl (mv_i rfl rfl) ?_
      refine s_run (w_g rfl rfl rfl rfl) rfl (d_lt rfl rfl rfl) ?_
      refine s_run (w_none rfl) rfl (d_pickT rfl rfl rfl) ?_
      refine l_nil ?_
      refine k_cond rfl (fun hc104 => ?_) (fun hc104 => ?_)
      · first | (replace hc104 := of_decide_eq_true hc104) | simp at hc104
        refine k_seq ?_
        refine k_region ?_
        refine s_run (w_none rfl) rfl (mv_s rfl rfl) ?_
        refine s_run (w_none rfl) rfl (mv_i rfl rfl) ?_
        refine s_run (w_none rfl) rfl (d_conv rfl rfl (by rw [tu3]; rfl) tu5 (u8_eq (n := u) (by omega))) ?_
        refine s_eff (e_bsl (xs := [.tmp 107]) (vals := [.int .u8 _]) (vs := [.int .u8 _]) (w_none rfl) rfl rfl rfl rfl rfl rfl tu23 ts5 ty5 rfl rfl rfl H ?_)
        clear H; intro gz W H
        refine s_eff (e_call (w_none rfl) rfl rfl Tryd.func22 rfl rfl rfl (sameBytes _ _ (Pk.int u) [UInt8.ofNat u] _ (H.rowbs (A := A1) rfl) (Bs.mk (S := (· = gz)) (l := [UInt8.ofNat u]) (rd_blk (H.blk (g := gz)) rfl) (by decide) (by decide))) ?_)
        rw [decide_eq_true (Pk.int_1 (by omega))]
        rintro _ W ⟨rfl, hb⟩
        replace H := H.below hb
        clear hb
        refine s_run (w_none rfl) rfl (mv_bx (c := true) rfl rfl (rfl)) ?_
        refine s_eff (e_call (w_g rfl rfl rfl rfl) rfl rfl Tryd.func23 rfl rfl rfl (works03 _ (H.gat hG)) ?_)
        rintro _ W ⟨rfl, hb⟩
        replace H := H.below hb
        clear hb
        refine s_run (w_none rfl) rfl (d_pickT rfl rfl rfl) ?_
        refine s_run (w_none rfl) rfl (as_b rfl rfl) ?_
        refine l_nil ?_
        refine k_ret ?_
        repeat (first | refine r_then ?_ | refine r_blk ?_)
        exact q_ret (v := .bool _) rfl rfl ⟨_, rfl, rfl, H.under⟩
      · first | (replace hc104 := of_decide_eq_false hc104) | simp at hc104
        refine k_skip ?_
        refine k_seq ?_
        refine k_region ?_
        refine s_run (w_none rfl) rfl (mv_s rfl rfl) ?_
        refine s_run (w_none rfl) rfl (d_len rfl rfl tu23) ?_
        refine s_run (w_none rfl) rfl (d_gt rfl rfl rfl) ?_
        refine s_run (w_none rfl) rfl (mv_bx (c := true) rfl rfl (by have := int_more (u := u) (by omega); simp; omega)) ?_
        refine s_eff (e_call (w_g rfl rfl rfl rfl) rfl rfl Tryd.func23 rfl rfl rfl (works03 _ (H.gat hG)) ?_)
        rintro _ W ⟨rfl, hb⟩
        replace H := H.below hb
        clear hb
        refine s_run (w_none rfl) rfl (d_pickT rfl rfl rfl) ?_
        refine s_run (w_none rfl) rfl (as_b rfl rfl) ?_
        refine l_nil ?_
        refine k_ret ?_
        repeat (first | refine r_then ?_ | refine r_blk ?_)
        exact q_ret (v := .bool _) rfl rfl ⟨_, rfl, rfl, H.under⟩
end Go.Proofs.YtejaohlijaodjaaDoor
