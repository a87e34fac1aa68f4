/- Texts of this claim, laid together: K34, F7. -/
import Derived.Test.YtejaohlijaodjaaDoorMM
import Derived.Test.YtejaohlijaodjaaDoorMC
set_option linter.unusedVariables false
set_option linter.unusedSimpArgs false

namespace Go.Proofs.YtejaohlijaodjaaDoor
open Go Go.RowKit
attribute [local irreducible] wpList

namespace Mg
def ks : List Int := [-9223372036854775808, -1, 0, 1, 2, 3, 4, 24, 25, 1073741824, 1073741825, 1125899906842624, 1125899906842625, 9223372036854775807]
theorem ks_get {i : Nat} (h : i < 14) : (ks.map (Value.int .i64))[i * 1]? = some (.int .i64 (ks.getD i 0)) := by
  rw [Nat.mul_one, List.getElem?_map, List.getD_eq_getElem?_getD]
  have : i < ks.length := h
  rw [List.getElem?_eq_getElem this]; rfl
theorem ks_ok {i : Nat} (h : i < 14) : -9223372036854775808 ≤ ks.getD i 0 ∧ ks.getD i 0 ≤ 9223372036854775807 := by
  have : ∀ i : Fin 14, -9223372036854775808 ≤ ks.getD i.1 0 ∧ ks.getD i.1 0 ≤ 9223372036854775807 := by decide
  exact this ⟨i, h⟩
abbrev z3 : List UInt8 := 0 :: 0 :: 0 :: 1 :: List.replicate 28 0
theorem mget_any {S : Nat → Prop} {v : Value} {b : List UInt8} (w : World) (hG : Gat w 0 formsC) (hb : Bs w S v b) : Calls Tryd.prog 14 [v].toArray w (Ret (Is w (.bool true))) := by
  rcases Nat.lt_or_ge 4096 b.length with h | h
  · exact messageGetsA w hG hb h
  · exact messageGetsB w hG hb h
theorem shl8 {j : Nat} (h : j < 8) : IntKind.wrap .u8 (1 * 2 ^ j) = ((UInt8.ofNat (2 ^ j)).toNat : Int) := by
  have : ∀ j : Fin 8, IntKind.wrap .u8 (1 * 2 ^ j.1) = ((UInt8.ofNat (2 ^ j.1)).toNat : Int) := by decide
  exact this ⟨j, h⟩
theorem xor8 {t : TypeId} {a b : UInt8} : binOp .xor t (.int .u8 (a.toNat : Int)) (.int .u8 (b.toNat : Int)) = pure (.int .u8 ((a ^^^ b).toNat : Int)) := by
  have e : bits .xor .u8 (a.toNat : Int) (b.toNat : Int) = ((a ^^^ b).toNat : Int) := by
    rw [u8_xor_nat _ _ a.toNat_lt b.toNat_lt, UInt8.toNat_xor]
  show Op.intBits .xor .u8 _ _ = _
  rw [intBits_xor, e]
def R64 (x : Int) : Prop := -9223372036854775808 ≤ x ∧ x ≤ 9223372036854775807
theorem mkOk {k i c a b d e f u : Int} {h : List UInt8} (hk : R64 k) (hi : R64 i) (hc : R64 c) (h1 : R64 a) (h2 : R64 b) (h3 : R64 d) (h4 : R64 e) (h5 : R64 f) (h6 : R64 u) (hh : h.length = 32) : Ok ⟨k, i, c, ⟨a, b, d⟩, ⟨e, f, u⟩, h⟩ := ⟨hk, hi, hc, ⟨h1, h2, h3⟩, ⟨h4, h5, h6⟩, hh⟩
theorem add0 {A : Option Addr} : A = A.map (·.add 0) := by cases A <;> rfl
theorem u8_in {i : Nat} (h : i < 256) : IntKind.wrap .u8 (i : Int) = ((UInt8.ofNat i).toNat : Int) := u8_eq (n := i) rfl
end Mg

set_option maxHeartbeats 4000000 in
theorem messageKnown (w : World)  (hG : Gat w 0 formsC) : Calls Tryd.prog 17 [].toArray w (Ret (Is w (.bool true))) := by
  refine k_enter (l := []) Tryd.func17 rfl rfl ?_
  have H := St.start nT w
  refine k_seq ?_
  refine k_region ?_
  refine s_run (w_none rfl) rfl (as_b rfl rfl) ?_
  refine l_nil ?_
  refine k_seq ?_
  refine k_region ?_
  refine s_eff (e_bsl (xs := [.const (.int .i64 (-9223372036854775808)), .const (.int .i64 (-1)), .const (.int .i64 0), .const (.int .i64 1), .const (.int .i64 2), .const (.int .i64 3), .const (.int .i64 4), .const (.int .i64 24), .const (.int .i64 25), .const (.int .i64 1073741824), .const (.int .i64 1073741825), .const (.int .i64 1125899906842624), .const (.int .i64 1125899906842625), .const (.int .i64 9223372036854775807)]) (vals := [.int .i64 _, .int .i64 _, .int .i64 _, .int .i64 _, .int .i64 _, .int .i64 _, .int .i64 _, .int .i64 _, .int .i64 _, .int .i64 _, .int .i64 _, .int .i64 _, .int .i64 _, .int .i64 _]) (vs := [.int .i64 _, .int .i64 _, .int .i64 _, .int .i64 _, .int .i64 _, .int .i64 _, .int .i64 _, .int .i64 _, .int .i64 _, .int .i64 _, .int .i64 _, .int .i64 _, .int .i64 _, .int .i64 _]) (w_none rfl) rfl rfl rfl rfl rfl rfl tu24 ts3 ty3 rfl rfl rfl H ?_)
  clear H; intro gn W H
  replace H : St nT w W [Fact.blk gn (Mg.ks.map (Value.int .i64)) 3] := H
  have h8 : (Mg.put Mg.prop).length = 40 := by rw [Mg.put_prop]; decide
  refine s_run (w_none rfl) rfl (as_s rfl rfl) ?_
  refine l_nil ?_
  refine k_seq ?_
  refine k_seq ?_
  refine k_region ?_
  refine s_run (w_none rfl) rfl (as_i rfl rfl) ?_
  refine l_nil ?_
  refine k_block ?_
  refine k_loop 12 [0, 2, 3, 4, 5] (fun mm sl W => ∃ i : Nat, 14 - i = mm ∧ sl = [(2, .int .i64 (i : Int))] ∧ (i ≤ 14) ∧ St nT w W [Fact.blk gn (Mg.ks.map (Value.int .i64)) 3]) _ _ ⟨0, rfl, rfl, Nat.zero_le _, H⟩ ⟨rfl, trivial⟩ (fun mm sl ρv W hJ => ?_)
  clear H; obtain ⟨i, rfl, rfl, hi, H⟩ := hJ
  refine k_one ?_
  refine k_seq ?_
  refine k_seq ?_
  refine k_region ?_
  refine s_run (w_none rfl) rfl (mv_i rfl rfl) ?_
  refine s_run (w_none rfl) rfl (mv_s rfl rfl) ?_
  refine s_run (w_none rfl) rfl (d_len rfl rfl tu24) ?_
  refine s_run (w_none rfl) rfl (d_lt rfl rfl rfl) ?_
  refine l_nil ?_
  refine k_cond rfl (fun hc15 => ?_) (fun hc15 => ?_)
  · replace hc15 := of_decide_eq_true hc15
    have hi14 : i < 14 := by have : Mg.ks.length = 14 := rfl; simp at hc15; omega
    have hks := Mg.ks_ok hi14
    refine k_skip ?_
    refine k_seq ?_
    refine k_block ?_
    refine k_seq ?_
    refine k_region ?_
    refine s_run (w_none rfl) rfl (as_i rfl rfl) ?_
    refine l_nil ?_
    refine k_block ?_
    refine k_loop 18 [0, 3, 4, 5] (fun mm sl W => ∃ j : Nat, 9 - j = mm ∧ sl = [(3, .int .i64 (j : Int))] ∧ (j ≤ 9) ∧ St nT w W [Fact.blk gn (Mg.ks.map (Value.int .i64)) 3]) _ _ ⟨0, rfl, rfl, Nat.zero_le _, H⟩ ⟨rfl, trivial⟩ (fun mm sl ρv W hJ => ?_)
    clear H; obtain ⟨j, rfl, rfl, hj, H⟩ := hJ
    refine k_one ?_
    refine k_seq ?_
    refine k_seq ?_
    refine k_region ?_
    refine s_run (w_none rfl) rfl (mv_i rfl rfl) ?_
    refine s_run (w_none rfl) rfl (d_lt rfl rfl rfl) ?_
    refine l_nil ?_
    refine k_cond rfl (fun hc19 => ?_) (fun hc19 => ?_)
    · replace hc19 := of_decide_eq_true hc19
      refine k_skip ?_
      refine k_seq ?_
      refine k_block ?_
      refine k_seq ?_
      refine k_region ?_
      refine s_eff (e_call (w_none rfl) rfl rfl Tryd.func68 rfl rfl rfl (propK _) ?_)
      rintro _ W ⟨rfl, hb⟩
      replace H := H.below hb
      clear hb
      refine s_eff (e_alloc (w_none rfl) rfl rfl (msgC Mg.zero) (by kernel_rfl) H ?_)
      clear H; intro g4 W H
      refine s_eff (e_stoK (msgC (⟨1, 1, 0, ⟨0, 5, 100⟩, ⟨2, 4, 50⟩, Mg.z32⟩ : DMessage)) (w_none rfl) rfl rfl rfl rfl rfl ts78 (len_msg List.length_replicate) msg_one H (by rw [len_msg (m := Mg.zero) List.length_replicate]; decide) (spl_all ((len_msg List.length_replicate).trans (len_msg (m := Mg.zero) List.length_replicate).symm)) ?_)
      clear H; intro W H
      refine l_nil ?_
      refine k_seq ?_
      refine k_region ?_
      refine s_run (w_none rfl) rfl (mv_s rfl rfl) ?_
      refine s_run (w_none rfl) rfl (mv_i rfl rfl) ?_
      refine s_run (w_none rfl) rfl (d_iaS rfl (rd_blk (m := 14) (H.blk (g := gn)) rfl) rfl rfl (q := i) rfl hi14 tu24 ts3) ?_
      refine s_run (w_none rfl) rfl (d_ldR0 rfl (rd_blk (m := 14) (H.blk (g := gn)) rfl) rfl ta3 (Mg.ks_get hi14)) ?_
      refine s_run (w_none rfl) rfl (d_build (vs := msgC (⟨3, 7, (Mg.ks.getD i 0), ⟨0, 0, 0⟩, ⟨0, 0, 0⟩, Mg.z32⟩ : DMessage)) rfl (by kernel_rfl)) ?_
      refine s_eff (e_alloc (w_none rfl) rfl rfl (msgC Mg.zero) (by kernel_rfl) H ?_)
      clear H; intro g5 W H
      refine s_eff (e_stoK (msgC (⟨3, 7, (Mg.ks.getD i 0), ⟨0, 0, 0⟩, ⟨0, 0, 0⟩, Mg.z32⟩ : DMessage)) (w_none rfl) rfl rfl rfl rfl rfl ts78 (len_msg List.length_replicate) msg_one H (by rw [len_msg (m := Mg.zero) List.length_replicate]; decide) (spl_all ((len_msg List.length_replicate).trans (len_msg (m := Mg.zero) List.length_replicate).symm)) ?_)
      clear H; intro W H
      refine l_nil ?_
      refine k_seq ?_
      refine k_seq ?_
      refine k_region ?_
      refine s_run (w_none rfl) rfl (mv_i rfl rfl) ?_
      refine l_nil ?_
      refine k_bcut 29 [] (fun sl W => ∃ m1 : DMessage, ∃ m2 : DMessage, sl = [] ∧ (Mg.Ok m1) ∧ (Mg.Ok m2) ∧ St nT w W [Fact.blk g5 (msgC m2) 78, Fact.blk g4 (msgC m1) 78, Fact.blk gn (Mg.ks.map (Value.int .i64)) 3]) ?_ (fun sl ρv W hJ => ?_)
      · skip
        refine k_seq ?_
        refine k_region ?_
        refine s_run (w_none rfl) rfl (d_eq rfl rfl rfl) ?_
        refine s_run (w_none rfl) rfl (as_b rfl rfl) ?_
        refine l_nil ?_
        refine k_cond rfl (fun hc29 => ?_) (fun hc29 => ?_)
        · skip
          refine k_region ?_
          refine s_run (w_none rfl) rfl (mv_s rfl rfl) ?_
          refine s_run (w_none rfl) rfl (mv_i rfl rfl) ?_
          refine s_run (w_none rfl) rfl (d_iaS rfl (rd_blk (m := 14) (H.blk (g := gn)) rfl) rfl rfl (q := i) rfl hi14 tu24 ts3) ?_
          refine s_run (w_none rfl) rfl (d_ldR0 rfl (rd_blk (m := 14) (H.blk (g := gn)) rfl) rfl ta3 (Mg.ks_get hi14)) ?_
          refine s_run (w_none rfl) rfl (d_fa rfl rfl tf78_0) ?_
          refine s_eff (e_stoK (msgC (⟨(Mg.ks.getD i 0), 1, 0, ⟨0, 5, 100⟩, ⟨2, 4, 50⟩, Mg.z32⟩ : DMessage)) (w_none rfl) rfl rfl rfl rfl rfl ts3 rfl rfl H (by rw [len_msg (m := (⟨1, 1, 0, ⟨0, 5, 100⟩, ⟨2, 4, 50⟩, Mg.z32⟩ : DMessage)) (by first | exact List.length_replicate | rfl)]; decide) rfl ?_)
          clear H; intro W H
          refine l_nil ?_
          refine k_nil ?_
          refine b_endc ?_
          refine ⟨_, _, rfl, ?_, ?_, ⟨(⟨(Mg.ks.getD i 0), 1, 0, ⟨0, 5, 100⟩, ⟨2, 4, 50⟩, Mg.z32⟩ : DMessage), (⟨3, 7, (Mg.ks.getD i 0), ⟨0, 0, 0⟩, ⟨0, 0, 0⟩, Mg.z32⟩ : DMessage), rfl, Mg.mkOk hks ⟨by decide, by decide⟩ ⟨by decide, by decide⟩ ⟨by decide, by decide⟩ ⟨by decide, by decide⟩ ⟨by decide, by decide⟩ ⟨by decide, by decide⟩ ⟨by decide, by decide⟩ ⟨by decide, by decide⟩ (by first | exact List.length_replicate | rfl), Mg.mkOk ⟨by decide, by decide⟩ ⟨by decide, by decide⟩ hks ⟨by decide, by decide⟩ ⟨by decide, by decide⟩ ⟨by decide, by decide⟩ ⟨by decide, by decide⟩ ⟨by decide, by decide⟩ ⟨by decide, by decide⟩ (by first | exact List.length_replicate | rfl), H⟩⟩
          · repeat (first | (with_reducible exact Eqo.refl) | ((with_reducible refine Eqo.updl _ (Eqo.ovr2 ?_ ?_) ?_); rotate_left; exact rfl; exact rfl) | ((with_reducible refine Eqo.upd ?_ ?_); rotate_left; exact rfl))
          · exact trivial
        · skip
          refine k_seq ?_
          refine k_region ?_
          refine s_run (w_none rfl) rfl (d_eq rfl rfl rfl) ?_
          refine s_run (w_none rfl) rfl (as_b rfl rfl) ?_
          refine l_nil ?_
          refine k_cond rfl (fun hc36 => ?_) (fun hc36 => ?_)
          · skip
            refine k_seq ?_
            refine k_region ?_
            refine s_run (w_none rfl) rfl (mv_s rfl rfl) ?_
            refine s_run (w_none rfl) rfl (mv_i rfl rfl) ?_
            refine s_run (w_none rfl) rfl (d_iaS rfl (rd_blk (m := 14) (H.blk (g := gn)) rfl) rfl rfl (q := i) rfl hi14 tu24 ts3) ?_
            refine s_run (w_none rfl) rfl (d_ldR0 rfl (rd_blk (m := 14) (H.blk (g := gn)) rfl) rfl ta3 (Mg.ks_get hi14)) ?_
            refine s_run (w_none rfl) rfl (d_fa rfl rfl tf78_1) ?_
            refine s_eff (e_stoK (msgC (⟨1, (Mg.ks.getD i 0), 0, ⟨0, 5, 100⟩, ⟨2, 4, 50⟩, Mg.z32⟩ : DMessage)) (w_none rfl) rfl rfl rfl rfl rfl ts3 rfl rfl H (by rw [len_msg (m := (⟨1, 1, 0, ⟨0, 5, 100⟩, ⟨2, 4, 50⟩, Mg.z32⟩ : DMessage)) (by first | exact List.length_replicate | rfl)]; decide) rfl ?_)
            clear H; intro W H
            refine l_nil ?_
            refine k_region ?_
            refine s_run (w_none rfl) rfl (mv_s rfl rfl) ?_
            refine s_run (w_none rfl) rfl (mv_i rfl rfl) ?_
            refine s_run (w_none rfl) rfl (d_iaS rfl (rd_blk (m := 14) (H.blk (g := gn)) rfl) rfl rfl (q := i) rfl hi14 tu24 ts3) ?_
            refine s_run (w_none rfl) rfl (d_ldR0 rfl (rd_blk (m := 14) (H.blk (g := gn)) rfl) rfl ta3 (Mg.ks_get hi14)) ?_
            refine s_run (w_none rfl) rfl (d_fa rfl rfl tf78_1) ?_
            refine s_eff (e_stoK (msgC (⟨3, (Mg.ks.getD i 0), (Mg.ks.getD i 0), ⟨0, 0, 0⟩, ⟨0, 0, 0⟩, Mg.z32⟩ : DMessage)) (w_none rfl) rfl rfl rfl rfl rfl ts3 rfl rfl H (by rw [len_msg (m := (⟨3, 7, (Mg.ks.getD i 0), ⟨0, 0, 0⟩, ⟨0, 0, 0⟩, Mg.z32⟩ : DMessage)) (by first | exact List.length_replicate | rfl)]; decide) rfl ?_)
            clear H; intro W H
            refine l_nil ?_
            refine k_nil ?_
            refine b_endc ?_
            refine ⟨_, _, rfl, ?_, ?_, ⟨(⟨1, (Mg.ks.getD i 0), 0, ⟨0, 5, 100⟩, ⟨2, 4, 50⟩, Mg.z32⟩ : DMessage), (⟨3, (Mg.ks.getD i 0), (Mg.ks.getD i 0), ⟨0, 0, 0⟩, ⟨0, 0, 0⟩, Mg.z32⟩ : DMessage), rfl, Mg.mkOk ⟨by decide, by decide⟩ hks ⟨by decide, by decide⟩ ⟨by decide, by decide⟩ ⟨by decide, by decide⟩ ⟨by decide, by decide⟩ ⟨by decide, by decide⟩ ⟨by decide, by decide⟩ ⟨by decide, by decide⟩ (by first | exact List.length_replicate | rfl), Mg.mkOk ⟨by decide, by decide⟩ hks hks ⟨by decide, by decide⟩ ⟨by decide, by decide⟩ ⟨by decide, by decide⟩ ⟨by decide, by decide⟩ ⟨by decide, by decide⟩ ⟨by decide, by decide⟩ (by first | exact List.length_replicate | rfl), H⟩⟩
            · repeat (first | (with_reducible exact Eqo.refl) | ((with_reducible refine Eqo.updl _ (Eqo.ovr2 ?_ ?_) ?_); rotate_left; exact rfl; exact rfl) | ((with_reducible refine Eqo.upd ?_ ?_); rotate_left; exact rfl))
            · exact trivial
          · skip
            refine k_seq ?_
            refine k_region ?_
            refine s_run (w_none rfl) rfl (d_eq rfl rfl rfl) ?_
            refine s_run (w_none rfl) rfl (as_b rfl rfl) ?_
            refine l_nil ?_
            refine k_cond rfl (fun hc48 => ?_) (fun hc48 => ?_)
            · skip
              refine k_region ?_
              refine s_run (w_none rfl) rfl (mv_s rfl rfl) ?_
              refine s_run (w_none rfl) rfl (mv_i rfl rfl) ?_
              refine s_run (w_none rfl) rfl (d_iaS rfl (rd_blk (m := 14) (H.blk (g := gn)) rfl) rfl rfl (q := i) rfl hi14 tu24 ts3) ?_
              refine s_run (w_none rfl) rfl (d_ldR0 rfl (rd_blk (m := 14) (H.blk (g := gn)) rfl) rfl ta3 (Mg.ks_get hi14)) ?_
              refine s_run (w_none rfl) rfl (d_fa rfl rfl tf78_2) ?_
              refine s_eff (e_stoK (msgC (⟨1, 1, (Mg.ks.getD i 0), ⟨0, 5, 100⟩, ⟨2, 4, 50⟩, Mg.z32⟩ : DMessage)) (w_none rfl) rfl rfl rfl rfl rfl ts3 rfl rfl H (by rw [len_msg (m := (⟨1, 1, 0, ⟨0, 5, 100⟩, ⟨2, 4, 50⟩, Mg.z32⟩ : DMessage)) (by first | exact List.length_replicate | rfl)]; decide) rfl ?_)
              clear H; intro W H
              refine l_nil ?_
              refine k_nil ?_
              refine b_endc ?_
              refine ⟨_, _, rfl, ?_, ?_, ⟨(⟨1, 1, (Mg.ks.getD i 0), ⟨0, 5, 100⟩, ⟨2, 4, 50⟩, Mg.z32⟩ : DMessage), (⟨3, 7, (Mg.ks.getD i 0), ⟨0, 0, 0⟩, ⟨0, 0, 0⟩, Mg.z32⟩ : DMessage), rfl, Mg.mkOk ⟨by decide, by decide⟩ ⟨by decide, by decide⟩ hks ⟨by decide, by decide⟩ ⟨by decide, by decide⟩ ⟨by decide, by decide⟩ ⟨by decide, by decide⟩ ⟨by decide, by decide⟩ ⟨by decide, by decide⟩ (by first | exact List.length_replicate | rfl), Mg.mkOk ⟨by decide, by decide⟩ ⟨by decide, by decide⟩ hks ⟨by decide, by decide⟩ ⟨by decide, by decide⟩ ⟨by decide, by decide⟩ ⟨by decide, by decide⟩ ⟨by decide, by decide⟩ ⟨by decide, by decide⟩ (by first | exact List.length_replicate | rfl), H⟩⟩
              · repeat (first | (with_reducible exact Eqo.refl) | ((with_reducible refine Eqo.updl _ (Eqo.ovr2 ?_ ?_) ?_); rotate_left; exact rfl; exact rfl) | ((with_reducible refine Eqo.upd ?_ ?_); rotate_left; exact rfl))
              · exact trivial
            · skip
              refine k_seq ?_
              refine k_region ?_
              refine s_run (w_none rfl) rfl (d_eq rfl rfl rfl) ?_
              refine s_run (w_none rfl) rfl (as_b rfl rfl) ?_
              refine l_nil ?_
              refine k_cond rfl (fun hc55 => ?_) (fun hc55 => ?_)
              · skip
                refine k_seq ?_
                refine k_region ?_
                refine s_run (w_none rfl) rfl (mv_s rfl rfl) ?_
                refine s_run (w_none rfl) rfl (mv_i rfl rfl) ?_
                refine s_run (w_none rfl) rfl (d_iaS rfl (rd_blk (m := 14) (H.blk (g := gn)) rfl) rfl rfl (q := i) rfl hi14 tu24 ts3) ?_
                refine s_run (w_none rfl) rfl (d_ldR0 rfl (rd_blk (m := 14) (H.blk (g := gn)) rfl) rfl ta3 (Mg.ks_get hi14)) ?_
                refine s_run (w_none rfl) rfl (d_fa rfl rfl tf78_3) ?_
                refine s_run (w_none rfl) rfl (d_fa rfl rfl tf76_0) ?_
                refine s_eff (e_stoK (msgC (⟨1, 1, 0, ⟨(Mg.ks.getD i 0), 5, 100⟩, ⟨2, 4, 50⟩, Mg.z32⟩ : DMessage)) (w_none rfl) rfl rfl rfl rfl rfl ts3 rfl rfl H (by rw [len_msg (m := (⟨1, 1, 0, ⟨0, 5, 100⟩, ⟨2, 4, 50⟩, Mg.z32⟩ : DMessage)) (by first | exact List.length_replicate | rfl)]; decide) rfl ?_)
                clear H; intro W H
                refine l_nil ?_
                refine k_region ?_
                refine s_run (w_none rfl) rfl (mv_s rfl rfl) ?_
                refine s_run (w_none rfl) rfl (mv_i rfl rfl) ?_
                refine s_run (w_none rfl) rfl (d_iaS rfl (rd_blk (m := 14) (H.blk (g := gn)) rfl) rfl rfl (q := i) rfl hi14 tu24 ts3) ?_
                refine s_run (w_none rfl) rfl (d_ldR0 rfl (rd_blk (m := 14) (H.blk (g := gn)) rfl) rfl ta3 (Mg.ks_get hi14)) ?_
                refine s_run (w_none rfl) rfl (d_fa rfl rfl tf78_3) ?_
                refine s_run (w_none rfl) rfl (d_fa rfl rfl tf76_0) ?_
                refine s_eff (e_stoK (msgC (⟨3, 7, (Mg.ks.getD i 0), ⟨(Mg.ks.getD i 0), 0, 0⟩, ⟨0, 0, 0⟩, Mg.z32⟩ : DMessage)) (w_none rfl) rfl rfl rfl rfl rfl ts3 rfl rfl H (by rw [len_msg (m := (⟨3, 7, (Mg.ks.getD i 0), ⟨0, 0, 0⟩, ⟨0, 0, 0⟩, Mg.z32⟩ : DMessage)) (by first | exact List.length_replicate | rfl)]; decide) rfl ?_)
                clear H; intro W H
                refine l_nil ?_
                refine k_nil ?_
                refine b_endc ?_
                refine ⟨_, _, rfl, ?_, ?_, ⟨(⟨1, 1, 0, ⟨(Mg.ks.getD i 0), 5, 100⟩, ⟨2, 4, 50⟩, Mg.z32⟩ : DMessage), (⟨3, 7, (Mg.ks.getD i 0), ⟨(Mg.ks.getD i 0), 0, 0⟩, ⟨0, 0, 0⟩, Mg.z32⟩ : DMessage), rfl, Mg.mkOk ⟨by decide, by decide⟩ ⟨by decide, by decide⟩ ⟨by decide, by decide⟩ hks ⟨by decide, by decide⟩ ⟨by decide, by decide⟩ ⟨by decide, by decide⟩ ⟨by decide, by decide⟩ ⟨by decide, by decide⟩ (by first | exact List.length_replicate | rfl), Mg.mkOk ⟨by decide, by decide⟩ ⟨by decide, by decide⟩ hks hks ⟨by decide, by decide⟩ ⟨by decide, by decide⟩ ⟨by decide, by decide⟩ ⟨by decide, by decide⟩ ⟨by decide, by decide⟩ (by first | exact List.length_replicate | rfl), H⟩⟩
                · repeat (first | (with_reducible exact Eqo.refl) | ((with_reducible refine Eqo.updl _ (Eqo.ovr2 ?_ ?_) ?_); rotate_left; exact rfl; exact rfl) | ((with_reducible refine Eqo.upd ?_ ?_); rotate_left; exact rfl))
                · exact trivial
              · skip
                refine k_seq ?_
                refine k_region ?_
                refine s_run (w_none rfl) rfl (d_eq rfl rfl rfl) ?_
                refine s_run (w_none rfl) rfl (as_b rfl rfl) ?_
                refine l_nil ?_
                refine k_cond rfl (fun hc69 => ?_) (fun hc69 => ?_)
                · skip
                  refine k_region ?_
                  refine s_run (w_none rfl) rfl (mv_s rfl rfl) ?_
                  refine s_run (w_none rfl) rfl (mv_i rfl rfl) ?_
                  refine s_run (w_none rfl) rfl (d_iaS rfl (rd_blk (m := 14) (H.blk (g := gn)) rfl) rfl rfl (q := i) rfl hi14 tu24 ts3) ?_
                  refine s_run (w_none rfl) rfl (d_ldR0 rfl (rd_blk (m := 14) (H.blk (g := gn)) rfl) rfl ta3 (Mg.ks_get hi14)) ?_
                  refine s_run (w_none rfl) rfl (d_fa rfl rfl tf78_4) ?_
                  refine s_run (w_none rfl) rfl (d_fa rfl rfl tf76_0) ?_
                  refine s_eff (e_stoK (msgC (⟨1, 1, 0, ⟨0, 5, 100⟩, ⟨(Mg.ks.getD i 0), 4, 50⟩, Mg.z32⟩ : DMessage)) (w_none rfl) rfl rfl rfl rfl rfl ts3 rfl rfl H (by rw [len_msg (m := (⟨1, 1, 0, ⟨0, 5, 100⟩, ⟨2, 4, 50⟩, Mg.z32⟩ : DMessage)) (by first | exact List.length_replicate | rfl)]; decide) rfl ?_)
                  clear H; intro W H
                  refine l_nil ?_
                  refine k_nil ?_
                  refine b_endc ?_
                  refine ⟨_, _, rfl, ?_, ?_, ⟨(⟨1, 1, 0, ⟨0, 5, 100⟩, ⟨(Mg.ks.getD i 0), 4, 50⟩, Mg.z32⟩ : DMessage), (⟨3, 7, (Mg.ks.getD i 0), ⟨0, 0, 0⟩, ⟨0, 0, 0⟩, Mg.z32⟩ : DMessage), rfl, Mg.mkOk ⟨by decide, by decide⟩ ⟨by decide, by decide⟩ ⟨by decide, by decide⟩ ⟨by decide, by decide⟩ ⟨by decide, by decide⟩ ⟨by decide, by decide⟩ hks ⟨by decide, by decide⟩ ⟨by decide, by decide⟩ (by first | exact List.length_replicate | rfl), Mg.mkOk ⟨by decide, by decide⟩ ⟨by decide, by decide⟩ hks ⟨by decide, by decide⟩ ⟨by decide, by decide⟩ ⟨by decide, by decide⟩ ⟨by decide, by decide⟩ ⟨by decide, by decide⟩ ⟨by decide, by decide⟩ (by first | exact List.length_replicate | rfl), H⟩⟩
                  · repeat (first | (with_reducible exact Eqo.refl) | ((with_reducible refine Eqo.updl _ (Eqo.ovr2 ?_ ?_) ?_); rotate_left; exact rfl; exact rfl) | ((with_reducible refine Eqo.upd ?_ ?_); rotate_left; exact rfl))
                  · exact trivial
                · skip
                  refine k_seq ?_
                  refine k_region ?_
                  refine s_run (w_none rfl) rfl (d_eq rfl rfl rfl) ?_
                  refine s_run (w_none rfl) rfl (as_b rfl rfl) ?_
                  refine l_nil ?_
                  refine k_cond rfl (fun hc77 => ?_) (fun hc77 => ?_)
                  · skip
                    refine k_region ?_
                    refine s_run (w_none rfl) rfl (mv_s rfl rfl) ?_
                    refine s_run (w_none rfl) rfl (mv_i rfl rfl) ?_
                    refine s_run (w_none rfl) rfl (d_iaS rfl (rd_blk (m := 14) (H.blk (g := gn)) rfl) rfl rfl (q := i) rfl hi14 tu24 ts3) ?_
                    refine s_run (w_none rfl) rfl (d_ldR0 rfl (rd_blk (m := 14) (H.blk (g := gn)) rfl) rfl ta3 (Mg.ks_get hi14)) ?_
                    refine s_run (w_none rfl) rfl (d_fa rfl rfl tf78_3) ?_
                    refine s_run (w_none rfl) rfl (d_fa rfl rfl tf76_1) ?_
                    refine s_eff (e_stoK (msgC (⟨1, 1, 0, ⟨0, (Mg.ks.getD i 0), 100⟩, ⟨2, 4, 50⟩, Mg.z32⟩ : DMessage)) (w_none rfl) rfl rfl rfl rfl rfl ts3 rfl rfl H (by rw [len_msg (m := (⟨1, 1, 0, ⟨0, 5, 100⟩, ⟨2, 4, 50⟩, Mg.z32⟩ : DMessage)) (by first | exact List.length_replicate | rfl)]; decide) rfl ?_)
                    clear H; intro W H
                    refine l_nil ?_
                    refine k_nil ?_
                    refine b_endc ?_
                    refine ⟨_, _, rfl, ?_, ?_, ⟨(⟨1, 1, 0, ⟨0, (Mg.ks.getD i 0), 100⟩, ⟨2, 4, 50⟩, Mg.z32⟩ : DMessage), (⟨3, 7, (Mg.ks.getD i 0), ⟨0, 0, 0⟩, ⟨0, 0, 0⟩, Mg.z32⟩ : DMessage), rfl, Mg.mkOk ⟨by decide, by decide⟩ ⟨by decide, by decide⟩ ⟨by decide, by decide⟩ ⟨by decide, by decide⟩ hks ⟨by decide, by decide⟩ ⟨by decide, by decide⟩ ⟨by decide, by decide⟩ ⟨by decide, by decide⟩ (by first | exact List.length_replicate | rfl), Mg.mkOk ⟨by decide, by decide⟩ ⟨by decide, by decide⟩ hks ⟨by decide, by decide⟩ ⟨by decide, by decide⟩ ⟨by decide, by decide⟩ ⟨by decide, by decide⟩ ⟨by decide, by decide⟩ ⟨by decide, by decide⟩ (by first | exact List.length_replicate | rfl), H⟩⟩
                    · repeat (first | (with_reducible exact Eqo.refl) | ((with_reducible refine Eqo.updl _ (Eqo.ovr2 ?_ ?_) ?_); rotate_left; exact rfl; exact rfl) | ((with_reducible refine Eqo.upd ?_ ?_); rotate_left; exact rfl))
                    · exact trivial
                  · skip
                    refine k_seq ?_
                    refine k_region ?_
                    refine s_run (w_none rfl) rfl (d_eq rfl rfl rfl) ?_
                    refine s_run (w_none rfl) rfl (as_b rfl rfl) ?_
                    refine l_nil ?_
                    refine k_cond rfl (fun hc85 => ?_) (fun hc85 => ?_)
                    · skip
                      refine k_seq ?_
                      refine k_region ?_
                      refine s_run (w_none rfl) rfl (mv_s rfl rfl) ?_
                      refine s_run (w_none rfl) rfl (mv_i rfl rfl) ?_
                      refine s_run (w_none rfl) rfl (d_iaS rfl (rd_blk (m := 14) (H.blk (g := gn)) rfl) rfl rfl (q := i) rfl hi14 tu24 ts3) ?_
                      refine s_run (w_none rfl) rfl (d_ldR0 rfl (rd_blk (m := 14) (H.blk (g := gn)) rfl) rfl ta3 (Mg.ks_get hi14)) ?_
                      refine s_run (w_none rfl) rfl (d_fa rfl rfl tf78_4) ?_
                      refine s_run (w_none rfl) rfl (d_fa rfl rfl tf76_1) ?_
                      refine s_eff (e_stoK (msgC (⟨1, 1, 0, ⟨0, 5, 100⟩, ⟨2, (Mg.ks.getD i 0), 50⟩, Mg.z32⟩ : DMessage)) (w_none rfl) rfl rfl rfl rfl rfl ts3 rfl rfl H (by rw [len_msg (m := (⟨1, 1, 0, ⟨0, 5, 100⟩, ⟨2, 4, 50⟩, Mg.z32⟩ : DMessage)) (by first | exact List.length_replicate | rfl)]; decide) rfl ?_)
                      clear H; intro W H
                      refine l_nil ?_
                      refine k_region ?_
                      refine s_run (w_none rfl) rfl (d_fa rfl rfl tf78_5) ?_
                      refine s_run (w_none rfl) rfl (d_iaA rfl rfl rfl (q := 3) rfl tu36 (by omega) ts5) ?_
                      refine s_eff (e_stoK (msgC (⟨3, 7, (Mg.ks.getD i 0), ⟨0, 0, 0⟩, ⟨0, 0, 0⟩, Mg.z3⟩ : DMessage)) (w_none rfl) rfl rfl rfl rfl rfl ts5 rfl rfl H (by rw [len_msg (m := (⟨3, 7, (Mg.ks.getD i 0), ⟨0, 0, 0⟩, ⟨0, 0, 0⟩, Mg.z32⟩ : DMessage)) (by first | exact List.length_replicate | rfl)]; decide) rfl ?_)
                      clear H; intro W H
                      refine l_nil ?_
                      refine k_nil ?_
                      refine b_endc ?_
                      refine ⟨_, _, rfl, ?_, ?_, ⟨(⟨1, 1, 0, ⟨0, 5, 100⟩, ⟨2, (Mg.ks.getD i 0), 50⟩, Mg.z32⟩ : DMessage), (⟨3, 7, (Mg.ks.getD i 0), ⟨0, 0, 0⟩, ⟨0, 0, 0⟩, Mg.z3⟩ : DMessage), rfl, Mg.mkOk ⟨by decide, by decide⟩ ⟨by decide, by decide⟩ ⟨by decide, by decide⟩ ⟨by decide, by decide⟩ ⟨by decide, by decide⟩ ⟨by decide, by decide⟩ ⟨by decide, by decide⟩ hks ⟨by decide, by decide⟩ (by first | exact List.length_replicate | rfl), Mg.mkOk ⟨by decide, by decide⟩ ⟨by decide, by decide⟩ hks ⟨by decide, by decide⟩ ⟨by decide, by decide⟩ ⟨by decide, by decide⟩ ⟨by decide, by decide⟩ ⟨by decide, by decide⟩ ⟨by decide, by decide⟩ (by first | exact List.length_replicate | rfl), H⟩⟩
                      · repeat (first | (with_reducible exact Eqo.refl) | ((with_reducible refine Eqo.updl _ (Eqo.ovr2 ?_ ?_) ?_); rotate_left; exact rfl; exact rfl) | ((with_reducible refine Eqo.upd ?_ ?_); rotate_left; exact rfl))
                      · exact trivial
                    · skip
                      refine k_seq ?_
                      refine k_region ?_
                      refine s_run (w_none rfl) rfl (d_eq rfl rfl rfl) ?_
                      refine s_run (w_none rfl) rfl (as_b rfl rfl) ?_
                      refine l_nil ?_
                      refine k_cond rfl (fun hc95 => ?_) (fun hc95 => ?_)
                      · skip
                        refine k_region ?_
                        refine s_run (w_none rfl) rfl (mv_s rfl rfl) ?_
                        refine s_run (w_none rfl) rfl (mv_i rfl rfl) ?_
                        refine s_run (w_none rfl) rfl (d_iaS rfl (rd_blk (m := 14) (H.blk (g := gn)) rfl) rfl rfl (q := i) rfl hi14 tu24 ts3) ?_
                        refine s_run (w_none rfl) rfl (d_ldR0 rfl (rd_blk (m := 14) (H.blk (g := gn)) rfl) rfl ta3 (Mg.ks_get hi14)) ?_
                        refine s_run (w_none rfl) rfl (d_fa rfl rfl tf78_4) ?_
                        refine s_run (w_none rfl) rfl (d_fa rfl rfl tf76_2) ?_
                        refine s_eff (e_stoK (msgC (⟨1, 1, 0, ⟨0, 5, 100⟩, ⟨2, 4, (Mg.ks.getD i 0)⟩, Mg.z32⟩ : DMessage)) (w_none rfl) rfl rfl rfl rfl rfl ts3 rfl rfl H (by rw [len_msg (m := (⟨1, 1, 0, ⟨0, 5, 100⟩, ⟨2, 4, 50⟩, Mg.z32⟩ : DMessage)) (by first | exact List.length_replicate | rfl)]; decide) spl_8 ?_)
                        clear H; intro W H
                        refine l_nil ?_
                        refine k_nil ?_
                        refine b_endc ?_
                        refine ⟨_, _, rfl, ?_, ?_, ⟨(⟨1, 1, 0, ⟨0, 5, 100⟩, ⟨2, 4, (Mg.ks.getD i 0)⟩, Mg.z32⟩ : DMessage), (⟨3, 7, (Mg.ks.getD i 0), ⟨0, 0, 0⟩, ⟨0, 0, 0⟩, Mg.z32⟩ : DMessage), rfl, Mg.mkOk ⟨by decide, by decide⟩ ⟨by decide, by decide⟩ ⟨by decide, by decide⟩ ⟨by decide, by decide⟩ ⟨by decide, by decide⟩ ⟨by decide, by decide⟩ ⟨by decide, by decide⟩ ⟨by decide, by decide⟩ hks (by first | exact List.length_replicate | rfl), Mg.mkOk ⟨by decide, by decide⟩ ⟨by decide, by decide⟩ hks ⟨by decide, by decide⟩ ⟨by decide, by decide⟩ ⟨by decide, by decide⟩ ⟨by decide, by decide⟩ ⟨by decide, by decide⟩ ⟨by decide, by decide⟩ (by first | exact List.length_replicate | rfl), H⟩⟩
                        · repeat (first | (with_reducible exact Eqo.refl) | ((with_reducible refine Eqo.updl _ (Eqo.ovr2 ?_ ?_) ?_); rotate_left; exact rfl; exact rfl) | ((with_reducible refine Eqo.upd ?_ ?_); rotate_left; exact rfl))
                        · exact trivial
                      · skip
                        refine k_seq ?_
                        refine k_region ?_
                        refine s_run (w_none rfl) rfl (d_eq rfl rfl rfl) ?_
                        refine s_run (w_none rfl) rfl (as_b rfl rfl) ?_
                        refine l_nil ?_
                        refine k_cond rfl (fun hc103 => ?_) (fun hc103 => ?_)
                        · skip
                          refine k_seq ?_
                          refine k_region ?_
                          refine s_run (w_none rfl) rfl (d_fa rfl rfl tf78_0) ?_
                          refine s_eff (e_stoK (msgC (⟨2, 1, 0, ⟨0, 5, 100⟩, ⟨2, 4, 50⟩, Mg.z32⟩ : DMessage)) (w_none rfl) rfl rfl rfl rfl rfl ts3 rfl rfl H (by rw [len_msg (m := (⟨1, 1, 0, ⟨0, 5, 100⟩, ⟨2, 4, 50⟩, Mg.z32⟩ : DMessage)) (by first | exact List.length_replicate | rfl)]; decide) rfl ?_)
                          clear H; intro W H
                          refine l_nil ?_
                          refine k_region ?_
                          refine s_run (w_none rfl) rfl (mv_s rfl rfl) ?_
                          refine s_run (w_none rfl) rfl (mv_i rfl rfl) ?_
                          refine s_run (w_none rfl) rfl (d_iaS rfl (rd_blk (m := 14) (H.blk (g := gn)) rfl) rfl rfl (q := i) rfl hi14 tu24 ts3) ?_
                          refine s_run (w_none rfl) rfl (d_ldR0 rfl (rd_blk (m := 14) (H.blk (g := gn)) rfl) rfl ta3 (Mg.ks_get hi14)) ?_
                          refine s_run (w_none rfl) rfl (d_fa rfl rfl tf78_3) ?_
                          refine s_run (w_none rfl) rfl (d_fa rfl rfl tf76_2) ?_
                          refine s_eff (e_stoK (msgC (⟨2, 1, 0, ⟨0, 5, (Mg.ks.getD i 0)⟩, ⟨2, 4, 50⟩, Mg.z32⟩ : DMessage)) (w_none rfl) rfl rfl rfl rfl rfl ts3 rfl rfl H (by rw [len_msg (m := (⟨2, 1, 0, ⟨0, 5, 100⟩, ⟨2, 4, 50⟩, Mg.z32⟩ : DMessage)) (by first | exact List.length_replicate | rfl)]; decide) rfl ?_)
                          clear H; intro W H
                          refine l_nil ?_
                          refine k_nil ?_
                          refine b_endc ?_
                          refine ⟨_, _, rfl, ?_, ?_, ⟨(⟨2, 1, 0, ⟨0, 5, (Mg.ks.getD i 0)⟩, ⟨2, 4, 50⟩, Mg.z32⟩ : DMessage), (⟨3, 7, (Mg.ks.getD i 0), ⟨0, 0, 0⟩, ⟨0, 0, 0⟩, Mg.z32⟩ : DMessage), rfl, Mg.mkOk ⟨by decide, by decide⟩ ⟨by decide, by decide⟩ ⟨by decide, by decide⟩ ⟨by decide, by decide⟩ ⟨by decide, by decide⟩ hks ⟨by decide, by decide⟩ ⟨by decide, by decide⟩ ⟨by decide, by decide⟩ (by first | exact List.length_replicate | rfl), Mg.mkOk ⟨by decide, by decide⟩ ⟨by decide, by decide⟩ hks ⟨by decide, by decide⟩ ⟨by decide, by decide⟩ ⟨by decide, by decide⟩ ⟨by decide, by decide⟩ ⟨by decide, by decide⟩ ⟨by decide, by decide⟩ (by first | exact List.length_replicate | rfl), H⟩⟩
                          · repeat (first | (with_reducible exact Eqo.refl) | ((with_reducible refine Eqo.updl _ (Eqo.ovr2 ?_ ?_) ?_); rotate_left; exact rfl; exact rfl) | ((with_reducible refine Eqo.upd ?_ ?_); rotate_left; exact rfl))
                          · exact trivial
                        · skip
                          refine k_skip ?_
                          refine k_nil ?_
                          refine b_endc ?_
                          refine ⟨_, _, rfl, ?_, ?_, ⟨(⟨1, 1, 0, ⟨0, 5, 100⟩, ⟨2, 4, 50⟩, Mg.z32⟩ : DMessage), (⟨3, 7, (Mg.ks.getD i 0), ⟨0, 0, 0⟩, ⟨0, 0, 0⟩, Mg.z32⟩ : DMessage), rfl, Mg.mkOk ⟨by decide, by decide⟩ ⟨by decide, by decide⟩ ⟨by decide, by decide⟩ ⟨by decide, by decide⟩ ⟨by decide, by decide⟩ ⟨by decide, by decide⟩ ⟨by decide, by decide⟩ ⟨by decide, by decide⟩ ⟨by decide, by decide⟩ (by first | exact List.length_replicate | rfl), Mg.mkOk ⟨by decide, by decide⟩ ⟨by decide, by decide⟩ hks ⟨by decide, by decide⟩ ⟨by decide, by decide⟩ ⟨by decide, by decide⟩ ⟨by decide, by decide⟩ ⟨by decide, by decide⟩ ⟨by decide, by decide⟩ (by first | exact List.length_replicate | rfl), H⟩⟩
                          · repeat (first | (with_reducible exact Eqo.refl) | ((with_reducible refine Eqo.updl _ (Eqo.ovr2 ?_ ?_) ?_); rotate_left; exact rfl; exact rfl) | ((with_reducible refine Eqo.upd ?_ ?_); rotate_left; exact rfl))
                          · exact trivial
      clear H; obtain ⟨m1, m2, rfl, hm1, hm2, H⟩ := hJ
      refine k_seq ?_
      refine k_region ?_
      refine s_run (w_none rfl) rfl (d_ldXM (g := g4) (off := 0) rfl H (sub_all (len_msg hm1.2.2.2.2.2)) (len_msg hm1.2.2.2.2.2) rfl rfl rfl ta78 ts78) ?_
      refine s_eff (e_call (w_none rfl) rfl rfl Tryd.func13 rfl rfl rfl (messagePuts _ (H.gat hG) hm1) ?_)
      rintro _ W ⟨rfl, hb⟩
      replace H := H.below hb
      clear hb
      refine s_run (w_none rfl) rfl (d_not rfl rfl) ?_
      refine s_run (w_none rfl) rfl (mv_bx (c := false) rfl rfl (rfl)) ?_
      refine s_run (w_g rfl rfl rfl rfl) rfl (d_ldXM (g := g5) (off := 0) rfl H (sub_all (len_msg hm2.2.2.2.2.2)) (len_msg hm2.2.2.2.2.2) rfl rfl rfl ta78 ts78) ?_
      refine s_eff (e_call (w_g rfl rfl rfl rfl) rfl rfl Tryd.func13 rfl rfl rfl (messagePuts _ (H.gat hG) hm2) ?_)
      rintro _ W ⟨rfl, hb⟩
      replace H := H.below hb
      clear hb
      refine s_run (w_g rfl rfl rfl rfl) rfl (d_not rfl rfl) ?_
      refine s_run (w_none rfl) rfl (d_pickF rfl rfl rfl) ?_
      refine s_run (w_none rfl) rfl (mv_bx (c := false) rfl rfl (rfl)) ?_
      refine s_run (w_g rfl rfl rfl rfl) rfl (d_ldXM (g := g4) (off := 0) rfl H (sub_all (len_msg hm1.2.2.2.2.2)) (len_msg hm1.2.2.2.2.2) rfl rfl rfl ta78 ts78) ?_
      refine s_eff (e_call (w_g rfl rfl rfl rfl) rfl rfl Tryd.func15 rfl rfl rfl (messageBackB (S := nT) (v := .slice none 0 0) (b := []) _ (H.gat hG) Bs.nil hm1 (by simp)) ?_)
      rintro _ W ⟨rfl, hb⟩
      replace H := H.below hb
      clear hb
      refine s_run (w_g rfl rfl rfl rfl) rfl (d_not rfl rfl) ?_
      refine s_run (w_none rfl) rfl (d_pickF rfl rfl rfl) ?_
      refine s_run (w_none rfl) rfl (mv_bx (c := false) rfl rfl (rfl)) ?_
      refine s_run (w_g rfl rfl rfl rfl) rfl (d_ldXM (g := g4) (off := 0) rfl H (sub_all (len_msg hm1.2.2.2.2.2)) (len_msg hm1.2.2.2.2.2) rfl rfl rfl ta78 ts78) ?_
      refine s_run (w_g rfl rfl rfl rfl) rfl (mv_i rfl rfl) ?_
      refine s_run (w_g rfl rfl rfl rfl) rfl (d_mul rfl rfl rfl (by omega)) ?_
      refine s_eff (e_call (w_g rfl rfl rfl rfl) rfl rfl Tryd.func16 rfl rfl rfl (messageCut (S := nT) (v := .slice none 0 0) (b := []) _ (H.gat hG) Bs.nil hm1) ?_)
      rintro _ W ⟨rfl, hb⟩
      replace H := H.below hb
      clear hb
      refine s_run (w_g rfl rfl rfl rfl) rfl (d_not rfl rfl) ?_
      refine s_run (w_none rfl) rfl (d_pickF rfl rfl rfl) ?_
      refine s_run (w_none rfl) rfl (mv_bx (c := false) rfl rfl (rfl)) ?_
      refine s_run (w_g rfl rfl rfl rfl) rfl (d_ldXM (g := g5) (off := 0) rfl H (sub_all (len_msg hm2.2.2.2.2.2)) (len_msg hm2.2.2.2.2.2) rfl rfl rfl ta78 ts78) ?_
      refine s_run (w_g rfl rfl rfl rfl) rfl (mv_i rfl rfl) ?_
      refine s_eff (e_bsl (xs := [.const (.int .u8 9)]) (vals := [.int .u8 _]) (vs := [.int .u8 _]) (w_g rfl rfl rfl rfl) rfl rfl rfl rfl rfl rfl tu23 ts5 ty5 rfl rfl rfl H ?_)
      clear H; intro g9 W H
      refine s_eff (e_call (w_g rfl rfl rfl rfl) rfl rfl Tryd.func16 rfl rfl rfl (messageCut (b := [9]) _ (H.gat hG) (Bs.mk (S := (· = g9)) (l := [9]) (rd_blk H.blk rfl) (by decide) (by decide)) hm2) ?_)
      rintro _ W ⟨rfl, hb⟩
      replace H := H.below hb
      clear hb
      refine s_run (w_g rfl rfl rfl rfl) rfl (d_not rfl rfl) ?_
      refine s_run (w_none rfl) rfl (d_pickF rfl rfl rfl) ?_
      refine l_nil ?_
      refine k_condF rfl rfl ?_
      refine k_skip ?_
      refine k_nil ?_
      refine b_end ?_
      refine k_region ?_
      refine s_run (w_none rfl) rfl (mv_i rfl rfl) ?_
      refine s_run (w_none rfl) rfl (d_add rfl rfl rfl (by omega)) ?_
      refine s_run (w_none rfl) rfl (as_i rfl rfl) ?_
      refine l_nil ?_
      refine k_nil ?_
      refine k_next ?_
      refine ⟨_, _, _, ?_, rfl, ?_, ?_, ⟨j + 1, rfl, rfl, by omega, H.sub (by repeat (first | exact List.Sublist.refl _ | exact List.nil_sublist _ | refine List.Sublist.cons_cons _ ?_ | refine List.Sublist.cons _ ?_))⟩⟩
      · omega
      · repeat (first | ((with_reducible refine Eqo.updl _ Eqo.ovr ?_); exact rfl) | ((with_reducible refine Eqo.updl _ (Eqo.ovr2 ?_ ?_) ?_); rotate_left; exact rfl; exact rfl) | ((with_reducible refine Eqo.upd ?_ ?_); rotate_left; exact rfl))
      · refine ⟨?_, trivial⟩
        · exact vi (by omega)
    · skip
      refine k_exit ?_
      refine x_then (x_then ?_)
      refine x_hit ?_
      refine k_nil ?_
      refine b_end ?_
      refine k_region ?_
      refine s_run (w_none rfl) rfl (mv_i rfl rfl) ?_
      refine s_run (w_none rfl) rfl (d_add rfl rfl rfl (by omega)) ?_
      refine s_run (w_none rfl) rfl (as_i rfl rfl) ?_
      refine l_nil ?_
      refine k_nil ?_
      refine k_next ?_
      refine ⟨_, _, _, ?_, rfl, ?_, ?_, ⟨i + 1, rfl, rfl, by omega, H.sub (by repeat (first | exact List.Sublist.refl _ | exact List.nil_sublist _ | refine List.Sublist.cons_cons _ ?_ | refine List.Sublist.cons _ ?_))⟩⟩
      · omega
      · repeat (first | ((with_reducible refine Eqo.updl _ Eqo.ovr ?_); exact rfl) | ((with_reducible refine Eqo.updl _ (Eqo.ovr2 ?_ ?_) ?_); rotate_left; exact rfl; exact rfl) | ((with_reducible refine Eqo.upd ?_ ?_); rotate_left; exact rfl))
      · refine ⟨?_, trivial⟩
        · exact vi (by omega)
  · skip
    refine k_exit ?_
    refine x_then (x_then ?_)
    refine x_hit ?_
    refine k_seq ?_
    refine k_region ?_
    refine s_eff (e_call (w_none rfl) rfl rfl Tryd.func68 rfl rfl rfl (propK _) ?_)
    rintro _ W ⟨rfl, hb⟩
    replace H := H.below hb
    clear hb
    refine s_eff (e_call (w_none rfl) rfl rfl Tryd.func59 rfl rfl rfl (putP _ (H.gat hG) Mg.ok_prop) ?_)
    rintro _ W ⟨_, rfl, A6, c6, rfl, hc6, hd6, hn⟩
    replace H := H.new hn
    clear hn
    refine s_run (w_none rfl) rfl (mv_t rfl rfl) ?_
    refine s_run (w_none rfl) rfl (d_ext rfl rfl rfl) ?_
    refine s_run (w_none rfl) rfl (d_ext rfl rfl rfl) ?_
    refine s_run (w_none rfl) rfl (as_s rfl rfl) ?_
    refine s_run (w_none rfl) rfl (as_i rfl rfl) ?_
    refine l_nil ?_
    refine k_seq ?_
    refine k_seq ?_
    refine k_region ?_
    refine s_run (w_none rfl) rfl (as_i rfl rfl) ?_
    refine l_nil ?_
    refine k_block ?_
    refine k_loop 144 [0, 8, 9, 10] (fun mm sl W => ∃ i : Nat, 40 - i = mm ∧ sl = [(8, .int .i64 (i : Int))] ∧ (i ≤ 40) ∧ St nT w W [Fact.row 5 1 (.slice A6 (Mg.put Mg.prop).length c6) (Mg.put Mg.prop).length ((Mg.put Mg.prop).map u8v)]) _ _ ⟨0, rfl, rfl, Nat.zero_le _, H.sub (by repeat (first | exact List.Sublist.refl _ | exact List.nil_sublist _ | refine List.Sublist.cons_cons _ ?_ | refine List.Sublist.cons _ ?_))⟩ ⟨rfl, trivial⟩ (fun mm sl ρv W hJ => ?_)
    clear H; obtain ⟨i, rfl, rfl, hi, H⟩ := hJ
    refine k_one ?_
    refine k_seq ?_
    refine k_seq ?_
    refine k_region ?_
    refine s_run (w_none rfl) rfl (mv_i rfl rfl) ?_
    refine s_run (w_none rfl) rfl (mv_s rfl rfl) ?_
    refine s_run (w_none rfl) rfl (d_len rfl rfl tu23) ?_
    refine s_run (w_none rfl) rfl (d_lt rfl rfl rfl) ?_
    refine l_nil ?_
    refine k_cond rfl (fun hc147 => ?_) (fun hc147 => ?_)
    · replace hc147 := of_decide_eq_true hc147
      have hi40 : i < 40 := by omega
      refine k_skip ?_
      refine k_seq ?_
      refine k_block ?_
      refine k_seq ?_
      refine k_region ?_
      refine s_run (w_none rfl) rfl (as_i rfl rfl) ?_
      refine l_nil ?_
      refine k_block ?_
      refine k_loop 150 [0, 9, 10] (fun mm sl W => ∃ j : Nat, 8 - j = mm ∧ sl = [(9, .int .i64 (j : Int))] ∧ (j ≤ 8) ∧ St nT w W [Fact.row 5 1 (.slice A6 (Mg.put Mg.prop).length c6) (Mg.put Mg.prop).length ((Mg.put Mg.prop).map u8v)]) _ _ ⟨0, rfl, rfl, Nat.zero_le _, H⟩ ⟨rfl, trivial⟩ (fun mm sl ρv W hJ => ?_)
      clear H; obtain ⟨j, rfl, rfl, hj, H⟩ := hJ
      refine k_one ?_
      refine k_seq ?_
      refine k_seq ?_
      refine k_region ?_
      refine s_run (w_none rfl) rfl (mv_i rfl rfl) ?_
      refine s_run (w_none rfl) rfl (d_lt rfl rfl rfl) ?_
      refine l_nil ?_
      refine k_cond rfl (fun hc151 => ?_) (fun hc151 => ?_)
      · replace hc151 := of_decide_eq_true hc151
        have hj8 : j < 8 := by omega
        refine k_skip ?_
        refine k_seq ?_
        refine k_block ?_
        refine k_seq ?_
        refine k_region ?_
        refine s_run (w_none rfl) rfl (mv_s rfl rfl) ?_
        refine s_eff (e_call (w_none rfl) rfl rfl Tryd.func67 rfl rfl rfl (copyBytes _ _ _ (H.rowbs (A := A6) rfl) (by omega)) ?_)
        rintro _ W ⟨A10, c10, rfl, hc10, hd10, hn⟩
        replace H := H.new hn
        clear hn
        refine s_run (w_none rfl) rfl (as_s rfl rfl) ?_
        refine l_nil ?_
        refine k_seq ?_
        refine k_region ?_
        refine s_run (w_none rfl) rfl (mv_s rfl rfl) ?_
        refine s_run (w_none rfl) rfl (mv_i rfl rfl) ?_
        refine s_run (w_none rfl) rfl (mv_s rfl rfl) ?_
        refine s_run (w_none rfl) rfl (mv_i rfl rfl) ?_
        refine s_run (w_none rfl) rfl (d_iaB rfl (H.rowrd (A := A10)) rfl rfl (q := i) rfl (by omega) tu23 ts5) ?_
        refine s_run (w_none rfl) rfl (d_ldB rfl (H.rowrd (A := A10)) (l_get (k := i) (by omega)) rfl ta5) ?_
        refine s_run (w_none rfl) rfl (mv_i rfl rfl) ?_
        refine s_run (w_none rfl) rfl (d_conv rfl rfl (by rw [tu3]; rfl) tu26 (IntWalk.u64_in _ (by omega))) ?_
        refine s_run (w_none rfl) rfl (d_shl rfl rfl rfl (m := j) rfl (by show j ≤ 8; omega) (Mg.shl8 hj8)) ?_
        refine s_run (w_none rfl) rfl (d_bitW rfl rfl rfl Mg.xor8) ?_
        refine s_run (w_none rfl) rfl (d_iaB rfl (H.rowrd (A := A10)) rfl rfl (q := i) rfl (by omega) tu23 ts5) ?_
        refine s_eff (e_stoR (e := 5) (A := A10) (m := (Mg.put Mg.prop).length) (c := c10) (q := 0) (k := i) (w_none rfl) rfl rfl rfl rfl Mg.add0 rfl ts5 rfl H (by omega) ?_)
        clear H; intro W H
        obtain ⟨l2, hl2, hm2⟩ : ∃ l2 : List UInt8, l2.length = (Mg.put Mg.prop).length ∧ ((Mg.put Mg.prop).map u8v).set (0 + i) (u8v ((Mg.put Mg.prop).getD i 0 ^^^ UInt8.ofNat (2 ^ j))) = l2.map u8v := ⟨(Mg.put Mg.prop).set i ((Mg.put Mg.prop).getD i 0 ^^^ UInt8.ofNat (2 ^ j)), by simp, by rw [List.map_set, Nat.zero_add]⟩
        replace H : St nT w W [Fact.row 5 1 (.slice A10 (Mg.put Mg.prop).length c10) (Mg.put Mg.prop).length (((Mg.put Mg.prop).map u8v).set (0 + i) (u8v ((Mg.put Mg.prop).getD i 0 ^^^ UInt8.ofNat (2 ^ j)))), Fact.row 5 1 (.slice A6 (Mg.put Mg.prop).length c6) (Mg.put Mg.prop).length ((Mg.put Mg.prop).map u8v)] := H
        rw [hm2] at H
        refine l_nil ?_
        refine k_seq ?_
        refine k_region ?_
        refine s_run (w_none rfl) rfl (mv_s rfl rfl) ?_
        refine s_eff (e_call (w_none rfl) rfl rfl Tryd.func14 rfl rfl rfl (Mg.mget_any (b := l2) _ (H.gat hG) (H.rowbs (A := A10) hl2)) ?_)
        rintro _ W ⟨rfl, hb⟩
        replace H := H.below hb
        clear hb
        refine s_run (w_none rfl) rfl (d_not rfl rfl) ?_
        refine s_run (w_none rfl) rfl (mv_bx (c := false) rfl rfl (rfl)) ?_
        refine s_run (w_g rfl rfl rfl rfl) rfl (mv_s rfl rfl) ?_
        refine s_run (w_g rfl rfl rfl rfl) rfl (mv_i rfl rfl) ?_
        refine s_run (w_g rfl rfl rfl rfl) rfl (d_cutP rfl rfl (h := i) rfl (by omega) rfl tu23 ts5) ?_
        refine s_eff (e_call (w_g rfl rfl rfl rfl) rfl rfl Tryd.func14 rfl rfl rfl (Mg.mget_any (b := (Mg.put Mg.prop).take i) _ (H.gat hG) ((H.rowbs (A := A6) rfl).pre (h := i) rfl (by omega))) ?_)
        rintro _ W ⟨rfl, hb⟩
        replace H := H.below hb
        clear hb
        refine s_run (w_g rfl rfl rfl rfl) rfl (d_not rfl rfl) ?_
        refine s_run (w_none rfl) rfl (d_pickF rfl rfl rfl) ?_
        refine s_run (w_none rfl) rfl (mv_bx (c := false) rfl rfl (rfl)) ?_
        refine s_run (w_g rfl rfl rfl rfl) rfl (mv_i rfl rfl) ?_
        refine s_run (w_g rfl rfl rfl rfl) rfl (d_conv rfl rfl (by rw [tu3]; rfl) tu5 (Mg.u8_in (by omega))) ?_
        refine s_run (w_g rfl rfl rfl rfl) rfl (mv_i rfl rfl) ?_
        refine s_run (w_g rfl rfl rfl rfl) rfl (d_conv rfl rfl (by rw [tu3]; rfl) tu5 (Mg.u8_in (by omega))) ?_
        refine s_eff (e_bsl (xs := [.tmp 179, .tmp 181, .const (.int .u8 3)]) (vals := [.int .u8 _, .int .u8 _, .int .u8 _]) (vs := [.int .u8 _, .int .u8 _, .int .u8 _]) (w_g rfl rfl rfl rfl) rfl rfl rfl rfl rfl rfl tu23 ts5 ty5 rfl rfl rfl H ?_)
        clear H; intro g12 W H
        refine s_eff (e_call (w_g rfl rfl rfl rfl) rfl rfl Tryd.func14 rfl rfl rfl (Mg.mget_any (b := [UInt8.ofNat i, UInt8.ofNat j, 3]) _ (H.gat hG) (Bs.mk (S := (· = g12)) (l := [UInt8.ofNat i, UInt8.ofNat j, 3]) (rd_blk H.blk rfl) (by decide) (by decide))) ?_)
        rintro _ W ⟨rfl, hb⟩
        replace H := H.below hb
        clear hb
        refine s_run (w_g rfl rfl rfl rfl) rfl (d_not rfl rfl) ?_
        refine s_run (w_none rfl) rfl (d_pickF rfl rfl rfl) ?_
        refine l_nil ?_
        refine k_condF rfl rfl ?_
        refine k_skip ?_
        refine k_nil ?_
        refine b_end ?_
        refine k_region ?_
        refine s_run (w_none rfl) rfl (mv_i rfl rfl) ?_
        refine s_run (w_none rfl) rfl (d_add rfl rfl rfl (by omega)) ?_
        refine s_run (w_none rfl) rfl (as_i rfl rfl) ?_
        refine l_nil ?_
        refine k_nil ?_
        refine k_next ?_
        refine ⟨_, _, _, ?_, rfl, ?_, ?_, ⟨j + 1, rfl, rfl, by omega, H.sub (by repeat (first | exact List.Sublist.refl _ | exact List.nil_sublist _ | refine List.Sublist.cons_cons _ ?_ | refine List.Sublist.cons _ ?_))⟩⟩
        · omega
        · repeat (first | ((with_reducible refine Eqo.updl _ Eqo.ovr ?_); exact rfl) | ((with_reducible refine Eqo.updl _ (Eqo.ovr2 ?_ ?_) ?_); rotate_left; exact rfl; exact rfl) | ((with_reducible refine Eqo.upd ?_ ?_); rotate_left; exact rfl))
        · refine ⟨?_, trivial⟩
          · exact vi (by omega)
      · skip
        refine k_exit ?_
        refine x_then (x_then ?_)
        refine x_hit ?_
        refine k_nil ?_
        refine b_end ?_
        refine k_region ?_
        refine s_run (w_none rfl) rfl (mv_i rfl rfl) ?_
        refine s_run (w_none rfl) rfl (d_add rfl rfl rfl (by omega)) ?_
        refine s_run (w_none rfl) rfl (as_i rfl rfl) ?_
        refine l_nil ?_
        refine k_nil ?_
        refine k_next ?_
        refine ⟨_, _, _, ?_, rfl, ?_, ?_, ⟨i + 1, rfl, rfl, by omega, H.sub (by repeat (first | exact List.Sublist.refl _ | exact List.nil_sublist _ | refine List.Sublist.cons_cons _ ?_ | refine List.Sublist.cons _ ?_))⟩⟩
        · omega
        · repeat (first | ((with_reducible refine Eqo.updl _ Eqo.ovr ?_); exact rfl) | ((with_reducible refine Eqo.updl _ (Eqo.ovr2 ?_ ?_) ?_); rotate_left; exact rfl; exact rfl) | ((with_reducible refine Eqo.upd ?_ ?_); rotate_left; exact rfl))
        · refine ⟨?_, trivial⟩
          · exact vi (by omega)
    · skip
      refine k_exit ?_
      refine x_then (x_then ?_)
      refine x_hit ?_
      refine k_seq ?_
      refine k_region ?_
      refine s_eff (e_call (w_none rfl) rfl rfl Tryd.func64 rfl rfl rfl (works21 _ (H.gat hG)) ?_)
      rintro _ W ⟨rfl, hb⟩
      replace H := H.below hb
      clear hb
      refine s_run (w_none rfl) rfl (as_b rfl rfl) ?_
      refine l_nil ?_
      refine k_ret ?_
      repeat (first | refine r_then ?_ | refine r_blk ?_)
      exact q_ret (v := .bool _) rfl rfl ⟨_, rfl, rfl, H.under⟩
end Go.Proofs.YtejaohlijaodjaaDoor

namespace Go.Proofs.YtejaohlijaodjaaDoor
open Go Go.RowKit

theorem messageKnown_any (w : World) (hG : Gat w 0 formsC) :
    Calls Tryd.prog 17 #[] w (fun e w' => e = .returned (.bool true) ∧ Below w.heap.size w w') := of_is (messageKnown w hG)
end Go.Proofs.YtejaohlijaodjaaDoor
