/- PackForm. -/
import Derived.Test.YtejaohlijaodjaaDoorK17
namespace Go.Proofs.YtejaohlijaodjaaDoor
open Go Go.RowKit
attribute [local irreducible] wpList

def kdOf (p : Nat) : Int := [0, 0, 1, 2, 3].getD p 0
theorem kd_get {p : Nat} (h : p < 5) : ([.int .i64 0, .int .i64 0, .int .i64 1, .int .i64 2, .int .i64 3] : List Value)[p * 1]? = some (.int .i64 (kdOf p)) := by
  match p, h with
  | 0, _ => rfl
  | 1, _ => rfl
  | 2, _ => rfl
  | 3, _ => rfl
  | 4, _ => rfl
theorem kd_rng {p : Nat} (h : p < 5) : -9223372036854775808 ≤ kdOf p ∧ kdOf p ≤ 9223372036854775807 := by
  match p, h with
  | 0, _ => exact ⟨by decide, by decide⟩
  | 1, _ => exact ⟨by decide, by decide⟩
  | 2, _ => exact ⟨by decide, by decide⟩
  | 3, _ => exact ⟨by decide, by decide⟩
  | 4, _ => exact ⟨by decide, by decide⟩
abbrev z32 : List UInt8 := List.replicate 32 0
abbrev z16 : List UInt8 := List.replicate 16 0
section
variable {kd n : Int} {B : Option Addr} {m d : Nat} {h t : List UInt8}
theorem thing_one : (thingC kd n B m d h t).all (·.oneCell') = true := by
  unfold thingC
  simp only [List.all_cons, List.all_append, all_u8L]
  rfl
theorem spl_h {h' : List UInt8} (hh : h.length = 32) (hh' : h'.length = 32) : spl (thingC kd n B m d h t) 3 (h'.map u8v) = thingC kd n B m d h' t := by
  rw [spl_len _ _ _ (by simp [thingC]; omega)]
  have e : (3 + (h'.map u8v).length) = (h.map u8v).length + 3 := by simp only [List.length_map]; omega
  rw [e]
  unfold thingC
  simp only [List.drop_succ_cons, List.drop_left, List.take_succ_cons, List.take_zero, List.cons_append, List.nil_append]
theorem spl_t {t' : List UInt8} (hh : h.length = 32) (ht : t.length = 16) (ht' : t'.length = 16) : spl (thingC kd n B m d h t) 35 (t'.map u8v) = thingC kd n B m d h t' := by
  have hl := len_thing (kd := kd) (n := n) (B := B) (m := m) (d := d) hh ht
  rw [spl_len _ _ _ (by rw [hl]; simp; omega), List.drop_eq_nil_of_le (by rw [hl]; simp; omega), List.append_nil]
  have e : (thingC kd n B m d h t).take 35 = .int .i64 kd :: .int .i64 n :: .slice B m d :: h.map u8v := by
    unfold thingC
    simp only [List.take_succ_cons]
    rw [List.take_append_of_le_length (by simp; omega), List.take_of_length_le (by simp; omega)]
  rw [e]
  rfl
end
theorem HeldP.more {A0 : Option Addr} {o o' : Nat} {ys : List UInt8} {v : Value} {b : List UInt8} (h : HeldP A0 o ys v b) (ho : o ≤ o') : HeldP A0 o' ys v b := by
  obtain ⟨B, cb, q, h1, h2, h3, h4, h5, h6⟩ := h
  exact ⟨B, cb, q, h1, h2, h3, h4, by omega, h6⟩
theorem RdB.held {u t r n0 c0 : Nat} {A0 : Option Addr} {v : Value} {b l : List UInt8} {s : RS} {W : World} (h : (RdYB u t r A0 n0 c0 (· = l) v b s).p W) : HeldP A0 l.length l v b := by
  obtain ⟨A, c, o, ys, _, _, _, h4, h5, rfl⟩ := h
  exact h5.more (by have := h4.1; have := h4.2.1; omega)
theorem RdB.held_bs {u t r n0 c0 : Nat} {A0 : Option Addr} {v v' : Value} {b b' l : List UInt8} {s : RS} {W : World} (h : (RdYB u t r A0 n0 c0 (· = l) v' b' s).p W) (hH : HeldP A0 l.length l v b) : Bs W (0 ≤ ·) v b := by
  obtain ⟨A, c, o, ys, h1, h2, h3, h4, _, rfl⟩ := h
  have hn := h4.1
  obtain ⟨B, cb, q, rfl, h6, h7, h8, h9, h10⟩ := hH
  refine Bs.mk ?_ h6 h7
  rcases Nat.eq_zero_or_pos b.length with hz | hz
  · exact ⟨by simp, fun h => by omega⟩
  · obtain ⟨_, _, hv, hc1, hc2⟩ := row_form h2
    cases hv
    have hb := bs_cut (bs_row h2 hn) hn (a := q) (b := q + b.length) (by omega) (by omega)
    rw [if_neg (by omega), Nat.mul_one, Nat.add_sub_cancel_left, h10, ← h8 hz] at hb
    obtain ⟨_, _, hv, _, _, hr⟩ := hb.op
    cases hv
    exact hr
/-- Things read so far: their bytes lie in what is read. -/
def AllP (A0 : Option Addr) (b : List UInt8) (al : List DThing) (xs : List Value) : Prop := ∀ (j : Nat) (x : DThing), al[j]? = some x → Th.Ok x ∧ ∃ B d, sub xs (j * 51) 51 = thingC x.kind x.n B x.b.length d x.h x.t ∧ HeldP A0 b.length b (.slice B x.b.length d) x.b
theorem AllP.snoc {A0 B : Option Addr} {b : List UInt8} {al : List DThing} {xs : List Value} {x : DThing} {d : Nat} (h : AllP A0 b al xs) (hl : xs.length = al.length * 51) (hok : Th.Ok x) (hH : HeldP A0 b.length b (.slice B x.b.length d) x.b) : AllP A0 b (al ++ [x]) (xs ++ thingC x.kind x.n B x.b.length d x.h x.t) := fun j y hy => by
  have hlt := len_thing (kd := x.kind) (n := x.n) (B := B) (m := x.b.length) (d := d) hok.2.2.1 hok.2.2.2
  rcases Nat.lt_or_ge j al.length with hj | hj
  · rw [List.getElem?_append_left hj] at hy
    obtain ⟨h1, B', d', h2, h3⟩ := h j y hy
    refine ⟨h1, B', d', ?_, h3⟩
    rw [← h2]
    unfold sub
    rw [List.drop_append, List.take_append_of_le_length (by rw [List.length_drop]; omega)]
  · rw [List.getElem?_append_right hj] at hy
    have hj2 : j = al.length := by
      have := (List.getElem?_eq_some_iff.1 hy).1
      simp at this; omega
    subst hj2
    rw [Nat.sub_self] at hy
    obtain rfl : x = y := by simpa using hy
    refine ⟨hok, B, d, ?_, hH⟩
    have e := sub_skip (a := xs) (b := thingC x.kind x.n B x.b.length d x.h x.t) (k := 0) (m := 51) hl
    rw [Nat.add_zero] at e
    rw [e]
    exact sub_all hlt
theorem rl_all {W : World} {u t r n0 c0 d2 : Nat} {A0 B2 : Option Addr} {b : List UInt8} {al : List DThing} {xs : List Value} {s : RS} (h : AllP A0 b al xs) (hr : Rd W (0 ≤ ·) 51 B2 al.length xs) (hd : al.length ≤ d2 ∧ d2 ≤ 9223372036854775807) (hR : (RdYP u t r A0 n0 c0 (· = b) s).p W) : RL 51 RThing W (0 ≤ ·) [.slice B2 al.length d2] al :=
  ⟨B2, d2, xs, rfl, hd.1, hd.2, hr, fun j x hx => by
    obtain ⟨h1, B, d, h2, h3⟩ := h j x hx
    rw [h2]
    exact ⟨[_], [_], [_], _, _, rfl, ⟨rfl, h1.1⟩, ⟨rfl, h1.2.1⟩, ⟨_, rfl, RdB.held_bs hR h3⟩, ⟨rfl, h1.2.2.1⟩, ⟨rfl, h1.2.2.2⟩⟩⟩
theorem all_le {A0 : Option Addr} {b : List UInt8} {al : List DThing} {xs : List Value} (h : AllP A0 b al xs) : ∀ x ∈ al, x.b.length ≤ b.length := fun x hx => by
  obtain ⟨i, hi⟩ := List.getElem?_of_mem hx
  obtain ⟨_, B, d, _, _, _, q, _, _, _, _, h5, _⟩ := h i x hi
  omega
theorem lay_snoc {al : List DThing} {x : DThing} : Th.lay (al ++ [x]) = Th.lay al ++ Th.enc x := by simp [Th.lay]
/-- What was read, laid again. -/
def BackP (k : Nat) (x : DThing) (rest : List UInt8) (s' : RS) : Prop := x.kind = kdOf k ∧ Th.Ok x ∧ 0 ≤ x.n ∧ Pk.Ok s' ∧ (s'.2 = 0 → rest = Th.enc x ++ s'.1)
theorem toU_nat {u : Nat} (h : u < 9223372036854775808) : Pk.toU (u : Int) = u := by rw [Pk.toU_pos _ (by omega) (by omega)]; omega
theorem back_int {k : Nat} {rest : List UInt8} (hk : k = 0) : BackP k ⟨kdOf k, ((Pk.rInt (rest, 0)).1 : Int), [], z32, z16⟩ rest (Pk.rInt (rest, 0)).2 := by
  subst hk
  have hlt := Pk.rInt_lt (s := (rest, 0))
  refine ⟨rfl, ⟨kd_rng (p := 0) (by decide), ⟨by simp only; omega, by simp only; omega⟩, rfl, rfl⟩, by simp, Pk.ok_rInt ⟨fun h => absurd rfl h, by simp, by simp⟩, fun he => ?_⟩
  have := Pk.rInt_back (s := (rest, 0)) rfl he
  show rest = _
  rw [show Th.enc ⟨kdOf 0, ((Pk.rInt (rest, 0)).1 : Int), [], z32, z16⟩ = Pk.int (Pk.toU ((Pk.rInt (rest, 0)).1 : Int)) from rfl, toU_nat hlt]
  exact this
theorem back_count {k : Nat} {m : Int} {rest : List UInt8} (hk : k = 1) : BackP k ⟨kdOf k, ((Pk.rCount m (rest, 0)).1 : Int), [], z32, z16⟩ rest (Pk.rCount m (rest, 0)).2 := by
  subst hk
  have hlt := Pk.rCount_lt (m := m) (s := (rest, 0))
  refine ⟨rfl, ⟨kd_rng (p := 1) (by decide), ⟨by simp only; omega, by simp only; omega⟩, rfl, rfl⟩, by simp, Pk.ok_rCount ⟨fun h => absurd rfl h, by simp, by simp⟩, fun he => ?_⟩
  have := Pk.rCount_back (m := m) (s := (rest, 0)) rfl he
  show rest = _
  rw [show Th.enc ⟨kdOf 1, ((Pk.rCount m (rest, 0)).1 : Int), [], z32, z16⟩ = Pk.int (Pk.toU ((Pk.rCount m (rest, 0)).1 : Int)) from rfl, toU_nat hlt]
  exact this
theorem back_blob {k : Nat} {m : Int} {rest : List UInt8} (hk : k = 2) : BackP k ⟨kdOf k, 0, (Pk.rBlob m (rest, 0)).1, z32, z16⟩ rest (Pk.rBlob m (rest, 0)).2 := by
  subst hk
  refine ⟨rfl, ⟨kd_rng (p := 2) (by decide), ⟨by simp only; omega, by simp only; omega⟩, rfl, rfl⟩, by simp, Pk.ok_next (Pk.ok_rCount ⟨fun h => absurd rfl h, by simp, by simp⟩), fun he => ?_⟩
  have := Pk.rBlob_back (m := m) (s := (rest, 0)) rfl he
  exact this
theorem back_hash {k : Nat} {rest : List UInt8} (hk : k = 3) : BackP k ⟨kdOf k, 0, [], (Pk.rBytes 32 (rest, 0)).1, z16⟩ rest (Pk.rBytes 32 (rest, 0)).2 := by
  subst hk
  refine ⟨rfl, ⟨kd_rng (p := 3) (by decide), ⟨by simp only; omega, by simp only; omega⟩, Pk.len_rBytes, rfl⟩, by simp, Pk.ok_next ⟨fun h => absurd rfl h, by simp, by simp⟩, fun he => ?_⟩
  have := Pk.rBytes_back (n := 32) (s := (rest, 0)) rfl he
  exact this
theorem back_tag {k : Nat} {rest : List UInt8} (hk : k = 4) : BackP k ⟨kdOf k, 0, [], z32, (Pk.rBytes 16 (rest, 0)).1⟩ rest (Pk.rBytes 16 (rest, 0)).2 := by
  subst hk
  refine ⟨rfl, ⟨kd_rng (p := 4) (by decide), ⟨by simp only; omega, by simp only; omega⟩, rfl, Pk.len_rBytes⟩, by simp, Pk.ok_next ⟨fun h => absurd rfl h, by simp, by simp⟩, fun he => ?_⟩
  have := Pk.rBytes_back (n := 16) (s := (rest, 0)) rfl he
  exact this

set_option maxHeartbeats 4000000 in
theorem packForm {S SL : Nat → Prop} {v : Value} {b : List UInt8} {AL : Option Addr} {m cL : Nat} {l : List (Int × Int)} (w : World) (hG : Gat w 0 formsC) (hb : Bs w S v b) (hl2 : Rd w SL 2 AL m (askC l)) (hlo : b.length ≤ 4096) : Calls Tryd.prog 8 [v, .slice AL m cL].toArray w (Ret (Is w (.bool true))) := by
  have hb0 := hb
  obtain ⟨A, c, rfl, _, _, _⟩ := hb.op
  obtain rfl : m = l.length := by have := hl2.1; rw [len_ask] at this; omega
  refine k_enter (l := [_, _]) Tryd.func8 rfl rfl ?_
  have H := St.start nT w
  refine k_seq ?_
  refine k_region ?_
  refine s_run (w_none rfl) rfl (as_b rfl rfl) ?_
  refine l_nil ?_
  refine k_seq ?_
  refine k_seq ?_
  refine k_region ?_
  refine s_run (w_none rfl) rfl (mv_s rfl rfl) ?_
  refine s_run (w_none rfl) rfl (d_len rfl rfl tu23) ?_
  refine s_run (w_none rfl) rfl (d_gt rfl rfl rfl) ?_
  refine l_nil ?_
  refine k_condF rfl (by simp; omega) ?_
  refine k_skip ?_
  refine k_seq ?_
  refine k_region ?_
  refine s_run (w_none rfl) rfl (mv_s rfl rfl) ?_
  refine s_eff (e_call (w_none rfl) rfl rfl Tryd.func19 rfl rfl rfl (prgReadY (l := b) _ (H.bs hb0) (by omega)) ?_)
  rintro _ W ⟨r3, A3, c3, rfl, hS3⟩
  replace H := H.add hS3
  clear hS3
  simp only [List.cons_append, List.nil_append] at H
  refine s_run (w_none rfl) rfl (as_p rfl rfl) ?_
  refine l_nil ?_
  refine k_seq ?_
  refine k_region ?_
  refine s_run (w_none rfl) rfl (as_s rfl rfl) ?_
  refine l_nil ?_
  replace H := H.nilrow 40 51
  refine k_seq ?_
  refine k_seq ?_
  refine k_region ?_
  refine s_run (w_none rfl) rfl (as_i rfl rfl) ?_
  refine l_nil ?_
  refine k_bcut 16 [4, 6, 7, 8] (fun sl W => ∃ al : List DThing, ∃ xs : List Value, ∃ B2 : Option Addr, ∃ d2 : Nat, ∃ rest : List UInt8, ∃ s' : RS, sl = [(6, .slice B2 al.length d2)] ∧ (b = Th.lay al ++ rest) ∧ (AllP A3 b al xs) ∧ (xs.length = al.length * 51) ∧ (al.length ≤ d2 ∧ d2 ≤ 9223372036854775807) ∧ (Pk.Ok s') ∧ (s'.2 = 0 → s' = (rest, 0)) ∧ St nT w W [Fact.row 40 51 (.slice B2 al.length d2) al.length (xs), RdYP 5 96 r3 A3 b.length c3 (· = b) s']) ?_ (fun sl ρv W hJ => ?_)
  · skip
    refine k_loop 16 [4, 6, 7, 8] (fun mm sl W => ∃ i : Nat, ∃ al : List DThing, ∃ xs : List Value, ∃ B2 : Option Addr, ∃ d2 : Nat, ∃ rest : List UInt8, l.length - i = mm ∧ sl = [(7, .int .i64 (i : Int)), (6, .slice B2 al.length d2)] ∧ (i ≤ l.length ∧ al.length ≤ i ∧ i ≤ 80) ∧ (b = Th.lay al ++ rest) ∧ (AllP A3 b al xs) ∧ (xs.length = al.length * 51) ∧ (al.length ≤ d2 ∧ d2 ≤ 9223372036854775807) ∧ St nT w W [Fact.row 40 51 (.slice B2 al.length d2) al.length (xs), RdYP 5 96 r3 A3 b.length c3 (· = b) (rest, 0)]) _ _ ⟨0, [], [], none, 0, b, rfl, rfl, ⟨Nat.zero_le _, Nat.le_refl _, Nat.zero_le _⟩, rfl, fun j x h => by simp at h, rfl, ⟨Nat.le_refl _, by omega⟩, H⟩ ⟨rfl, rfl, trivial⟩ (fun mm sl ρv W hJ => ?_)
    clear H; obtain ⟨i, al, xs, B2, d2, rest, rfl, rfl, hi, hb2, hall, hxl, hd2, H⟩ := hJ
    refine k_one ?_
    refine k_seq ?_
    refine k_seq ?_
    rcases Nat.lt_or_ge i l.length with hil | hil
    · skip
      refine k_region ?_
      refine s_run (w_none rfl) rfl (mv_i rfl rfl) ?_
      refine s_run (w_none rfl) rfl (mv_s rfl rfl) ?_
      refine s_run (w_none rfl) rfl (d_len rfl rfl tu48) ?_
      refine s_run (w_none rfl) rfl (d_lt rfl rfl rfl) ?_
      refine s_run (w_none rfl) rfl (mv_bx (c := true) rfl rfl (by simp; omega)) ?_
      refine s_run (w_g rfl rfl rfl rfl) rfl (mv_i rfl rfl) ?_
      refine s_run (w_g rfl rfl rfl rfl) rfl (d_lt rfl rfl rfl) ?_
      refine s_run (w_none rfl) rfl (d_pickT rfl rfl rfl) ?_
      refine l_nil ?_
      refine k_cond rfl (fun hc23 => ?_) (fun hc23 => ?_)
      · replace hc23 := of_decide_eq_true hc23
        obtain ⟨gl, ol, rfl, -⟩ := hl2.2 (by omega)
        obtain ⟨pk, hpk, hpk5⟩ : ∃ pk : Nat, pick (l.getD i (0, 0)).1 5 = (pk : Int) ∧ pk < 5 := by
          have := pick_in (v := (l.getD i (0, 0)).1) (n := 5) (by omega)
          exact ⟨(pick (l.getD i (0, 0)).1 5).toNat, by omega, by omega⟩
        refine k_skip ?_
        refine k_seq ?_
        refine k_block ?_
        refine k_seq ?_
        refine k_region ?_
        refine s_eff (e_bsl (xs := [.const (.int .i64 0), .const (.int .i64 0), .const (.int .i64 1), .const (.int .i64 2), .const (.int .i64 3)]) (vals := [.int .i64 _, .int .i64 _, .int .i64 _, .int .i64 _, .int .i64 _]) (vs := [.int .i64 _, .int .i64 _, .int .i64 _, .int .i64 _, .int .i64 _]) (w_none rfl) rfl rfl rfl rfl rfl rfl tu24 ts3 ty3 rfl rfl rfl H ?_)
        clear H; intro g5 W H
        refine s_run (w_none rfl) rfl (mv_s rfl rfl) ?_
        refine s_run (w_none rfl) rfl (mv_i rfl rfl) ?_
        refine s_run (w_none rfl) rfl (d_iaG rfl (H.rd hl2) rfl rfl (q := i) rfl hil tu48 ts53) ?_
        refine s_run (w_none rfl) rfl (d_fa rfl rfl tf53_0) ?_
        refine s_run (w_none rfl) rfl (d_ldE (off := 0) rfl (H.rd hl2) hil (sub_ask l i hil) rfl rfl rfl (by omega) ta3) ?_
        refine s_eff (e_call (w_none rfl) rfl rfl Tryd.func42 rfl rfl rfl (pick_any _ 5 _ (by omega)) ?_)
        rintro _ W ⟨rfl, hb⟩
        replace H := H.below hb
        clear hb
        rw [hpk]
        refine s_run (w_none rfl) rfl (d_iaS rfl (rd_blk (H.blk (g := g5)) rfl) rfl rfl (q := pk) rfl hpk5 tu24 ts3) ?_
        refine s_run (w_none rfl) rfl (d_ldR0 rfl (rd_blk (m := 5) (H.blk (g := g5)) rfl) rfl ta3 (kd_get hpk5)) ?_
        refine s_run (w_none rfl) rfl (d_build (vs := thingC (kdOf pk) 0 none 0 0 z32 z16) rfl (by kernel_rfl)) ?_
        refine s_eff (e_alloc (w_none rfl) rfl rfl (thingC 0 0 none 0 0 z32 z16) tz40 H ?_)
        clear H; intro g8 W H
        refine s_eff (e_stoK (thingC (kdOf pk) 0 none 0 0 z32 z16) (w_none rfl) rfl rfl rfl rfl rfl ts40 rfl rfl H (by decide) (spl_all (c := thingC 0 0 none 0 0 z32 z16) rfl) ?_)
        clear H; intro W H
        refine l_nil ?_
        refine k_seq ?_
        refine k_seq ?_
        refine k_region ?_
        refine s_run (w_none rfl) rfl (mv_s rfl rfl) ?_
        refine s_run (w_none rfl) rfl (mv_i rfl rfl) ?_
        refine s_run (w_none rfl) rfl (d_iaG rfl (H.rd hl2) rfl rfl (q := i) rfl hil tu48 ts53) ?_
        refine s_run (w_none rfl) rfl (d_fa rfl rfl tf53_0) ?_
        refine s_run (w_none rfl) rfl (d_ldE (off := 0) rfl (H.rd hl2) hil (sub_ask l i hil) rfl rfl rfl (by omega) ta3) ?_
        refine s_eff (e_call (w_none rfl) rfl rfl Tryd.func42 rfl rfl rfl (pick_any _ 5 _ (by omega)) ?_)
        rintro _ W ⟨rfl, hb⟩
        replace H := H.below hb
        clear hb
        rw [hpk]
        refine l_nil ?_
        refine k_bcut 42 [] (fun sl W => ∃ x : DThing, ∃ B : Option Addr, ∃ d : Nat, ∃ s' : RS, sl = [] ∧ (BackP pk x rest s') ∧ (HeldP A3 b.length b (.slice B x.b.length d) x.b) ∧ St nT w W [Fact.blk g8 (thingC x.kind x.n B x.b.length d x.h x.t) 40, Fact.blk g5 [.int .i64 0, .int .i64 0, .int .i64 1, .int .i64 2, .int .i64 3] 3, Fact.row 40 51 (.slice B2 al.length d2) al.length (xs), RdYP 5 96 r3 A3 b.length c3 (· = b) s']) ?_ (fun sl ρv W hJ => ?_)
        · skip
          refine k_seq ?_
          refine k_region ?_
          refine s_run (w_none rfl) rfl (d_eq rfl rfl rfl) ?_
          refine s_run (w_none rfl) rfl (as_b rfl rfl) ?_
          refine l_nil ?_
          refine k_cond rfl (fun hc42 => ?_) (fun hc42 => ?_)
          · have hk : pk = 0 := by have := eq_of_beq hc42; omega
            refine k_region ?_
            refine s_run (w_none rfl) rfl (mv_p rfl rfl) ?_
            refine s_eff (e_call (w_none rfl) rfl rfl Tryd.func20 rfl rfl rfl (prgInt _ (H.get (f := RdYP 5 96 r3 A3 b.length c3 (· = b) (rest, 0))) ⟨fun h => absurd rfl h, by simp, by simp⟩ (H.gat hG) (H.away (f := RdYP 5 96 r3 A3 b.length c3 (· = b) (rest, 0)) hG.1)) ?_)
            rintro _ W ⟨rfl, hp, hf⟩
            replace H := H.mut (f := RdYP 5 96 r3 A3 b.length c3 (· = b) (rest, 0)) (f' := RdYP 5 96 r3 A3 b.length c3 (· = b) (Pk.rInt (rest, 0)).2) hf hp (fun _ h => h)
            clear hp hf
            refine s_run (w_none rfl) rfl (d_fa rfl rfl tf40_1) ?_
            refine s_eff (e_stoK (thingC (kdOf pk) ((Pk.rInt (rest, 0)).1 : Int) none 0 0 z32 z16) (w_none rfl) rfl rfl rfl rfl rfl ts3 rfl rfl H (by simp [thingC]) rfl ?_)
            clear H; intro W H
            refine l_nil ?_
            refine k_nil ?_
            refine b_endc ?_
            refine ⟨_, _, rfl, ?_, ?_, ⟨(⟨kdOf pk, ((Pk.rInt (rest, 0)).1 : Int), [], z32, z16⟩ : DThing), none, 0, (Pk.rInt (rest, 0)).2, rfl, back_int (by omega), held_nil, H⟩⟩
            · repeat (first | (with_reducible exact Eqo.refl) | ((with_reducible refine Eqo.updl _ (Eqo.ovr2 ?_ ?_) ?_); rotate_left; exact rfl; exact rfl) | ((with_reducible refine Eqo.upd ?_ ?_); rotate_left; exact rfl))
            · exact trivial
          · have hk0 : ¬ pk = 0 := by intro e; subst e; simp at hc42
            refine k_seq ?_
            refine k_region ?_
            refine s_run (w_none rfl) rfl (d_eq rfl rfl rfl) ?_
            refine s_run (w_none rfl) rfl (as_b rfl rfl) ?_
            refine l_nil ?_
            refine k_cond rfl (fun hc47 => ?_) (fun hc47 => ?_)
            · have hk : pk = 1 := by have := eq_of_beq hc47; omega
              refine k_region ?_
              refine s_run (w_none rfl) rfl (mv_p rfl rfl) ?_
              refine s_run (w_none rfl) rfl (mv_s rfl rfl) ?_
              refine s_run (w_none rfl) rfl (mv_i rfl rfl) ?_
              refine s_run (w_none rfl) rfl (d_iaG rfl (H.rd hl2) rfl rfl (q := i) rfl hil tu48 ts53) ?_
              refine s_run (w_none rfl) rfl (d_fa rfl rfl tf53_1) ?_
              refine s_run (w_none rfl) rfl (d_ldE (off := 1) rfl (H.rd hl2) hil (sub_ask l i hil) rfl rfl rfl (by omega) ta3) ?_
              refine s_eff (e_call (w_none rfl) rfl rfl Tryd.func47 rfl rfl rfl (prgCount (m := (l.getD i (0, 0)).2) _ (H.get (f := RdYP 5 96 r3 A3 b.length c3 (· = b) (rest, 0))) ⟨fun h => absurd rfl h, by simp, by simp⟩ (H.gat hG) (H.away (f := RdYP 5 96 r3 A3 b.length c3 (· = b) (rest, 0)) hG.1)) ?_)
              rintro _ W ⟨rfl, hp, hf⟩
              replace H := H.mut (f := RdYP 5 96 r3 A3 b.length c3 (· = b) (rest, 0)) (f' := RdYP 5 96 r3 A3 b.length c3 (· = b) (Pk.rCount (l.getD i (0, 0)).2 (rest, 0)).2) hf hp (fun _ h => h)
              clear hp hf
              refine s_run (w_none rfl) rfl (d_fa rfl rfl tf40_1) ?_
              refine s_eff (e_stoK (thingC (kdOf pk) ((Pk.rCount (l.getD i (0, 0)).2 (rest, 0)).1 : Int) none 0 0 z32 z16) (w_none rfl) rfl rfl rfl rfl rfl ts3 rfl rfl H (by simp [thingC]) rfl ?_)
              clear H; intro W H
              refine l_nil ?_
              refine k_nil ?_
              refine b_endc ?_
              refine ⟨_, _, rfl, ?_, ?_, ⟨(⟨kdOf pk, ((Pk.rCount (l.getD i (0, 0)).2 (rest, 0)).1 : Int), [], z32, z16⟩ : DThing), none, 0, (Pk.rCount (l.getD i (0, 0)).2 (rest, 0)).2, rfl, back_count (by omega), held_nil, H⟩⟩
              · repeat (first | (with_reducible exact Eqo.refl) | ((with_reducible refine Eqo.updl _ (Eqo.ovr2 ?_ ?_) ?_); rotate_left; exact rfl; exact rfl) | ((with_reducible refine Eqo.upd ?_ ?_); rotate_left; exact rfl))
              · exact trivial
            · have hk1 : ¬ pk = 1 := by intro e; subst e; simp at hc47
              refine k_seq ?_
              refine k_region ?_
              refine s_run (w_none rfl) rfl (d_eq rfl rfl rfl) ?_
              refine s_run (w_none rfl) rfl (as_b rfl rfl) ?_
              refine l_nil ?_
              refine k_cond rfl (fun hc57 => ?_) (fun hc57 => ?_)
              · have hk : pk = 2 := by have := eq_of_beq hc57; omega
                refine k_region ?_
                refine s_run (w_none rfl) rfl (mv_p rfl rfl) ?_
                refine s_run (w_none rfl) rfl (mv_s rfl rfl) ?_
                refine s_run (w_none rfl) rfl (mv_i rfl rfl) ?_
                refine s_run (w_none rfl) rfl (d_iaG rfl (H.rd hl2) rfl rfl (q := i) rfl hil tu48 ts53) ?_
                refine s_run (w_none rfl) rfl (d_fa rfl rfl tf53_1) ?_
                refine s_run (w_none rfl) rfl (d_ldE (off := 1) rfl (H.rd hl2) hil (sub_ask l i hil) rfl rfl rfl (by omega) ta3) ?_
                refine s_eff (e_call (w_none rfl) rfl rfl Tryd.func48 rfl rfl rfl (prgBlob (m := (l.getD i (0, 0)).2) _ (H.get (f := RdYP 5 96 r3 A3 b.length c3 (· = b) (rest, 0))) ⟨fun h => absurd rfl h, by simp, by simp⟩ (H.gat hG) (H.away (f := RdYP 5 96 r3 A3 b.length c3 (· = b) (rest, 0)) hG.1)) ?_)
                rintro _ W ⟨hp1, hf1⟩
                obtain ⟨B1, d1, rfl⟩ := RdB.form hp1
                replace H := H.mut (f := RdYP 5 96 r3 A3 b.length c3 (· = b) (rest, 0)) (f' := RdYB 5 96 r3 A3 b.length c3 (· = b) (.slice B1 (List.length (Pk.rBlob (l.getD i (0, 0)).2 (rest, 0)).1) d1) (Pk.rBlob (l.getD i (0, 0)).2 (rest, 0)).1 (Pk.rBlob (l.getD i (0, 0)).2 (rest, 0)).2) hf1 hp1 (fun _ h => h)
                clear hp1 hf1
                have hHb := RdB.held (H.get (f := RdYB 5 96 r3 A3 b.length c3 (· = b) (.slice B1 (List.length (Pk.rBlob (l.getD i (0, 0)).2 (rest, 0)).1) d1) (Pk.rBlob (l.getD i (0, 0)).2 (rest, 0)).1 (Pk.rBlob (l.getD i (0, 0)).2 (rest, 0)).2))
                replace H := H.mut (f := RdYB 5 96 r3 A3 b.length c3 (· = b) (.slice B1 (List.length (Pk.rBlob (l.getD i (0, 0)).2 (rest, 0)).1) d1) (Pk.rBlob (l.getD i (0, 0)).2 (rest, 0)).1 (Pk.rBlob (l.getD i (0, 0)).2 (rest, 0)).2) (f' := RdYP 5 96 r3 A3 b.length c3 (· = b) (Pk.rBlob (l.getD i (0, 0)).2 (rest, 0)).2) Fr.refl (RdB.toP (H.get (f := RdYB 5 96 r3 A3 b.length c3 (· = b) (.slice B1 (List.length (Pk.rBlob (l.getD i (0, 0)).2 (rest, 0)).1) d1) (Pk.rBlob (l.getD i (0, 0)).2 (rest, 0)).1 (Pk.rBlob (l.getD i (0, 0)).2 (rest, 0)).2))) (fun _ h => h)
                refine s_run (w_none rfl) rfl (d_fa rfl rfl tf40_2) ?_
                refine s_eff (e_stoK (thingC (kdOf pk) 0 B1 (Pk.rBlob (l.getD i (0, 0)).2 (rest, 0)).1.length d1 z32 z16) (w_none rfl) rfl rfl rfl rfl rfl ts23 rfl rfl H (by simp [thingC]) rfl ?_)
                clear H; intro W H
                refine l_nil ?_
                refine k_nil ?_
                refine b_endc ?_
                refine ⟨_, _, rfl, ?_, ?_, ⟨(⟨kdOf pk, 0, (Pk.rBlob (l.getD i (0, 0)).2 (rest, 0)).1, z32, z16⟩ : DThing), B1, d1, (Pk.rBlob (l.getD i (0, 0)).2 (rest, 0)).2, rfl, back_blob (by omega), hHb, H⟩⟩
                · repeat (first | (with_reducible exact Eqo.refl) | ((with_reducible refine Eqo.updl _ (Eqo.ovr2 ?_ ?_) ?_); rotate_left; exact rfl; exact rfl) | ((with_reducible refine Eqo.upd ?_ ?_); rotate_left; exact rfl))
                · exact trivial
              · have hk2 : ¬ pk = 2 := by intro e; subst e; simp at hc57
                refine k_seq ?_
                refine k_region ?_
                refine s_run (w_none rfl) rfl (d_eq rfl rfl rfl) ?_
                refine s_run (w_none rfl) rfl (as_b rfl rfl) ?_
                refine l_nil ?_
                refine k_cond rfl (fun hc67 => ?_) (fun hc67 => ?_)
                · have hk : pk = 3 := by have := eq_of_beq hc67; omega
                  refine k_region ?_
                  refine s_run (w_none rfl) rfl (mv_p rfl rfl) ?_
                  refine s_eff (e_call (w_none rfl) rfl rfl Tryd.func45 rfl rfl rfl (prgHash _ (H.get (f := RdYP 5 96 r3 A3 b.length c3 (· = b) (rest, 0))) ⟨fun h => absurd rfl h, by simp, by simp⟩) ?_)
                  rintro _ W ⟨rfl, hp, hf⟩
                  replace H := H.mut (f := RdYP 5 96 r3 A3 b.length c3 (· = b) (rest, 0)) (f' := RdYP 5 96 r3 A3 b.length c3 (· = b) (Pk.rBytes 32 (rest, 0)).2) hf hp (fun _ h => h)
                  clear hp hf
                  refine s_run (w_none rfl) rfl (d_fa rfl rfl tf40_3) ?_
                  refine s_eff (e_stoK (thingC (kdOf pk) 0 none 0 0 (Pk.rBytes 32 (rest, 0)).1 z16) (w_none rfl) rfl rfl rfl rfl rfl ts36 (by rw [List.length_map]; exact Pk.len_rBytes) (all_u8L _) H (by simp [thingC]) (spl_h rfl Pk.len_rBytes) ?_)
                  clear H; intro W H
                  refine l_nil ?_
                  refine k_nil ?_
                  refine b_endc ?_
                  refine ⟨_, _, rfl, ?_, ?_, ⟨(⟨kdOf pk, 0, [], (Pk.rBytes 32 (rest, 0)).1, z16⟩ : DThing), none, 0, (Pk.rBytes 32 (rest, 0)).2, rfl, back_hash (by omega), held_nil, H⟩⟩
                  · repeat (first | (with_reducible exact Eqo.refl) | ((with_reducible refine Eqo.updl _ (Eqo.ovr2 ?_ ?_) ?_); rotate_left; exact rfl; exact rfl) | ((with_reducible refine Eqo.upd ?_ ?_); rotate_left; exact rfl))
                  · exact trivial
                · have hk3 : ¬ pk = 3 := by intro e; subst e; simp at hc67
                  refine k_seq ?_
                  refine k_region ?_
                  refine s_run (w_none rfl) rfl (d_eq rfl rfl rfl) ?_
                  refine s_run (w_none rfl) rfl (as_b rfl rfl) ?_
                  refine l_nil ?_
                  refine k_condT rfl (by rw [show pk = 4 by omega]; rfl) ?_
                  refine k_region ?_
                  refine s_run (w_none rfl) rfl (mv_p rfl rfl) ?_
                  refine s_eff (e_call (w_none rfl) rfl rfl Tryd.func46 rfl rfl rfl (prgTag _ (H.get (f := RdYP 5 96 r3 A3 b.length c3 (· = b) (rest, 0))) ⟨fun h => absurd rfl h, by simp, by simp⟩) ?_)
                  rintro _ W ⟨rfl, hp, hf⟩
                  replace H := H.mut (f := RdYP 5 96 r3 A3 b.length c3 (· = b) (rest, 0)) (f' := RdYP 5 96 r3 A3 b.length c3 (· = b) (Pk.rBytes 16 (rest, 0)).2) hf hp (fun _ h => h)
                  clear hp hf
                  refine s_run (w_none rfl) rfl (d_fa rfl rfl tf40_4) ?_
                  refine s_eff (e_stoK (thingC (kdOf pk) 0 none 0 0 z32 (Pk.rBytes 16 (rest, 0)).1) (w_none rfl) rfl rfl rfl rfl rfl ts38 (by rw [List.length_map]; exact Pk.len_rBytes) (all_u8L _) H (by simp [thingC]) (spl_t rfl rfl Pk.len_rBytes) ?_)
                  clear H; intro W H
                  refine l_nil ?_
                  refine k_nil ?_
                  refine b_endc ?_
                  refine ⟨_, _, rfl, ?_, ?_, ⟨(⟨kdOf pk, 0, [], z32, (Pk.rBytes 16 (rest, 0)).1⟩ : DThing), none, 0, (Pk.rBytes 16 (rest, 0)).2, rfl, back_tag (by omega), held_nil, H⟩⟩
                  · repeat (first | (with_reducible exact Eqo.refl) | ((with_reducible refine Eqo.updl _ (Eqo.ovr2 ?_ ?_) ?_); rotate_left; exact rfl; exact rfl) | ((with_reducible refine Eqo.upd ?_ ?_); rotate_left; exact rfl))
                  · exact trivial
        clear H; obtain ⟨x, B, d, s', rfl, hbk, hH, H⟩ := hJ
        refine k_seq ?_
        refine k_seq ?_
        have hhx := hbk.2.1.2.2.1
        have htx := hbk.2.1.2.2.2
        refine k_region ?_
        refine s_run (w_none rfl) rfl (mv_p rfl rfl) ?_
        refine s_eff (e_call (w_none rfl) rfl rfl Tryd.func39 rfl rfl rfl (prgBad _ (H.get (f := RdYP 5 96 r3 A3 b.length c3 (· = b) s'))) ?_)
        rintro _ W ⟨rfl, hb⟩
        replace H := H.below hb
        clear hb
        refine l_nil ?_
        refine k_cond rfl (fun hc78 => ?_) (fun hc78 => ?_)
        · have hne : s'.2 ≠ 0 := by simpa using hc78
          refine k_exit ?_
          refine x_miss rfl (x_then ?_)
          refine x_then (x_then ?_)
          refine x_hit ?_
          refine ⟨_, _, rfl, ?_, ?_, ⟨al, xs, B2, d2, rest, s', rfl, hb2, hall, hxl, hd2, hbk.2.2.2.1, fun h => absurd h hne, H.sub (by repeat (first | exact List.Sublist.refl _ | exact List.nil_sublist _ | refine List.Sublist.cons_cons _ ?_ | refine List.Sublist.cons _ ?_))⟩⟩
          · repeat (first | (with_reducible exact Eqo.refl) | ((with_reducible refine Eqo.updl _ (Eqo.ovr2 ?_ ?_) ?_); rotate_left; exact rfl; exact rfl) | ((with_reducible refine Eqo.upd ?_ ?_); rotate_left; exact rfl))
          · refine ⟨?_, trivial⟩
            · exact rfl
        · have he : s'.2 = 0 := by simpa using hc78
          obtain ⟨rest2, e2⟩ := s'
          obtain rfl : e2 = 0 := he
          refine k_skip ?_
          refine k_seq ?_
          refine k_seq ?_
          refine k_region ?_
          refine s_run (w_none rfl) rfl (d_fa rfl rfl tf40_1) ?_
          refine s_run (w_none rfl) rfl (d_ld rfl H rfl ta3 rfl) ?_
          refine s_run (w_none rfl) rfl (d_lt rfl rfl rfl) ?_
          refine l_nil ?_
          refine k_condF rfl (by have := hbk.2.2.1; simp; omega) ?_
          refine k_skip ?_
          refine k_region ?_
          refine s_run (w_none rfl) rfl (mv_s rfl rfl) ?_
          refine s_run (w_none rfl) rfl (d_ldXM (off := 0) rfl H (sub_all (len_thing hhx htx)) (len_thing hhx htx) rfl rfl rfl ta40 ts40) ?_
          refine s_eff (e_bsl (xs := [.tmp 83]) (vals := [.agg (thingC x.kind x.n B x.b.length d x.h x.t).toArray]) (vs := (thingC x.kind x.n B x.b.length d x.h x.t)) (w_none rfl) rfl rfl rfl rfl rfl rfl tu55 ts40 ty40 rfl (by simp [Value.cells, len_thing hhx htx]) (by simp [Value.cells]) H ?_)
          clear H; intro g23_2 W H
          refine s_eff (e_app (w_none rfl) rfl rfl tu55 tx40 rfl rfl rfl H (rd_blk H.blk (by rw [len_thing hhx htx])) (thing_one) (by omega) rfl ?_)
          clear H; intro A2 c2 W hc2 hd2 H
          replace H := H.drop
          refine s_run (w_none rfl) rfl (as_s rfl rfl) ?_
          refine l_nil ?_
          refine k_nil ?_
          refine b_end ?_
          refine k_region ?_
          refine s_run (w_none rfl) rfl (mv_i rfl rfl) ?_
          refine s_run (w_none rfl) rfl (d_add rfl rfl rfl (by omega)) ?_
          refine s_run (w_none rfl) rfl (as_i rfl rfl) ?_
          refine l_nil ?_
          refine k_nil ?_
          refine k_next ?_
          refine ⟨_, _, _, ?_, rfl, ?_, ?_, ⟨i + 1, al ++ [x], xs ++ (thingC x.kind x.n B x.b.length d x.h x.t), A2, c2, rest2, rfl, rfl, ⟨by omega, by rw [List.length_append, List.length_singleton]; omega, by omega⟩, by rw [lay_snoc, List.append_assoc, hb2]; exact congrArg _ (hbk.2.2.2.2 rfl), hall.snoc hxl hbk.2.1 hH, by rw [List.length_append, List.length_append, hxl, len_thing hhx htx, List.length_singleton]; omega, ⟨by rw [List.length_append, List.length_singleton]; exact hc2, hd2⟩, by rw [List.length_append, List.length_singleton]; exact H.sub (by repeat (first | exact List.Sublist.refl _ | exact List.nil_sublist _ | refine List.Sublist.cons_cons _ ?_ | refine List.Sublist.cons _ ?_))⟩⟩
          · omega
          · repeat (first | ((with_reducible refine Eqo.updl _ Eqo.ovr ?_); exact rfl) | ((with_reducible refine Eqo.updl _ (Eqo.ovr2 ?_ ?_) ?_); rotate_left; exact rfl; exact rfl) | ((with_reducible refine Eqo.upd ?_ ?_); rotate_left; exact rfl))
          · refine ⟨?_, ?_, trivial⟩
            · exact vi (by omega)
            · exact sl_eq (by rw [List.length_append, List.length_singleton])
      · skip
        refine k_exit ?_
        refine x_then (x_then ?_)
        refine x_hit ?_
        refine ⟨_, _, rfl, ?_, ?_, ⟨al, xs, B2, d2, rest, (rest, 0), rfl, hb2, hall, hxl, hd2, ⟨fun h => absurd rfl h, by simp, by simp⟩, fun _ => rfl, H.sub (by repeat (first | exact List.Sublist.refl _ | exact List.nil_sublist _ | refine List.Sublist.cons_cons _ ?_ | refine List.Sublist.cons _ ?_))⟩⟩
        · repeat (first | (with_reducible exact Eqo.refl) | ((with_reducible refine Eqo.updl _ (Eqo.ovr2 ?_ ?_) ?_); rotate_left; exact rfl; exact rfl) | ((with_reducible refine Eqo.upd ?_ ?_); rotate_left; exact rfl))
        · refine ⟨?_, trivial⟩
          · exact rfl
    · skip
      refine k_region ?_
      refine s_run (w_none rfl) rfl (mv_i rfl rfl) ?_
      refine s_run (w_none rfl) rfl (mv_s rfl rfl) ?_
      refine s_run (w_none rfl) rfl (d_len rfl rfl tu48) ?_
      refine s_run (w_none rfl) rfl (d_lt rfl rfl rfl) ?_
      refine s_run (w_none rfl) rfl (mv_bx (c := false) rfl rfl (by simp; omega)) ?_
      refine s_skip (w_gno rfl rfl rfl rfl rfl) rfl ?_
      refine s_skip (w_gno rfl rfl rfl rfl rfl) rfl ?_
      refine s_run (w_none rfl) rfl (d_pickF rfl rfl rfl) ?_
      refine l_nil ?_
      refine k_condF rfl rfl ?_
      refine k_exit ?_
      refine x_then (x_then ?_)
      refine x_hit ?_
      refine ⟨_, _, rfl, ?_, ?_, ⟨al, xs, B2, d2, rest, (rest, 0), rfl, hb2, hall, hxl, hd2, ⟨fun h => absurd rfl h, by simp, by simp⟩, fun _ => rfl, H.sub (by repeat (first | exact List.Sublist.refl _ | exact List.nil_sublist _ | refine List.Sublist.cons_cons _ ?_ | refine List.Sublist.cons _ ?_))⟩⟩
      · repeat (first | (with_reducible exact Eqo.refl) | ((with_reducible refine Eqo.updl _ (Eqo.ovr2 ?_ ?_) ?_); rotate_left; exact rfl; exact rfl) | ((with_reducible refine Eqo.upd ?_ ?_); rotate_left; exact rfl))
      · refine ⟨?_, trivial⟩
        · exact rfl
  clear H; obtain ⟨al, xs, B2, d2, rest, s', rfl, hb2, hall, hxl, hd2, hok, hs0, H⟩ := hJ
  refine k_seq ?_
  have hle := all_le hall
  have hlb : (Th.lay al).length ≤ b.length := by rw [hb2, List.length_append]; omega
  refine k_region ?_
  refine s_run (w_none rfl) rfl (mv_s rfl rfl) ?_
  refine s_eff (e_call (w_none rfl) rfl rfl Tryd.func43 rfl rfl rfl (laidThings _ (rl_all hall (H.rowrd (A := B2)) hd2 (H.get (f := RdYP 5 96 r3 A3 b.length c3 (· = b) s'))) (H.gat hG) (by omega) (fun x hx => by have := hle x hx; omega)) ?_)
  rintro _ W ⟨A4, c4, rfl, hc4, hd4, hn⟩
  replace H := H.new hn
  clear hn
  refine s_run (w_none rfl) rfl (as_s rfl rfl) ?_
  refine l_nil ?_
  refine k_seq ?_
  refine k_seq ?_
  rcases (show s'.2 = 0 ∨ ¬ s'.2 = 0 by omega) with he | he
  · obtain rfl := hs0 he
    refine k_region ?_
    refine s_run (w_none rfl) rfl (mv_p rfl rfl) ?_
    refine s_eff (e_call (w_none rfl) rfl rfl Tryd.func39 rfl rfl rfl (prgBad _ (H.get (f := RdYP 5 96 r3 A3 b.length c3 (· = b) (rest, 0)))) ?_)
    rintro _ W ⟨rfl, hb⟩
    replace H := H.below hb
    clear hb
    refine s_run (w_none rfl) rfl (d_not rfl rfl) ?_
    refine s_run (w_none rfl) rfl (mv_bx (c := true) rfl rfl (by simp)) ?_
    refine s_run (w_g rfl rfl rfl rfl) rfl (mv_s rfl rfl) ?_
    refine s_run (w_g rfl rfl rfl rfl) rfl (d_len rfl rfl tu23) ?_
    refine s_run (w_g rfl rfl rfl rfl) rfl (mv_p rfl rfl) ?_
    refine s_eff (e_call (w_g rfl rfl rfl rfl) rfl rfl Tryd.func35 rfl rfl rfl (prgLeft _ (H.get (f := RdYP 5 96 r3 A3 b.length c3 (· = b) (rest, 0)))) ?_)
    rintro _ W ⟨rfl, hb⟩
    replace H := H.below hb
    clear hb
    refine s_run (w_g rfl rfl rfl rfl) rfl (d_add rfl rfl rfl (by have h9 := congrArg List.length hb2; rw [List.length_append] at h9; dsimp only; omega)) ?_
    refine s_run (w_g rfl rfl rfl rfl) rfl (mv_s rfl rfl) ?_
    refine s_run (w_g rfl rfl rfl rfl) rfl (d_len rfl rfl tu23) ?_
    refine s_run (w_g rfl rfl rfl rfl) rfl (d_ne rfl rfl rfl) ?_
    refine s_run (w_none rfl) rfl (d_pickT rfl rfl rfl) ?_
    refine l_nil ?_
    refine k_condF rfl (by have := congrArg List.length hb2; rw [List.length_append] at this; simp; omega) ?_
    refine k_skip ?_
    refine k_seq ?_
    refine k_region ?_
    refine s_run (w_none rfl) rfl (mv_s rfl rfl) ?_
    refine s_run (w_none rfl) rfl (d_len rfl rfl tu23) ?_
    refine s_run (w_none rfl) rfl (mv_s rfl rfl) ?_
    refine s_run (w_none rfl) rfl (d_len rfl rfl tu23) ?_
    refine s_run (w_none rfl) rfl (d_le rfl rfl rfl) ?_
    refine s_run (w_none rfl) rfl (mv_bx (c := true) rfl rfl (by simp; omega)) ?_
    refine s_run (w_g rfl rfl rfl rfl) rfl (mv_s rfl rfl) ?_
    refine s_run (w_g rfl rfl rfl rfl) rfl (mv_s rfl rfl) ?_
    refine s_run (w_g rfl rfl rfl rfl) rfl (mv_s rfl rfl) ?_
    refine s_run (w_g rfl rfl rfl rfl) rfl (d_len rfl rfl tu23) ?_
    refine s_run (w_g rfl rfl rfl rfl) rfl (d_cutP rfl rfl (h := (Th.lay al).length) rfl (by omega) rfl tu23 ts5) ?_
    refine s_eff (e_call (w_g rfl rfl rfl rfl) rfl rfl Tryd.func22 rfl rfl rfl (sameBytes _ _ (Th.lay al) (b.take (Th.lay al).length) _ (H.rowbs (A := A4) rfl) ((H.bs hb0).pre (h := (Th.lay al).length) rfl hlb)) ?_)
    rw [decide_eq_true (by rw [hb2, List.take_left])]
    rintro _ W ⟨rfl, hb⟩
    replace H := H.below hb
    clear hb
    refine s_run (w_none rfl) rfl (d_pickT rfl rfl rfl) ?_
    refine s_run (w_none rfl) rfl (mv_bx (c := true) rfl rfl (rfl)) ?_
    refine s_eff (e_call (w_g rfl rfl rfl rfl) rfl rfl Tryd.func23 rfl rfl rfl (works03 _ (H.gat hG)) ?_)
    rintro _ W ⟨rfl, hb⟩
    replace H := H.below hb
    clear hb
    refine s_run (w_none rfl) rfl (d_pickT rfl rfl rfl) ?_
    refine s_run (w_none rfl) rfl (as_b rfl rfl) ?_
    refine l_nil ?_
    refine k_ret ?_
    repeat (first | refine r_then ?_ | refine r_blk ?_)
    exact q_ret (v := .bool _) rfl rfl ⟨_, rfl, rfl, H.under⟩
  · skip
    refine k_region ?_
    refine s_run (w_none rfl) rfl (mv_p rfl rfl) ?_
    refine s_eff (e_call (w_none rfl) rfl rfl Tryd.func39 rfl rfl rfl (prgBad _ (H.get (f := RdYP 5 96 r3 A3 b.length c3 (· = b) s'))) ?_)
    rintro _ W ⟨rfl, hb⟩
    replace H := H.below hb
    clear hb
    refine s_run (w_none rfl) rfl (d_not rfl rfl) ?_
    refine s_run (w_none rfl) rfl (mv_bx (c := false) rfl rfl (by simp [he])) ?_
    refine s_skip (w_gno rfl rfl rfl rfl rfl) rfl ?_
    refine s_skip (w_gno rfl rfl rfl rfl rfl) rfl ?_
    refine s_skip (w_gno rfl rfl rfl rfl rfl) rfl ?_
    refine s_skip (w_gno rfl rfl rfl rfl rfl) rfl ?_
    refine s_skip (w_gno rfl rfl rfl rfl rfl) rfl ?_
    refine s_skip (w_gno rfl rfl rfl rfl rfl) rfl ?_
    refine s_skip (w_gno rfl rfl rfl rfl rfl) rfl ?_
    refine s_skip (w_gno rfl rfl rfl rfl rfl) rfl ?_
    refine s_run (w_none rfl) rfl (d_pickF rfl rfl rfl) ?_
    refine l_nil ?_
    refine k_condF rfl rfl ?_
    refine k_skip ?_
    refine k_seq ?_
    refine k_region ?_
    refine s_run (w_none rfl) rfl (mv_s rfl rfl) ?_
    refine s_run (w_none rfl) rfl (d_len rfl rfl tu23) ?_
    refine s_run (w_none rfl) rfl (mv_s rfl rfl) ?_
    refine s_run (w_none rfl) rfl (d_len rfl rfl tu23) ?_
    refine s_run (w_none rfl) rfl (d_le rfl rfl rfl) ?_
    refine s_run (w_none rfl) rfl (mv_bx (c := true) rfl rfl (by simp; omega)) ?_
    refine s_run (w_g rfl rfl rfl rfl) rfl (mv_s rfl rfl) ?_
    refine s_run (w_g rfl rfl rfl rfl) rfl (mv_s rfl rfl) ?_
    refine s_run (w_g rfl rfl rfl rfl) rfl (mv_s rfl rfl) ?_
    refine s_run (w_g rfl rfl rfl rfl) rfl (d_len rfl rfl tu23) ?_
    refine s_run (w_g rfl rfl rfl rfl) rfl (d_cutP rfl rfl (h := (Th.lay al).length) rfl (by omega) rfl tu23 ts5) ?_
    refine s_eff (e_call (w_g rfl rfl rfl rfl) rfl rfl Tryd.func22 rfl rfl rfl (sameBytes _ _ (Th.lay al) (b.take (Th.lay al).length) _ (H.rowbs (A := A4) rfl) ((H.bs hb0).pre (h := (Th.lay al).length) rfl hlb)) ?_)
    rw [decide_eq_true (by rw [hb2, List.take_left])]
    rintro _ W ⟨rfl, hb⟩
    replace H := H.below hb
    clear hb
    refine s_run (w_none rfl) rfl (d_pickT rfl rfl rfl) ?_
    refine s_run (w_none rfl) rfl (mv_bx (c := true) rfl rfl (rfl)) ?_
    refine s_eff (e_call (w_g rfl rfl rfl rfl) rfl rfl Tryd.func23 rfl rfl rfl (works03 _ (H.gat hG)) ?_)
    rintro _ W ⟨rfl, hb⟩
    replace H := H.below hb
    clear hb
    refine s_run (w_none rfl) rfl (d_pickT rfl rfl rfl) ?_
    refine s_run (w_none rfl) rfl (as_b rfl rfl) ?_
    refine l_nil ?_
    refine k_ret ?_
    repeat (first | refine r_then ?_ | refine r_blk ?_)
    exact q_ret (v := .bool _) rfl rfl ⟨_, rfl, rfl, H.under⟩

theorem packFormA {S : Nat → Prop} {v u : Value} {b : List UInt8} (w : World) (hG : Gat w 0 formsC) (hb : Bs w S v b) (hlo : 4096 < b.length) : Calls Tryd.prog 8 [v, u].toArray w (Ret (Is w (.bool true))) := by
  obtain ⟨A, c, rfl, _, _, _⟩ := hb.op
  refine k_enter (l := [_, _]) Tryd.func8 rfl rfl ?_
  have H := St.start nT w
  refine k_seq ?_
  refine k_region ?_
  refine s_run (w_none rfl) rfl (as_b rfl rfl) ?_
  refine l_nil ?_
  refine k_seq ?_
  refine k_seq ?_
  refine k_region ?_
  refine s_run (w_none rfl) rfl (mv_s rfl rfl) ?_
  refine s_run (w_none rfl) rfl (d_len rfl rfl tu23) ?_
  refine s_run (w_none rfl) rfl (d_gt rfl rfl rfl) ?_
  refine l_nil ?_
  refine k_condT rfl (by simp; omega) ?_
  refine k_seq ?_
  refine k_region ?_
  refine s_eff (e_call (w_none rfl) rfl rfl Tryd.func23 rfl rfl rfl (works03 _ (H.gat hG)) ?_)
  rintro _ W ⟨rfl, hb⟩
  replace H := H.below hb
  clear hb
  refine s_run (w_none rfl) rfl (as_b rfl rfl) ?_
  refine l_nil ?_
  refine k_ret ?_
  repeat (first | refine r_then ?_ | refine r_blk ?_)
  exact q_ret (v := .bool _) rfl rfl ⟨_, rfl, rfl, H.under⟩
end Go.Proofs.YtejaohlijaodjaaDoor
