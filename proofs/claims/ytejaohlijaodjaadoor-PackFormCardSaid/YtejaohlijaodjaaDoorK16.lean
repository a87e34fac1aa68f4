/- Things laid and read. -/
import Derived.Test.YtejaohlijaodjaaDoorK15
import Derived.Test.YtejaohlijaodjaaDoorOpS
namespace Go.Proofs.YtejaohlijaodjaaDoor
open Go Go.RowKit
attribute [local irreducible] wpList

namespace Th
def enc (x : DThing) : List UInt8 := if x.kind = 1 then Pk.blob x.b else if x.kind = 2 then x.h else if x.kind = 3 then x.t else Pk.int (Pk.toU x.n)
def lay (l : List DThing) : List UInt8 := (l.map enc).flatten
def Ok (x : DThing) : Prop := (-9223372036854775808 ≤ x.kind ∧ x.kind ≤ 9223372036854775807) ∧ (-9223372036854775808 ≤ x.n ∧ x.n ≤ 9223372036854775807) ∧ x.h.length = 32 ∧ x.t.length = 16
def bigX (x : DThing) : Bool := decide (512 < x.b.length) || ((decide (x.kind < 1) || decide (3 < x.kind)) && decide (x.n < 0))
def big (l : List DThing) : Bool := decide (40 < l.length) || l.any bigX
theorem big_many {l : List DThing} (h : 40 < l.length) : big l = true := by simp [big, h]
theorem big_some {l : List DThing} {i : Nat} {x : DThing} (hx : l[i]? = some x) (h : bigX x = true) : big l = true := by
  unfold big
  rw [List.any_eq_true.2 ⟨x, List.mem_of_getElem? hx, h⟩, Bool.or_true]
theorem any_step {l : List DThing} {i : Nat} {x : DThing} (hx : l[i]? = some x) (h : (l.take i).any bigX = false) (hb : bigX x = false) : (l.take (i + 1)).any bigX = false := by
  rw [take_get hx, List.any_append, h]; simp [hb]
theorem big_none {l : List DThing} (hl : l.length ≤ 40) (h : l.any bigX = false) : big l = false := by simp only [big, h, Bool.or_false]; simp; omega
theorem not_big {l : List DThing} (h : big l = false) : l.length ≤ 40 ∧ ∀ x ∈ l, bigX x = false := by
  unfold big at h
  rw [Bool.or_eq_false_iff] at h
  refine ⟨by have := h.1; simp at this; omega, fun x hx => ?_⟩
  have := List.any_eq_false.1 h.2 x hx
  simpa using this
theorem small {x : DThing} (h : bigX x = false) : x.b.length ≤ 512 ∧ ((x.kind < 1 ∨ 3 < x.kind) → 0 ≤ x.n) := by
  unfold bigX at h
  simp at h
  omega
theorem lay_at {l : List DThing} {i : Nat} {x : DThing} {e : List UInt8} (hx : l[i]? = some x) (he : enc x = e) : lay (l.take (i + 1)) = lay (l.take i) ++ e := by
  unfold lay
  rw [take_get hx, List.map_append, List.flatten_append]
  simp [he]
theorem lay_drop {l : List DThing} {i : Nat} {x : DThing} (hx : l[i]? = some x) : lay (l.drop i) = enc x ++ lay (l.drop (i + 1)) := by
  obtain ⟨h, e⟩ := List.getElem?_eq_some_iff.1 hx
  unfold lay
  rw [List.drop_eq_getElem_cons h, e]
  simp
theorem lay_take {l : List DThing} (i : Nat) : (lay (l.take i)).length ≤ (lay l).length := by
  have e : lay l = lay (l.take i) ++ lay (l.drop i) := by
    unfold lay
    rw [← List.flatten_append, ← List.map_append, List.take_append_drop]
  rw [e, List.length_append]; omega
theorem lay_end {l : List DThing} : lay (l.drop l.length) = [] := by simp [lay]
theorem len_enc {x : DThing} (h : Ok x) (hb : x.b.length ≤ 512) : (enc x).length ≤ 600 := by
  have h1 := Pk.len_int x.b.length
  have h2 := Pk.len_int (Pk.toU x.n)
  obtain ⟨_, _, h3, h4⟩ := h
  unfold enc Pk.blob
  split
  · rw [List.length_append]; omega
  · split
    · omega
    · split <;> omega
theorem len_lay : ∀ {l : List DThing}, (∀ x ∈ l, (enc x).length ≤ 600) → (lay l).length ≤ l.length * 600
  | [], _ => by simp [lay]
  | x :: l, h => by
    have ih := len_lay (l := l) (fun y hy => h y (.tail _ hy))
    have hx := h x (.head _)
    unfold lay at ih ⊢
    rw [List.map_cons, List.flatten_cons, List.length_append, List.length_cons]
    omega
def most (room : Int) (x : DThing) : Int := max x.n (IntKind.i64.wrap (x.n + room))
def rdS (room : Int) (x : DThing) (s : RS) : RS := if x.kind = 1 then (Pk.rBlob ((x.b.length : Int) + room) s).2 else if x.kind = 2 then (Pk.rBytes 32 s).2 else if x.kind = 3 then (Pk.rBytes 16 s).2 else if x.kind = 4 then (Pk.rCount (most room x) s).2 else (Pk.rInt s).2
def rdB (room : Int) (x : DThing) (s : RS) : Bool := if x.kind = 1 then decide ((Pk.rBlob ((x.b.length : Int) + room) s).1 = x.b) else if x.kind = 2 then (Pk.rBytes 32 s).1 == x.h else if x.kind = 3 then (Pk.rBytes 16 s).1 == x.t else if x.kind = 4 then ((Pk.rCount (most room x) s).1 : Int) == x.n else ((Pk.rInt s).1 : Int) == x.n
section
variable {room : Int} {x : DThing} {s : RS}
theorem rd1 (h : x.kind = 1) : rdS room x s = (Pk.rBlob ((x.b.length : Int) + room) s).2 ∧ rdB room x s = decide ((Pk.rBlob ((x.b.length : Int) + room) s).1 = x.b) := by unfold rdS rdB; rw [if_pos h, if_pos h]; exact ⟨rfl, rfl⟩
theorem rd2 (h : x.kind = 2) : rdS room x s = (Pk.rBytes 32 s).2 ∧ rdB room x s = ((Pk.rBytes 32 s).1 == x.h) := by unfold rdS rdB; simp [h]
theorem rd3 (h : x.kind = 3) : rdS room x s = (Pk.rBytes 16 s).2 ∧ rdB room x s = ((Pk.rBytes 16 s).1 == x.t) := by unfold rdS rdB; simp [h]
theorem rd4 (h : x.kind = 4) : rdS room x s = (Pk.rCount (most room x) s).2 ∧ rdB room x s = (((Pk.rCount (most room x) s).1 : Int) == x.n) := by unfold rdS rdB; simp [h]
theorem rd0 (h1 : ¬ x.kind = 1) (h2 : ¬ x.kind = 2) (h3 : ¬ x.kind = 3) (h4 : ¬ x.kind = 4) : rdS room x s = (Pk.rInt s).2 ∧ rdB room x s = (((Pk.rInt s).1 : Int) == x.n) := by unfold rdS rdB; simp [h1, h2, h3, h4]
theorem ok_rdS (h : Pk.Ok s) : Pk.Ok (rdS room x s) := by
  unfold rdS
  split
  · exact Pk.ok_next (Pk.ok_rCount h)
  · split
    · exact Pk.ok_next h
    · split
      · exact Pk.ok_next h
      · split
        · exact Pk.ok_rCount h
        · exact Pk.ok_rInt h
end
theorem most_ge {room : Int} {x : DThing} : x.n ≤ most room x := by unfold most; omega
/-- A thing that was laid is read again. -/
theorem rd_enc {room : Int} {x : DThing} (h : Ok x) (hb : bigX x = false) (hr : 0 ≤ room ∧ room < 1000) (r : List UInt8) : rdS room x (enc x ++ r, 0) = (r, 0) ∧ rdB room x (enc x ++ r, 0) = true := by
  obtain ⟨s1, s2⟩ := small hb
  obtain ⟨_, hn, h3, h4⟩ := h
  have hu : 0 ≤ x.n → Pk.toU x.n = x.n.toNat := fun h0 => Pk.toU_pos _ h0 (by omega)
  by_cases k1 : x.kind = 1
  · rw [(rd1 k1).1, (rd1 k1).2]
    unfold enc
    rw [if_pos k1, Pk.rBlob_blob (by omega) (by omega)]
    simp
  by_cases k2 : x.kind = 2
  · rw [(rd2 k2).1, (rd2 k2).2]
    unfold enc
    rw [if_neg k1, if_pos k2, Pk.rBytes_app h3]
    simp
  by_cases k3 : x.kind = 3
  · rw [(rd3 k3).1, (rd3 k3).2]
    unfold enc
    rw [if_neg k1, if_neg k2, if_pos k3, Pk.rBytes_app h4]
    simp
  have h0 := s2 (by omega)
  have e : enc x = Pk.int (x.n.toNat) := by unfold enc; rw [if_neg k1, if_neg k2, if_neg k3, hu h0]
  by_cases k4 : x.kind = 4
  · have hm := most_ge (room := room) (x := x)
    rw [(rd4 k4).1, (rd4 k4).2, e, Pk.rCount_int (by omega) (by omega)]
    simp; omega
  · rw [(rd0 k1 k2 k3 k4).1, (rd0 k1 k2 k3 k4).2, e, Pk.rInt_int (by omega)]
    simp; omega
theorem rd_lay {room : Int} {l : List DThing} {i : Nat} {x : DThing} {m : List UInt8} (hx : l[i]? = some x) (h : Ok x) (hb : bigX x = false) (hr : 0 ≤ room ∧ room < 1000) : rdS room x (lay (l.drop i) ++ m, 0) = (lay (l.drop (i + 1)) ++ m, 0) ∧ rdB room x (lay (l.drop i) ++ m, 0) = true := by
  rw [lay_drop hx, List.append_assoc]
  exact rd_enc h hb hr _
end Th
/-- A thing, as it lies. -/
theorem thing_of {W : World} {S : Nat → Prop} {cs : List Value} {x : DThing} (h : RThing W S cs x) : ∃ B d, cs = thingC x.kind x.n B x.b.length d x.h x.t ∧ Bs W S (.slice B x.b.length d) x.b ∧ Th.Ok x := by
  obtain ⟨c0, c1, c2, c3, c4, rfl, ⟨rfl, r0⟩, ⟨rfl, r1⟩, ⟨v, rfl, hb⟩, ⟨rfl, r3⟩, ⟨rfl, r4⟩⟩ := h
  obtain ⟨B, d, rfl, _⟩ := hb.op
  exact ⟨B, d, rfl, hb, r0, r1, r3, r4⟩
theorem things_ok {W : World} {S : Nat → Prop} {l : List DThing} {xs : List Value} (h : ∀ (i : Nat) (x : DThing), l[i]? = some x → RThing W S (sub xs (i * 51) 51) x) : ∀ x ∈ l, Th.Ok x := fun x hx => by
  obtain ⟨i, hi⟩ := List.getElem?_of_mem hx
  obtain ⟨_, _, _, _, h⟩ := thing_of (h i x hi)
  exact h
theorem end_iff (m : List UInt8) : ((Pk.rEnd (m, 0) == 0) == ((m.length : Int) == 0)) = true := by
  cases m with
  | nil => decide
  | cons a m =>
    have e : Pk.rEnd (a :: m, 0) = 5 := by unfold Pk.rEnd; rw [if_pos (by simp)]
    rw [e]
    simp
    omega

set_option maxHeartbeats 4000000 in
theorem bigThings {S : Nat → Prop} {v : Value} {l : List DThing} (w : World) (hl : RL 51 RThing w S [v] l) : Calls Tryd.prog 41 [v].toArray w (Ret (Is w (.bool (Th.big l)))) := by
  obtain ⟨A, c, xs, hv, hc, hcm, hr, hel⟩ := hl
  obtain rfl : v = .slice A l.length c := by cases hv; rfl
  refine k_enter (l := [_]) Tryd.func41 rfl rfl ?_
  have H := St.start nT w
  refine k_seq ?_
  refine k_region ?_
  refine s_run (w_none rfl) rfl (as_b rfl rfl) ?_
  refine l_nil ?_
  refine k_seq ?_
  refine k_seq ?_
  refine k_region ?_
  refine s_run (w_none rfl) rfl (mv_s rfl rfl) ?_
  refine s_run (w_none rfl) rfl (d_len rfl rfl tu55) ?_
  refine s_run (w_none rfl) rfl (d_gt rfl rfl rfl) ?_
  refine l_nil ?_
  refine k_cond rfl (fun hc7 => ?_) (fun hc7 => ?_)
  · first | (replace hc7 := of_decide_eq_true hc7) | simp at hc7
    refine k_seq ?_
    refine k_region ?_
    refine s_run (w_none rfl) rfl (as_b rfl rfl) ?_
    refine l_nil ?_
    refine k_ret ?_
    repeat (first | refine r_then ?_ | refine r_blk ?_)
    exact q_ret (v := .bool _) rfl rfl ⟨_, rfl, vb (Th.big_many (by omega)).symm, H.under⟩
  · first | (replace hc7 := of_decide_eq_false hc7) | simp at hc7
    refine k_skip ?_
    refine k_seq ?_
    refine k_seq ?_
    refine k_region ?_
    refine s_run (w_none rfl) rfl (as_i rfl rfl) ?_
    refine l_nil ?_
    refine k_block ?_
    refine k_loop 8 [2, 3, 4] (fun mm sl W => ∃ i : Nat, l.length - i = mm ∧ sl = [(3, .int .i64 (i : Int))] ∧ (i ≤ l.length) ∧ ((l.take i).any Th.bigX = false) ∧ St nT w W []) _ _ ⟨0, rfl, rfl, Nat.zero_le _, rfl, H⟩ ⟨rfl, trivial⟩ (fun mm sl ρv W hJ => ?_)
    clear H; obtain ⟨i, rfl, rfl, hi, hno, H⟩ := hJ
    refine k_one ?_
    refine k_seq ?_
    refine k_seq ?_
    refine k_region ?_
    refine s_run (w_none rfl) rfl (mv_i rfl rfl) ?_
    refine s_run (w_none rfl) rfl (mv_s rfl rfl) ?_
    refine s_run (w_none rfl) rfl (d_len rfl rfl tu55) ?_
    refine s_run (w_none rfl) rfl (d_lt rfl rfl rfl) ?_
    refine l_nil ?_
    refine k_cond rfl (fun hc11 => ?_) (fun hc11 => ?_)
    · replace hc11 := of_decide_eq_true hc11
      have hlt : i < l.length := by omega
      obtain ⟨g0, o0, rfl, -⟩ := hr.2 (by omega)
      obtain ⟨x, hx⟩ := get_lt hlt
      obtain ⟨B, d, hL, hB, hok⟩ := thing_of (hel i x hx)
      have hh := hok.2.2.1
      have ht := hok.2.2.2
      refine k_skip ?_
      refine k_seq ?_
      refine k_block ?_
      refine k_seq ?_
      rcases (show x.kind < 1 ∨ (1 ≤ x.kind ∧ x.kind ≤ 3) ∨ 3 < x.kind by omega) with hk | hk | hk
      · skip
        refine k_region ?_
        refine s_run (w_none rfl) rfl (mv_s rfl rfl) ?_
        refine s_run (w_none rfl) rfl (mv_i rfl rfl) ?_
        refine s_run (w_none rfl) rfl (d_iaG rfl (H.rd hr) rfl rfl (q := i) rfl hlt tu55 ts40) ?_
        refine s_run (w_none rfl) rfl (d_fa rfl rfl tf40_0) ?_
        refine s_run (w_none rfl) rfl (d_ldE (off := 0) rfl (H.rd hr) hlt hL rfl rfl rfl (by omega) ta3) ?_
        refine s_run (w_none rfl) rfl (d_lt rfl rfl rfl) ?_
        refine s_run (w_none rfl) rfl (mv_bx (c := true) rfl rfl (by simp; omega)) ?_
        refine s_skip (w_gno rfl rfl rfl rfl rfl) rfl ?_
        refine s_skip (w_gno rfl rfl rfl rfl rfl) rfl ?_
        refine s_skip (w_gno rfl rfl rfl rfl rfl) rfl ?_
        refine s_skip (w_gno rfl rfl rfl rfl rfl) rfl ?_
        refine s_skip (w_gno rfl rfl rfl rfl rfl) rfl ?_
        refine s_skip (w_gno rfl rfl rfl rfl rfl) rfl ?_
        refine s_run (w_none rfl) rfl (d_pickT rfl rfl rfl) ?_
        refine s_run (w_none rfl) rfl (as_b rfl rfl) ?_
        refine l_nil ?_
        refine k_seq ?_
        rcases Nat.lt_or_ge 512 x.b.length with hm | hm
        · skip
          refine k_region ?_
          refine s_run (w_none rfl) rfl (mv_s rfl rfl) ?_
          refine s_run (w_none rfl) rfl (mv_i rfl rfl) ?_
          refine s_run (w_none rfl) rfl (d_iaG rfl (H.rd hr) rfl rfl (q := i) rfl hlt tu55 ts40) ?_
          refine s_run (w_none rfl) rfl (d_fa rfl rfl tf40_2) ?_
          refine s_run (w_none rfl) rfl (d_ldE (off := 2) rfl (H.rd hr) hlt hL rfl rfl rfl (by omega) ta23) ?_
          refine s_run (w_none rfl) rfl (d_len rfl rfl tu23) ?_
          refine s_run (w_none rfl) rfl (d_gt rfl rfl rfl) ?_
          refine s_run (w_none rfl) rfl (mv_bx (c := true) rfl rfl (by simp; omega)) ?_
          refine s_skip (w_gno rfl rfl rfl rfl rfl) rfl ?_
          refine s_skip (w_gno rfl rfl rfl rfl rfl) rfl ?_
          refine s_skip (w_gu rfl rfl rfl rfl rfl) rfl ?_
          refine s_skip (w_gu rfl rfl rfl rfl rfl) rfl ?_
          refine s_skip (w_gu rfl rfl rfl rfl rfl) rfl ?_
          refine s_skip (w_gu rfl rfl rfl rfl rfl) rfl ?_
          refine s_skip (w_gu rfl rfl rfl rfl rfl) rfl ?_
          refine s_skip (w_gu rfl rfl rfl rfl rfl) rfl ?_
          refine s_skip (w_gno rfl rfl rfl rfl rfl) rfl ?_
          refine s_run (w_none rfl) rfl (d_pickT rfl rfl rfl) ?_
          refine l_nil ?_
          refine k_condT rfl rfl ?_
          refine k_seq ?_
          refine k_region ?_
          refine s_run (w_none rfl) rfl (as_b rfl rfl) ?_
          refine l_nil ?_
          refine k_ret ?_
          repeat (first | refine r_then ?_ | refine r_blk ?_)
          exact q_ret (v := .bool _) rfl rfl ⟨_, rfl, vb (Th.big_some hx (by simp [Th.bigX]; omega)).symm, H.under⟩
        · skip
          refine k_region ?_
          refine s_run (w_none rfl) rfl (mv_s rfl rfl) ?_
          refine s_run (w_none rfl) rfl (mv_i rfl rfl) ?_
          refine s_run (w_none rfl) rfl (d_iaG rfl (H.rd hr) rfl rfl (q := i) rfl hlt tu55 ts40) ?_
          refine s_run (w_none rfl) rfl (d_fa rfl rfl tf40_2) ?_
          refine s_run (w_none rfl) rfl (d_ldE (off := 2) rfl (H.rd hr) hlt hL rfl rfl rfl (by omega) ta23) ?_
          refine s_run (w_none rfl) rfl (d_len rfl rfl tu23) ?_
          refine s_run (w_none rfl) rfl (d_gt rfl rfl rfl) ?_
          refine s_run (w_none rfl) rfl (mv_bx (c := false) rfl rfl (by simp; omega)) ?_
          refine s_run (w_g rfl rfl rfl rfl) rfl (mv_b rfl rfl) ?_
          refine s_run (w_g rfl rfl rfl rfl) rfl (mv_bx (c := true) rfl rfl (rfl)) ?_
          refine s_run (w_g rfl rfl rfl rfl) rfl (mv_s rfl rfl) ?_
          refine s_run (w_g rfl rfl rfl rfl) rfl (mv_i rfl rfl) ?_
          refine s_run (w_g rfl rfl rfl rfl) rfl (d_iaG rfl (H.rd hr) rfl rfl (q := i) rfl hlt tu55 ts40) ?_
          refine s_run (w_g rfl rfl rfl rfl) rfl (d_fa rfl rfl tf40_1) ?_
          refine s_run (w_g rfl rfl rfl rfl) rfl (d_ldE (off := 1) rfl (H.rd hr) hlt hL rfl rfl rfl (by omega) ta3) ?_
          refine s_run (w_g rfl rfl rfl rfl) rfl (d_lt rfl rfl rfl) ?_
          refine s_run (w_g rfl rfl rfl rfl) rfl (d_pickT rfl rfl rfl) ?_
          refine s_run (w_none rfl) rfl (d_pickF rfl rfl rfl) ?_
          refine l_nil ?_
          refine k_cond rfl (fun hc45 => ?_) (fun hc45 => ?_)
          · first | (replace hc45 := of_decide_eq_true hc45) | simp at hc45
            refine k_seq ?_
            refine k_region ?_
            refine s_run (w_none rfl) rfl (as_b rfl rfl) ?_
            refine l_nil ?_
            refine k_ret ?_
            repeat (first | refine r_then ?_ | refine r_blk ?_)
            exact q_ret (v := .bool _) rfl rfl ⟨_, rfl, vb (Th.big_some hx (by simp [Th.bigX]; omega)).symm, H.under⟩
          · first | (replace hc45 := of_decide_eq_false hc45) | simp at hc45
            refine k_skip ?_
            refine k_nil ?_
            refine b_end ?_
            refine k_region ?_
            refine s_run (w_none rfl) rfl (mv_i rfl rfl) ?_
            refine s_run (w_none rfl) rfl (d_add rfl rfl rfl (by omega)) ?_
            refine s_run (w_none rfl) rfl (as_i rfl rfl) ?_
            refine l_nil ?_
            refine k_nil ?_
            refine k_next ?_
            refine ⟨_, _, _, ?_, rfl, ?_, ?_, ⟨i + 1, rfl, rfl, by omega, Th.any_step hx hno (by simp [Th.bigX]; omega), H⟩⟩
            · omega
            · repeat (first | ((with_reducible refine Eqo.updl _ Eqo.ovr ?_); exact rfl) | ((with_reducible refine Eqo.updl _ (Eqo.ovr2 ?_ ?_) ?_); rotate_left; exact rfl; exact rfl) | ((with_reducible refine Eqo.upd ?_ ?_); rotate_left; exact rfl))
            · refine ⟨?_, trivial⟩
              · exact vi (by omega)
      · skip
        refine k_region ?_
        refine s_run (w_none rfl) rfl (mv_s rfl rfl) ?_
        refine s_run (w_none rfl) rfl (mv_i rfl rfl) ?_
        refine s_run (w_none rfl) rfl (d_iaG rfl (H.rd hr) rfl rfl (q := i) rfl hlt tu55 ts40) ?_
        refine s_run (w_none rfl) rfl (d_fa rfl rfl tf40_0) ?_
        refine s_run (w_none rfl) rfl (d_ldE (off := 0) rfl (H.rd hr) hlt hL rfl rfl rfl (by omega) ta3) ?_
        refine s_run (w_none rfl) rfl (d_lt rfl rfl rfl) ?_
        refine s_run (w_none rfl) rfl (mv_bx (c := false) rfl rfl (by simp; omega)) ?_
        refine s_run (w_g rfl rfl rfl rfl) rfl (mv_s rfl rfl) ?_
        refine s_run (w_g rfl rfl rfl rfl) rfl (mv_i rfl rfl) ?_
        refine s_run (w_g rfl rfl rfl rfl) rfl (d_iaG rfl (H.rd hr) rfl rfl (q := i) rfl hlt tu55 ts40) ?_
        refine s_run (w_g rfl rfl rfl rfl) rfl (d_fa rfl rfl tf40_0) ?_
        refine s_run (w_g rfl rfl rfl rfl) rfl (d_ldE (off := 0) rfl (H.rd hr) hlt hL rfl rfl rfl (by omega) ta3) ?_
        refine s_run (w_g rfl rfl rfl rfl) rfl (d_gt rfl rfl rfl) ?_
        refine s_run (w_none rfl) rfl (d_pickF rfl rfl rfl) ?_
        refine s_run (w_none rfl) rfl (as_b rfl rfl) ?_
        refine l_nil ?_
        refine k_seq ?_
        rcases Nat.lt_or_ge 512 x.b.length with hm | hm
        · skip
          refine k_region ?_
          refine s_run (w_none rfl) rfl (mv_s rfl rfl) ?_
          refine s_run (w_none rfl) rfl (mv_i rfl rfl) ?_
          refine s_run (w_none rfl) rfl (d_iaG rfl (H.rd hr) rfl rfl (q := i) rfl hlt tu55 ts40) ?_
          refine s_run (w_none rfl) rfl (d_fa rfl rfl tf40_2) ?_
          refine s_run (w_none rfl) rfl (d_ldE (off := 2) rfl (H.rd hr) hlt hL rfl rfl rfl (by omega) ta23) ?_
          refine s_run (w_none rfl) rfl (d_len rfl rfl tu23) ?_
          refine s_run (w_none rfl) rfl (d_gt rfl rfl rfl) ?_
          refine s_run (w_none rfl) rfl (mv_bx (c := true) rfl rfl (by simp; omega)) ?_
          refine s_skip (w_gno rfl rfl rfl rfl rfl) rfl ?_
          refine s_skip (w_gno rfl rfl rfl rfl rfl) rfl ?_
          refine s_skip (w_gu rfl rfl rfl rfl rfl) rfl ?_
          refine s_skip (w_gu rfl rfl rfl rfl rfl) rfl ?_
          refine s_skip (w_gu rfl rfl rfl rfl rfl) rfl ?_
          refine s_skip (w_gu rfl rfl rfl rfl rfl) rfl ?_
          refine s_skip (w_gu rfl rfl rfl rfl rfl) rfl ?_
          refine s_skip (w_gu rfl rfl rfl rfl rfl) rfl ?_
          refine s_skip (w_gno rfl rfl rfl rfl rfl) rfl ?_
          refine s_run (w_none rfl) rfl (d_pickT rfl rfl rfl) ?_
          refine l_nil ?_
          refine k_condT rfl rfl ?_
          refine k_seq ?_
          refine k_region ?_
          refine s_run (w_none rfl) rfl (as_b rfl rfl) ?_
          refine l_nil ?_
          refine k_ret ?_
          repeat (first | refine r_then ?_ | refine r_blk ?_)
          exact q_ret (v := .bool _) rfl rfl ⟨_, rfl, vb (Th.big_some hx (by simp [Th.bigX]; omega)).symm, H.under⟩
        · skip
          refine k_region ?_
          refine s_run (w_none rfl) rfl (mv_s rfl rfl) ?_
          refine s_run (w_none rfl) rfl (mv_i rfl rfl) ?_
          refine s_run (w_none rfl) rfl (d_iaG rfl (H.rd hr) rfl rfl (q := i) rfl hlt tu55 ts40) ?_
          refine s_run (w_none rfl) rfl (d_fa rfl rfl tf40_2) ?_
          refine s_run (w_none rfl) rfl (d_ldE (off := 2) rfl (H.rd hr) hlt hL rfl rfl rfl (by omega) ta23) ?_
          refine s_run (w_none rfl) rfl (d_len rfl rfl tu23) ?_
          refine s_run (w_none rfl) rfl (d_gt rfl rfl rfl) ?_
          refine s_run (w_none rfl) rfl (mv_bx (c := false) rfl rfl (by simp; omega)) ?_
          refine s_run (w_g rfl rfl rfl rfl) rfl (mv_b rfl rfl) ?_
          refine s_run (w_g rfl rfl rfl rfl) rfl (mv_bx (c := false) rfl rfl (by simp; omega)) ?_
          refine s_skip (w_gno rfl rfl rfl rfl rfl) rfl ?_
          refine s_skip (w_gno rfl rfl rfl rfl rfl) rfl ?_
          refine s_skip (w_gno rfl rfl rfl rfl rfl) rfl ?_
          refine s_skip (w_gno rfl rfl rfl rfl rfl) rfl ?_
          refine s_skip (w_gno rfl rfl rfl rfl rfl) rfl ?_
          refine s_skip (w_gno rfl rfl rfl rfl rfl) rfl ?_
          refine s_run (w_g rfl rfl rfl rfl) rfl (d_pickF rfl rfl rfl) ?_
          refine s_run (w_none rfl) rfl (d_pickF rfl rfl rfl) ?_
          refine l_nil ?_
          refine k_condF rfl rfl ?_
          refine k_skip ?_
          refine k_nil ?_
          refine b_end ?_
          refine k_region ?_
          refine s_run (w_none rfl) rfl (mv_i rfl rfl) ?_
          refine s_run (w_none rfl) rfl (d_add rfl rfl rfl (by omega)) ?_
          refine s_run (w_none rfl) rfl (as_i rfl rfl) ?_
          refine l_nil ?_
          refine k_nil ?_
          refine k_next ?_
          refine ⟨_, _, _, ?_, rfl, ?_, ?_, ⟨i + 1, rfl, rfl, by omega, Th.any_step hx hno (by simp [Th.bigX]; omega), H⟩⟩
          · omega
          · repeat (first | ((with_reducible refine Eqo.updl _ Eqo.ovr ?_); exact rfl) | ((with_reducible refine Eqo.updl _ (Eqo.ovr2 ?_ ?_) ?_); rotate_left; exact rfl; exact rfl) | ((with_reducible refine Eqo.upd ?_ ?_); rotate_left; exact rfl))
          · refine ⟨?_, trivial⟩
            · exact vi (by omega)
      · skip
        refine k_region ?_
        refine s_run (w_none rfl) rfl (mv_s rfl rfl) ?_
        refine s_run (w_none rfl) rfl (mv_i rfl rfl) ?_
        refine s_run (w_none rfl) rfl (d_iaG rfl (H.rd hr) rfl rfl (q := i) rfl hlt tu55 ts40) ?_
        refine s_run (w_none rfl) rfl (d_fa rfl rfl tf40_0) ?_
        refine s_run (w_none rfl) rfl (d_ldE (off := 0) rfl (H.rd hr) hlt hL rfl rfl rfl (by omega) ta3) ?_
        refine s_run (w_none rfl) rfl (d_lt rfl rfl rfl) ?_
        refine s_run (w_none rfl) rfl (mv_bx (c := false) rfl rfl (by simp; omega)) ?_
        refine s_run (w_g rfl rfl rfl rfl) rfl (mv_s rfl rfl) ?_
        refine s_run (w_g rfl rfl rfl rfl) rfl (mv_i rfl rfl) ?_
        refine s_run (w_g rfl rfl rfl rfl) rfl (d_iaG rfl (H.rd hr) rfl rfl (q := i) rfl hlt tu55 ts40) ?_
        refine s_run (w_g rfl rfl rfl rfl) rfl (d_fa rfl rfl tf40_0) ?_
        refine s_run (w_g rfl rfl rfl rfl) rfl (d_ldE (off := 0) rfl (H.rd hr) hlt hL rfl rfl rfl (by omega) ta3) ?_
        refine s_run (w_g rfl rfl rfl rfl) rfl (d_gt rfl rfl rfl) ?_
        refine s_run (w_none rfl) rfl (d_pickF rfl rfl rfl) ?_
        refine s_run (w_none rfl) rfl (as_b rfl rfl) ?_
        refine l_nil ?_
        refine k_seq ?_
        rcases Nat.lt_or_ge 512 x.b.length with hm | hm
        · skip
          refine k_region ?_
          refine s_run (w_none rfl) rfl (mv_s rfl rfl) ?_
          refine s_run (w_none rfl) rfl (mv_i rfl rfl) ?_
          refine s_run (w_none rfl) rfl (d_iaG rfl (H.rd hr) rfl rfl (q := i) rfl hlt tu55 ts40) ?_
          refine s_run (w_none rfl) rfl (d_fa rfl rfl tf40_2) ?_
          refine s_run (w_none rfl) rfl (d_ldE (off := 2) rfl (H.rd hr) hlt hL rfl rfl rfl (by omega) ta23) ?_
          refine s_run (w_none rfl) rfl (d_len rfl rfl tu23) ?_
          refine s_run (w_none rfl) rfl (d_gt rfl rfl rfl) ?_
          refine s_run (w_none rfl) rfl (mv_bx (c := true) rfl rfl (by simp; omega)) ?_
          refine s_skip (w_gno rfl rfl rfl rfl rfl) rfl ?_
          refine s_skip (w_gno rfl rfl rfl rfl rfl) rfl ?_
          refine s_skip (w_gu rfl rfl rfl rfl rfl) rfl ?_
          refine s_skip (w_gu rfl rfl rfl rfl rfl) rfl ?_
          refine s_skip (w_gu rfl rfl rfl rfl rfl) rfl ?_
          refine s_skip (w_gu rfl rfl rfl rfl rfl) rfl ?_
          refine s_skip (w_gu rfl rfl rfl rfl rfl) rfl ?_
          refine s_skip (w_gu rfl rfl rfl rfl rfl) rfl ?_
          refine s_skip (w_gno rfl rfl rfl rfl rfl) rfl ?_
          refine s_run (w_none rfl) rfl (d_pickT rfl rfl rfl) ?_
          refine l_nil ?_
          refine k_condT rfl rfl ?_
          refine k_seq ?_
          refine k_region ?_
          refine s_run (w_none rfl) rfl (as_b rfl rfl) ?_
          refine l_nil ?_
          refine k_ret ?_
          repeat (first | refine r_then ?_ | refine r_blk ?_)
          exact q_ret (v := .bool _) rfl rfl ⟨_, rfl, vb (Th.big_some hx (by simp [Th.bigX]; omega)).symm, H.under⟩
        · skip
          refine k_region ?_
          refine s_run (w_none rfl) rfl (mv_s rfl rfl) ?_
          refine s_run (w_none rfl) rfl (mv_i rfl rfl) ?_
          refine s_run (w_none rfl) rfl (d_iaG rfl (H.rd hr) rfl rfl (q := i) rfl hlt tu55 ts40) ?_
          refine s_run (w_none rfl) rfl (d_fa rfl rfl tf40_2) ?_
          refine s_run (w_none rfl) rfl (d_ldE (off := 2) rfl (H.rd hr) hlt hL rfl rfl rfl (by omega) ta23) ?_
          refine s_run (w_none rfl) rfl (d_len rfl rfl tu23) ?_
          refine s_run (w_none rfl) rfl (d_gt rfl rfl rfl) ?_
          refine s_run (w_none rfl) rfl (mv_bx (c := false) rfl rfl (by simp; omega)) ?_
          refine s_run (w_g rfl rfl rfl rfl) rfl (mv_b rfl rfl) ?_
          refine s_run (w_g rfl rfl rfl rfl) rfl (mv_bx (c := true) rfl rfl (by simp; omega)) ?_
          refine s_run (w_g rfl rfl rfl rfl) rfl (mv_s rfl rfl) ?_
          refine s_run (w_g rfl rfl rfl rfl) rfl (mv_i rfl rfl) ?_
          refine s_run (w_g rfl rfl rfl rfl) rfl (d_iaG rfl (H.rd hr) rfl rfl (q := i) rfl hlt tu55 ts40) ?_
          refine s_run (w_g rfl rfl rfl rfl) rfl (d_fa rfl rfl tf40_1) ?_
          refine s_run (w_g rfl rfl rfl rfl) rfl (d_ldE (off := 1) rfl (H.rd hr) hlt hL rfl rfl rfl (by omega) ta3) ?_
          refine s_run (w_g rfl rfl rfl rfl) rfl (d_lt rfl rfl rfl) ?_
          refine s_run (w_g rfl rfl rfl rfl) rfl (d_pickT rfl rfl rfl) ?_
          refine s_run (w_none rfl) rfl (d_pickF rfl rfl rfl) ?_
          refine l_nil ?_
          refine k_cond rfl (fun hc45 => ?_) (fun hc45 => ?_)
          · first | (replace hc45 := of_decide_eq_true hc45) | simp at hc45
            refine k_seq ?_
            refine k_region ?_
            refine s_run (w_none rfl) rfl (as_b rfl rfl) ?_
            refine l_nil ?_
            refine k_ret ?_
            repeat (first | refine r_then ?_ | refine r_blk ?_)
            exact q_ret (v := .bool _) rfl rfl ⟨_, rfl, vb (Th.big_some hx (by simp [Th.bigX]; omega)).symm, H.under⟩
          · first | (replace hc45 := of_decide_eq_false hc45) | simp at hc45
            refine k_skip ?_
            refine k_nil ?_
            refine b_end ?_
            refine k_region ?_
            refine s_run (w_none rfl) rfl (mv_i rfl rfl) ?_
            refine s_run (w_none rfl) rfl (d_add rfl rfl rfl (by omega)) ?_
            refine s_run (w_none rfl) rfl (as_i rfl rfl) ?_
            refine l_nil ?_
            refine k_nil ?_
            refine k_next ?_
            refine ⟨_, _, _, ?_, rfl, ?_, ?_, ⟨i + 1, rfl, rfl, by omega, Th.any_step hx hno (by simp [Th.bigX]; omega), H⟩⟩
            · omega
            · repeat (first | ((with_reducible refine Eqo.updl _ Eqo.ovr ?_); exact rfl) | ((with_reducible refine Eqo.updl _ (Eqo.ovr2 ?_ ?_) ?_); rotate_left; exact rfl; exact rfl) | ((with_reducible refine Eqo.upd ?_ ?_); rotate_left; exact rfl))
            · refine ⟨?_, trivial⟩
              · exact vi (by omega)
    · replace hc11 := of_decide_eq_false hc11
      refine k_exit ?_
      refine x_then (x_then ?_)
      refine x_hit ?_
      refine k_seq ?_
      obtain rfl : i = l.length := by omega
      rw [List.take_length] at hno
      refine k_region ?_
      refine s_run (w_none rfl) rfl (as_b rfl rfl) ?_
      refine l_nil ?_
      refine k_ret ?_
      repeat (first | refine r_then ?_ | refine r_blk ?_)
      exact q_ret (v := .bool _) rfl rfl ⟨_, rfl, vb (Th.big_none (by omega) hno).symm, H.under⟩

set_option maxHeartbeats 4000000 in
theorem laidThings {S : Nat → Prop} {v : Value} {l : List DThing} (w : World) (hl : RL 51 RThing w S [v] l) (hG : Gat w 0 formsC) (hlt : (Th.lay l).length ≤ 100000000000) (hs2 : ∀ x ∈ l, x.b.length ≤ 100000000000) : Calls Tryd.prog 43 [v].toArray w (Ret (NewB 5 w (Th.lay l))) := by
  obtain ⟨A, c, xs, hv, hc, hcm, hr, hel⟩ := hl
  obtain rfl : v = .slice A l.length c := by cases hv; rfl
  refine k_enter (l := [_]) Tryd.func43 rfl rfl ?_
  have H := St.start nT w
  refine k_seq ?_
  refine k_region ?_
  refine s_run (w_none rfl) rfl (as_s rfl rfl) ?_
  refine l_nil ?_
  refine k_seq ?_
  refine k_region ?_
  refine s_run (w_none rfl) rfl (as_s rfl rfl) ?_
  refine l_nil ?_
  refine k_seq ?_
  refine k_seq ?_
  refine k_region ?_
  refine s_run (w_none rfl) rfl (as_i rfl rfl) ?_
  refine l_nil ?_
  refine k_block ?_
  refine k_loop 3 [] (fun mm sl W => ∃ i : Nat, ∃ B2 : Option Addr, ∃ d2 : Nat, l.length - i = mm ∧ sl = [(4, .int .i64 (i : Int)), (3, .slice B2 (Th.lay (l.take i)).length d2)] ∧ (i ≤ l.length) ∧ ((Th.lay (l.take i)).length ≤ d2 ∧ d2 ≤ 9223372036854775807) ∧ St nT w W [Fact.row 5 1 (.slice B2 (Th.lay (l.take i)).length d2) (Th.lay (l.take i)).length ((Th.lay (l.take i)).map u8v)]) _ _ ⟨0, none, 0, rfl, rfl, Nat.zero_le _, ⟨Nat.le_refl _, by omega⟩, H.nilrow 5 1⟩ ⟨rfl, rfl, trivial⟩ (fun mm sl ρv W hJ => ?_)
  clear H; obtain ⟨i, B2, d2, rfl, rfl, hi, hd, H⟩ := hJ
  refine k_one ?_
  refine k_seq ?_
  refine k_seq ?_
  refine k_region ?_
  refine s_run (w_none rfl) rfl (mv_i rfl rfl) ?_
  refine s_run (w_none rfl) rfl (mv_s rfl rfl) ?_
  refine s_run (w_none rfl) rfl (d_len rfl rfl tu55) ?_
  refine s_run (w_none rfl) rfl (d_lt rfl rfl rfl) ?_
  refine l_nil ?_
  refine k_cond rfl (fun hc8 => ?_) (fun hc8 => ?_)
  · replace hc8 := of_decide_eq_true hc8
    have hil : i < l.length := by omega
    obtain ⟨g0, o0, rfl, -⟩ := hr.2 (by omega)
    obtain ⟨x, hx⟩ := get_lt hil
    obtain ⟨B, d, hL, hB, hok⟩ := thing_of (hel i x hx)
    have hh := hok.2.2.1
    have ht := hok.2.2.2
    have hxb := hs2 x (List.mem_of_getElem? hx)
    have hacc := Th.lay_take (l := l) i
    refine k_skip ?_
    refine k_seq ?_
    refine k_block ?_
    refine k_seq ?_
    refine k_region ?_
    refine s_run (w_none rfl) rfl (mv_s rfl rfl) ?_
    refine s_run (w_none rfl) rfl (mv_i rfl rfl) ?_
    refine s_run (w_none rfl) rfl (d_iaG rfl (H.rd hr) rfl rfl (q := i) rfl hil tu55 ts40) ?_
    refine s_run (w_none rfl) rfl (d_fa rfl rfl tf40_0) ?_
    refine s_run (w_none rfl) rfl (d_ldE (off := 0) rfl (H.rd hr) hil hL rfl rfl rfl (by omega) ta3) ?_
    refine l_nil ?_
    refine k_block ?_
    refine k_seq ?_
    refine k_region ?_
    refine s_run (w_none rfl) rfl (d_eq rfl rfl rfl) ?_
    refine s_run (w_none rfl) rfl (as_b rfl rfl) ?_
    refine l_nil ?_
    refine k_cond rfl (fun hc23 => ?_) (fun hc23 => ?_)
    · have hk1 : x.kind = 1 := by simpa using hc23
      refine k_region ?_
      refine s_run (w_none rfl) rfl (mv_s rfl rfl) ?_
      refine s_run (w_none rfl) rfl (mv_s rfl rfl) ?_
      refine s_run (w_none rfl) rfl (mv_i rfl rfl) ?_
      refine s_run (w_none rfl) rfl (d_iaG rfl (H.rd hr) rfl rfl (q := i) rfl hil tu55 ts40) ?_
      refine s_run (w_none rfl) rfl (d_fa rfl rfl tf40_2) ?_
      refine s_run (w_none rfl) rfl (d_ldE (off := 2) rfl (H.rd hr) hil hL rfl rfl rfl (by omega) ta23) ?_
      refine s_eff (e_call (w_none rfl) rfl rfl Tryd.func25 rfl rfl rfl (packBlob (b := Th.lay (l.take i)) (p := x.b) _ (H.gat hG) (H.rowbs (A := B2) rfl) (by omega) (H.bs hB) (by omega)) ?_)
      rintro _ W ⟨A1, c1, rfl, hc1, hd1, hn⟩
      replace H := H.new hn
      clear hn
      replace H := H.sub (L' := [_]) (.cons_cons _ (List.nil_sublist _))
      refine s_run (w_none rfl) rfl (as_s rfl rfl) ?_
      refine l_nil ?_
      refine k_nil ?_
      refine b_end ?_
      refine k_nil ?_
      refine b_end ?_
      refine k_region ?_
      refine s_run (w_none rfl) rfl (mv_i rfl rfl) ?_
      refine s_run (w_none rfl) rfl (d_add rfl rfl rfl (by omega)) ?_
      refine s_run (w_none rfl) rfl (as_i rfl rfl) ?_
      refine l_nil ?_
      refine k_nil ?_
      refine k_next ?_
      have he := Th.lay_at (e := Pk.int x.b.length ++ x.b) hx (by unfold Th.enc; rw [if_pos hk1]; rfl)
      refine ⟨_, _, _, ?_, rfl, ?_, ?_, ⟨i + 1, A1, c1, rfl, rfl, by omega, ⟨by rw [he]; exact hc1, hd1⟩, by rw [he]; exact H⟩⟩
      · omega
      · repeat (first | ((with_reducible refine Eqo.updl _ Eqo.ovr ?_); exact rfl) | ((with_reducible refine Eqo.updl _ (Eqo.ovr2 ?_ ?_) ?_); rotate_left; exact rfl; exact rfl) | ((with_reducible refine Eqo.upd ?_ ?_); rotate_left; exact rfl))
      · refine ⟨?_, ?_, trivial⟩
        · exact vi (by omega)
        · exact sl_eq (by rw [he])
    · have hk1 : ¬ x.kind = 1 := by simpa using hc23
      refine k_seq ?_
      refine k_region ?_
      refine s_run (w_none rfl) rfl (d_eq rfl rfl rfl) ?_
      refine s_run (w_none rfl) rfl (as_b rfl rfl) ?_
      refine l_nil ?_
      refine k_cond rfl (fun hc32 => ?_) (fun hc32 => ?_)
      · have hk2 : x.kind = 2 := by simpa using hc32
        refine k_region ?_
        refine s_run (w_none rfl) rfl (mv_s rfl rfl) ?_
        refine s_run (w_none rfl) rfl (mv_s rfl rfl) ?_
        refine s_run (w_none rfl) rfl (mv_i rfl rfl) ?_
        refine s_run (w_none rfl) rfl (d_iaG rfl (H.rd hr) rfl rfl (q := i) rfl hil tu55 ts40) ?_
        refine s_run (w_none rfl) rfl (d_fa rfl rfl tf40_3) ?_
        refine s_run (w_none rfl) rfl (d_ldEM (off := 3) rfl (H.rd hr) hil hL (thing_h hh) rfl rfl (by omega) ta36 ts36) ?_
        refine s_eff (e_call (w_none rfl) rfl rfl Tryd.func26 rfl rfl rfl (packHash (b := Th.lay (l.take i)) (h := x.h) _ (H.rowbs (A := B2) rfl) (by omega) hh) ?_)
        rintro _ W ⟨A1, c1, rfl, hc1, hd1, hn⟩
        replace H := H.new hn
        clear hn
        replace H := H.sub (L' := [_]) (.cons_cons _ (List.nil_sublist _))
        refine s_run (w_none rfl) rfl (as_s rfl rfl) ?_
        refine l_nil ?_
        refine k_nil ?_
        refine b_end ?_
        refine k_nil ?_
        refine b_end ?_
        refine k_region ?_
        refine s_run (w_none rfl) rfl (mv_i rfl rfl) ?_
        refine s_run (w_none rfl) rfl (d_add rfl rfl rfl (by omega)) ?_
        refine s_run (w_none rfl) rfl (as_i rfl rfl) ?_
        refine l_nil ?_
        refine k_nil ?_
        refine k_next ?_
        have he := Th.lay_at (e := x.h) hx (by unfold Th.enc; rw [if_neg hk1, if_pos hk2])
        refine ⟨_, _, _, ?_, rfl, ?_, ?_, ⟨i + 1, A1, c1, rfl, rfl, by omega, ⟨by rw [he]; exact hc1, hd1⟩, by rw [he]; exact H⟩⟩
        · omega
        · repeat (first | ((with_reducible refine Eqo.updl _ Eqo.ovr ?_); exact rfl) | ((with_reducible refine Eqo.updl _ (Eqo.ovr2 ?_ ?_) ?_); rotate_left; exact rfl; exact rfl) | ((with_reducible refine Eqo.upd ?_ ?_); rotate_left; exact rfl))
        · refine ⟨?_, ?_, trivial⟩
          · exact vi (by omega)
          · exact sl_eq (by rw [he])
      · have hk2 : ¬ x.kind = 2 := by simpa using hc32
        refine k_seq ?_
        refine k_region ?_
        refine s_run (w_none rfl) rfl (d_eq rfl rfl rfl) ?_
        refine s_run (w_none rfl) rfl (as_b rfl rfl) ?_
        refine l_nil ?_
        refine k_cond rfl (fun hc41 => ?_) (fun hc41 => ?_)
        · have hk3 : x.kind = 3 := by simpa using hc41
          refine k_region ?_
          refine s_run (w_none rfl) rfl (mv_s rfl rfl) ?_
          refine s_run (w_none rfl) rfl (mv_s rfl rfl) ?_
          refine s_run (w_none rfl) rfl (mv_i rfl rfl) ?_
          refine s_run (w_none rfl) rfl (d_iaG rfl (H.rd hr) rfl rfl (q := i) rfl hil tu55 ts40) ?_
          refine s_run (w_none rfl) rfl (d_fa rfl rfl tf40_4) ?_
          refine s_run (w_none rfl) rfl (d_ldEM (off := 35) rfl (H.rd hr) hil hL (thing_t hh ht) rfl rfl (by omega) ta38 ts38) ?_
          refine s_eff (e_call (w_none rfl) rfl rfl Tryd.func27 rfl rfl rfl (packTag (b := Th.lay (l.take i)) (h := x.t) _ (H.rowbs (A := B2) rfl) (by omega) ht) ?_)
          rintro _ W ⟨A1, c1, rfl, hc1, hd1, hn⟩
          replace H := H.new hn
          clear hn
          replace H := H.sub (L' := [_]) (.cons_cons _ (List.nil_sublist _))
          refine s_run (w_none rfl) rfl (as_s rfl rfl) ?_
          refine l_nil ?_
          refine k_nil ?_
          refine b_end ?_
          refine k_nil ?_
          refine b_end ?_
          refine k_region ?_
          refine s_run (w_none rfl) rfl (mv_i rfl rfl) ?_
          refine s_run (w_none rfl) rfl (d_add rfl rfl rfl (by omega)) ?_
          refine s_run (w_none rfl) rfl (as_i rfl rfl) ?_
          refine l_nil ?_
          refine k_nil ?_
          refine k_next ?_
          have he := Th.lay_at (e := x.t) hx (by unfold Th.enc; rw [if_neg hk1, if_neg hk2, if_pos hk3])
          refine ⟨_, _, _, ?_, rfl, ?_, ?_, ⟨i + 1, A1, c1, rfl, rfl, by omega, ⟨by rw [he]; exact hc1, hd1⟩, by rw [he]; exact H⟩⟩
          · omega
          · repeat (first | ((with_reducible refine Eqo.updl _ Eqo.ovr ?_); exact rfl) | ((with_reducible refine Eqo.updl _ (Eqo.ovr2 ?_ ?_) ?_); rotate_left; exact rfl; exact rfl) | ((with_reducible refine Eqo.upd ?_ ?_); rotate_left; exact rfl))
          · refine ⟨?_, ?_, trivial⟩
            · exact vi (by omega)
            · exact sl_eq (by rw [he])
        · have hk3 : ¬ x.kind = 3 := by simpa using hc41
          refine k_region ?_
          refine s_run (w_none rfl) rfl (mv_s rfl rfl) ?_
          refine s_run (w_none rfl) rfl (mv_s rfl rfl) ?_
          refine s_run (w_none rfl) rfl (mv_i rfl rfl) ?_
          refine s_run (w_none rfl) rfl (d_iaG rfl (H.rd hr) rfl rfl (q := i) rfl hil tu55 ts40) ?_
          refine s_run (w_none rfl) rfl (d_fa rfl rfl tf40_1) ?_
          refine s_run (w_none rfl) rfl (d_ldE (off := 1) rfl (H.rd hr) hil hL rfl rfl rfl (by omega) ta3) ?_
          refine s_eff (e_call (w_none rfl) rfl rfl Tryd.func18 rfl rfl rfl (packInt (b := Th.lay (l.take i)) x.n _ (H.gat hG) (H.rowbs (A := B2) rfl) hok.2.1 (by omega)) ?_)
          rintro _ W ⟨A1, c1, rfl, hc1, hd1, hn⟩
          replace H := H.new hn
          clear hn
          replace H := H.sub (L' := [_]) (.cons_cons _ (List.nil_sublist _))
          refine s_run (w_none rfl) rfl (as_s rfl rfl) ?_
          refine l_nil ?_
          refine k_nil ?_
          refine b_end ?_
          refine k_nil ?_
          refine b_end ?_
          refine k_region ?_
          refine s_run (w_none rfl) rfl (mv_i rfl rfl) ?_
          refine s_run (w_none rfl) rfl (d_add rfl rfl rfl (by omega)) ?_
          refine s_run (w_none rfl) rfl (as_i rfl rfl) ?_
          refine l_nil ?_
          refine k_nil ?_
          refine k_next ?_
          have he := Th.lay_at (e := Pk.int (Pk.toU x.n)) hx (by unfold Th.enc; rw [if_neg hk1, if_neg hk2, if_neg hk3])
          refine ⟨_, _, _, ?_, rfl, ?_, ?_, ⟨i + 1, A1, c1, rfl, rfl, by omega, ⟨by rw [he]; exact hc1, hd1⟩, by rw [he]; exact H⟩⟩
          · omega
          · repeat (first | ((with_reducible refine Eqo.updl _ Eqo.ovr ?_); exact rfl) | ((with_reducible refine Eqo.updl _ (Eqo.ovr2 ?_ ?_) ?_); rotate_left; exact rfl; exact rfl) | ((with_reducible refine Eqo.upd ?_ ?_); rotate_left; exact rfl))
          · refine ⟨?_, ?_, trivial⟩
            · exact vi (by omega)
            · exact sl_eq (by rw [he])
  · replace hc8 := of_decide_eq_false hc8
    refine k_exit ?_
    refine x_then (x_then ?_)
    refine x_hit ?_
    refine k_seq ?_
    obtain rfl : i = l.length := by omega
    rw [List.take_length] at hd H ⊢
    refine k_region ?_
    refine s_run (w_none rfl) rfl (mv_s rfl rfl) ?_
    refine s_run (w_none rfl) rfl (as_s rfl rfl) ?_
    refine l_nil ?_
    refine k_ret ?_
    repeat (first | refine r_then ?_ | refine r_blk ?_)
    exact q_ret (v := .slice _ _ _) rfl rfl ⟨_, rfl, H.newB rfl rfl hd.1 hd.2⟩

set_option maxHeartbeats 4000000 in
theorem readThing {A0 B : Option Addr} {n0 c0 r d : Nat} {S : Nat → Prop} {x : DThing} {room : Int} {s : RS} (w : World) (hR : (RdP 5 96 r A0 n0 c0 s).p w) (hok : Pk.Ok s) (hG : Gat w 0 formsC) (h0 : ¬ (RdT r A0 n0 c0) 0) (hB : Bs w S (.slice B x.b.length d) x.b) (hS : ∀ g, S g → ¬ (RdT r A0 n0 c0) g) (hT : Th.Ok x) (hroom : 0 ≤ room ∧ room < 1000) (hbl : x.b.length ≤ 1000000000000) (hn0 : n0 ≤ 1000000000000) :
    Calls Tryd.prog 44 [.pointer (some ⟨r, 0, none⟩), .agg (thingC x.kind x.n B x.b.length d x.h x.t).toArray, .int .i64 room].toArray w (Ret (fun v' w' => v' = .bool (Th.rdB room x s) ∧ (RdP 5 96 r A0 n0 c0 (Th.rdS room x s)).p w' ∧ Fr (RdT r A0 n0 c0) w w')) := by
  have hh := hT.2.2.1
  have ht := hT.2.2.2
  have H0 := St.begin (f := RdP 5 96 r A0 n0 c0 s) hR (RdB.lt hR)
  refine k_enter (l := [_, _, _]) Tryd.func44 rfl rfl ?_
  have H := H0
  refine k_seq ?_
  refine k_region ?_
  refine s_eff (e_box (vs := (thingC x.kind x.n B x.b.length d x.h x.t)) (w_none rfl) rfl rfl rfl rfl H ?_)
  clear H; intro gt W H
  refine s_run (w_none rfl) rfl (as_b rfl rfl) ?_
  refine l_nil ?_
  refine k_seq ?_
  refine k_seq ?_
  refine k_region ?_
  refine s_run (w_none rfl) rfl (d_fa rfl rfl tf40_0) ?_
  refine s_run (w_none rfl) rfl (d_ldX (off := 0) rfl H rfl rfl rfl ta3) ?_
  refine l_nil ?_
  refine k_block ?_
  refine k_seq ?_
  refine k_region ?_
  refine s_run (w_none rfl) rfl (d_eq rfl rfl rfl) ?_
  refine s_run (w_none rfl) rfl (as_b rfl rfl) ?_
  refine l_nil ?_
  refine k_cond rfl (fun hc9 => ?_) (fun hc9 => ?_)
  · have hk1 : x.kind = 1 := by simpa using hc9
    rw [(Th.rd1 hk1).1, (Th.rd1 hk1).2]
    refine k_seq ?_
    refine k_draw [(0, true), (1, true), (2, true), (3, true), (4, true), (5, true), (7, true), (8, true), (6, false), (9, false), (10, true)] [Fact.blk gt (thingC x.kind x.n B x.b.length d x.h x.t) 40] (by kernel_rfl) (by kernel_rfl) H (by repeat (first | exact List.Sublist.refl _ | exact List.nil_sublist _ | refine List.Sublist.cons_cons _ ?_ | refine List.Sublist.cons _ ?_)) ?_
    clear H; intro W H
    refine c_run rfl (w_none rfl) rfl (fun W H => mv_p rfl rfl) ?_
    refine c_run rfl (w_none rfl) rfl (fun W H => d_fa rfl rfl tf40_2) ?_
    refine c_run rfl (w_none rfl) rfl (fun W H => d_ldX (off := 2) rfl H rfl rfl rfl ta23) ?_
    refine c_run rfl (w_none rfl) rfl (fun W H => d_len rfl rfl tu23) ?_
    refine c_run rfl (w_none rfl) rfl (fun W H => mv_i rfl rfl) ?_
    refine c_run rfl (w_none rfl) rfl (fun W H => d_add rfl rfl rfl (by omega)) ?_
    refine c_run rfl (w_none rfl) rfl (fun W H => d_fa rfl rfl tf40_2) ?_
    refine c_run rfl (w_none rfl) rfl (fun W H => d_ldX (off := 2) rfl H rfl rfl rfl ta23) ?_
    refine c_eff rfl (e_call (w_none rfl) rfl rfl Tryd.func48 rfl rfl rfl (prgBlob _ (H.get (f := RdP 5 96 r A0 n0 c0 s)) hok (H.gatT hG h0) h0) ?_)
    rintro _ W ⟨hp1, hf1⟩
    obtain ⟨B1, d1, rfl⟩ := RdB.form hp1
    replace H := H.mut (f := RdP 5 96 r A0 n0 c0 s) (f' := RdB 5 96 r A0 n0 c0 (.slice B1 (List.length (Pk.rBlob ((x.b.length : Int) + room) s).1) d1) (Pk.rBlob ((x.b.length : Int) + room) s).1 (Pk.rBlob ((x.b.length : Int) + room) s).2) hf1 hp1 (fun _ h => h)
    clear hp1 hf1
    have hkb := H.get (f := RdB 5 96 r A0 n0 c0 (.slice B1 (List.length (Pk.rBlob ((x.b.length : Int) + room) s).1) d1) (Pk.rBlob ((x.b.length : Int) + room) s).1 (Pk.rBlob ((x.b.length : Int) + room) s).2)
    refine ⟨H.sub (by repeat (first | exact List.Sublist.refl _ | refine List.Sublist.cons_cons _ ?_ | refine List.Sublist.cons _ ?_)), ?_⟩
    refine c_eff rfl (e_call (w_none rfl) rfl rfl Tryd.func22 rfl rfl rfl (sameBytes _ _ (Pk.rBlob ((x.b.length : Int) + room) s).1 x.b _ (RdB.bs (H.get (f := RdB 5 96 r A0 n0 c0 (.slice B1 (List.length (Pk.rBlob ((x.b.length : Int) + room) s).1) d1) (Pk.rBlob ((x.b.length : Int) + room) s).1 (Pk.rBlob ((x.b.length : Int) + room) s).2))) (H.bsT hB hS)) ?_)
    rintro _ W ⟨rfl, hb⟩
    replace H := H.below hb
    clear hb
    refine ⟨H.sub (by repeat (first | exact List.Sublist.refl _ | refine List.Sublist.cons_cons _ ?_ | refine List.Sublist.cons _ ?_)), ?_⟩
    refine c_run rfl (w_none rfl) rfl (fun W H => as_b rfl rfl) ?_
    refine c_nil ?_
    refine k_ret ?_
    repeat (first | refine r_then ?_ | refine r_blk ?_)
    exact q_ret (v := .bool _) rfl rfl ⟨_, rfl, rfl, RdB.toP (H.get (f := RdB 5 96 r A0 n0 c0 (.slice B1 (List.length (Pk.rBlob ((x.b.length : Int) + room) s).1) d1) (Pk.rBlob ((x.b.length : Int) + room) s).1 (Pk.rBlob ((x.b.length : Int) + room) s).2)), H.fr⟩
  · have hk1 : ¬ x.kind = 1 := by simpa using hc9
    refine k_seq ?_
    refine k_region ?_
    refine s_run (w_none rfl) rfl (d_eq rfl rfl rfl) ?_
    refine s_run (w_none rfl) rfl (as_b rfl rfl) ?_
    refine l_nil ?_
    refine k_cond rfl (fun hc21 => ?_) (fun hc21 => ?_)
    · have hk2 : x.kind = 2 := by simpa using hc21
      rw [(Th.rd2 hk2).1, (Th.rd2 hk2).2]
      refine k_seq ?_
      refine k_draw [(0, true), (2, true), (3, true), (1, false), (4, true), (5, true)] [Fact.blk gt (thingC x.kind x.n B x.b.length d x.h x.t) 40] (by kernel_rfl) (by kernel_rfl) H (by repeat (first | exact List.Sublist.refl _ | exact List.nil_sublist _ | refine List.Sublist.cons_cons _ ?_ | refine List.Sublist.cons _ ?_)) ?_
      clear H; intro W H
      refine c_run rfl (w_none rfl) rfl (fun W H => mv_p rfl rfl) ?_
      refine c_run rfl (w_none rfl) rfl (fun W H => d_fa rfl rfl tf40_3) ?_
      refine c_run rfl (w_none rfl) rfl (fun W H => d_ldXM (off := 3) rfl H (thing_h hh) (by simp [hh]) rfl rfl rfl ta36 ts36) ?_
      refine c_eff rfl (e_call (w_none rfl) rfl rfl Tryd.func45 rfl rfl rfl (prgHash _ (H.get (f := RdP 5 96 r A0 n0 c0 s)) hok) ?_)
      rintro _ W ⟨rfl, hp, hf⟩
      replace H := H.mut (f := RdP 5 96 r A0 n0 c0 s) (f' := RdP 5 96 r A0 n0 c0 (Pk.rBytes 32 s).2) hf hp (fun _ h => h)
      clear hp hf
      refine ⟨H.sub (by repeat (first | exact List.Sublist.refl _ | refine List.Sublist.cons_cons _ ?_ | refine List.Sublist.cons _ ?_)), ?_⟩
      refine c_run rfl (w_none rfl) rfl (fun W H => d_eqarr rfl rfl rfl tu36 tu5 ts5 (Pk.len_full Pk.next_len) hh (by kernel_rfl)) ?_
      refine c_run rfl (w_none rfl) rfl (fun W H => as_b rfl rfl) ?_
      refine c_nil ?_
      refine k_ret ?_
      repeat (first | refine r_then ?_ | refine r_blk ?_)
      exact q_ret (v := .bool _) rfl rfl ⟨_, rfl, rfl, H.get (f := RdP 5 96 r A0 n0 c0 (Pk.rBytes 32 s).2), H.fr⟩
    · have hk2 : ¬ x.kind = 2 := by simpa using hc21
      refine k_seq ?_
      refine k_region ?_
      refine s_run (w_none rfl) rfl (d_eq rfl rfl rfl) ?_
      refine s_run (w_none rfl) rfl (as_b rfl rfl) ?_
      refine l_nil ?_
      refine k_cond rfl (fun hc28 => ?_) (fun hc28 => ?_)
      · have hk3 : x.kind = 3 := by simpa using hc28
        rw [(Th.rd3 hk3).1, (Th.rd3 hk3).2]
        refine k_seq ?_
        refine k_draw [(0, true), (2, true), (3, true), (1, false), (4, true), (5, true)] [Fact.blk gt (thingC x.kind x.n B x.b.length d x.h x.t) 40] (by kernel_rfl) (by kernel_rfl) H (by repeat (first | exact List.Sublist.refl _ | exact List.nil_sublist _ | refine List.Sublist.cons_cons _ ?_ | refine List.Sublist.cons _ ?_)) ?_
        clear H; intro W H
        refine c_run rfl (w_none rfl) rfl (fun W H => mv_p rfl rfl) ?_
        refine c_run rfl (w_none rfl) rfl (fun W H => d_fa rfl rfl tf40_4) ?_
        refine c_run rfl (w_none rfl) rfl (fun W H => d_ldXM (off := 35) rfl H (thing_t hh ht) (by simp [ht]) rfl rfl rfl ta38 ts38) ?_
        refine c_eff rfl (e_call (w_none rfl) rfl rfl Tryd.func46 rfl rfl rfl (prgTag _ (H.get (f := RdP 5 96 r A0 n0 c0 s)) hok) ?_)
        rintro _ W ⟨rfl, hp, hf⟩
        replace H := H.mut (f := RdP 5 96 r A0 n0 c0 s) (f' := RdP 5 96 r A0 n0 c0 (Pk.rBytes 16 s).2) hf hp (fun _ h => h)
        clear hp hf
        refine ⟨H.sub (by repeat (first | exact List.Sublist.refl _ | refine List.Sublist.cons_cons _ ?_ | refine List.Sublist.cons _ ?_)), ?_⟩
        refine c_run rfl (w_none rfl) rfl (fun W H => d_eqarr rfl rfl rfl tu38 tu5 ts5 (Pk.len_full Pk.next_len) ht (by kernel_rfl)) ?_
        refine c_run rfl (w_none rfl) rfl (fun W H => as_b rfl rfl) ?_
        refine c_nil ?_
        refine k_ret ?_
        repeat (first | refine r_then ?_ | refine r_blk ?_)
        exact q_ret (v := .bool _) rfl rfl ⟨_, rfl, rfl, H.get (f := RdP 5 96 r A0 n0 c0 (Pk.rBytes 16 s).2), H.fr⟩
      · have hk3 : ¬ x.kind = 3 := by simpa using hc28
        refine k_seq ?_
        refine k_region ?_
        refine s_run (w_none rfl) rfl (d_eq rfl rfl rfl) ?_
        refine s_run (w_none rfl) rfl (as_b rfl rfl) ?_
        refine l_nil ?_
        refine k_cond rfl (fun hc35 => ?_) (fun hc35 => ?_)
        · have hk4 : x.kind = 4 := by simpa using hc35
          rw [(Th.rd4 hk4).1, (Th.rd4 hk4).2]
          refine k_seq ?_
          refine k_draw [(0, true), (1, true), (2, true), (3, true), (4, true), (5, true), (6, true), (7, true), (9, true), (10, true), (8, false), (11, true), (12, true)] [Fact.blk gt (thingC x.kind x.n B x.b.length d x.h x.t) 40] (by kernel_rfl) (by kernel_rfl) H (by repeat (first | exact List.Sublist.refl _ | exact List.nil_sublist _ | refine List.Sublist.cons_cons _ ?_ | refine List.Sublist.cons _ ?_)) ?_
          clear H; intro W H
          refine c_run rfl (w_none rfl) rfl (fun W H => mv_p rfl rfl) ?_
          refine c_run rfl (w_none rfl) rfl (fun W H => d_fa rfl rfl tf40_1) ?_
          refine c_run rfl (w_none rfl) rfl (fun W H => d_ldX (off := 1) rfl H rfl rfl rfl ta3) ?_
          refine c_run rfl (w_none rfl) rfl (fun W H => d_fa rfl rfl tf40_1) ?_
          refine c_run rfl (w_none rfl) rfl (fun W H => d_ldX (off := 1) rfl H rfl rfl rfl ta3) ?_
          refine c_run rfl (w_none rfl) rfl (fun W H => mv_i rfl rfl) ?_
          refine c_run rfl (w_none rfl) rfl (fun W H => d_addW rfl rfl rfl rfl) ?_
          refine c_run rfl (w_none rfl) rfl (fun W H => d_max rfl rfl rfl) ?_
          refine c_run rfl (w_none rfl) rfl (fun W H => d_fa rfl rfl tf40_1) ?_
          refine c_run rfl (w_none rfl) rfl (fun W H => d_ldX (off := 1) rfl H rfl rfl rfl ta3) ?_
          refine c_eff rfl (e_call (w_none rfl) rfl rfl Tryd.func47 rfl rfl rfl (prgCount _ (H.get (f := RdP 5 96 r A0 n0 c0 s)) hok (H.gatT hG h0) h0) ?_)
          rintro _ W ⟨rfl, hp, hf⟩
          replace H := H.mut (f := RdP 5 96 r A0 n0 c0 s) (f' := RdP 5 96 r A0 n0 c0 (Pk.rCount (Th.most room x) s).2) hf hp (fun _ h => h)
          clear hp hf
          refine ⟨H.sub (by repeat (first | exact List.Sublist.refl _ | refine List.Sublist.cons_cons _ ?_ | refine List.Sublist.cons _ ?_)), ?_⟩
          refine c_run rfl (w_none rfl) rfl (fun W H => d_eq rfl rfl rfl) ?_
          refine c_run rfl (w_none rfl) rfl (fun W H => as_b rfl rfl) ?_
          refine c_nil ?_
          refine k_ret ?_
          repeat (first | refine r_then ?_ | refine r_blk ?_)
          exact q_ret (v := .bool _) rfl rfl ⟨_, rfl, rfl, H.get (f := RdP 5 96 r A0 n0 c0 (Pk.rCount (Th.most room x) s).2), H.fr⟩
        · have hk4 : ¬ x.kind = 4 := by simpa using hc35
          rw [(Th.rd0 hk1 hk2 hk3 hk4).1, (Th.rd0 hk1 hk2 hk3 hk4).2]
          refine k_skip ?_
          refine k_nil ?_
          refine b_end ?_
          refine k_seq ?_
          refine k_draw [(0, true), (2, true), (3, true), (1, false), (4, true), (5, true)] [Fact.blk gt (thingC x.kind x.n B x.b.length d x.h x.t) 40] (by kernel_rfl) (by kernel_rfl) H (by repeat (first | exact List.Sublist.refl _ | exact List.nil_sublist _ | refine List.Sublist.cons_cons _ ?_ | refine List.Sublist.cons _ ?_)) ?_
          clear H; intro W H
          refine c_run rfl (w_none rfl) rfl (fun W H => mv_p rfl rfl) ?_
          refine c_run rfl (w_none rfl) rfl (fun W H => d_fa rfl rfl tf40_1) ?_
          refine c_run rfl (w_none rfl) rfl (fun W H => d_ldX (off := 1) rfl H rfl rfl rfl ta3) ?_
          refine c_eff rfl (e_call (w_none rfl) rfl rfl Tryd.func20 rfl rfl rfl (prgInt _ (H.get (f := RdP 5 96 r A0 n0 c0 s)) hok (H.gatT hG h0) h0) ?_)
          rintro _ W ⟨rfl, hp, hf⟩
          replace H := H.mut (f := RdP 5 96 r A0 n0 c0 s) (f' := RdP 5 96 r A0 n0 c0 (Pk.rInt s).2) hf hp (fun _ h => h)
          clear hp hf
          refine ⟨H.sub (by repeat (first | exact List.Sublist.refl _ | refine List.Sublist.cons_cons _ ?_ | refine List.Sublist.cons _ ?_)), ?_⟩
          refine c_run rfl (w_none rfl) rfl (fun W H => d_eq rfl rfl rfl) ?_
          refine c_run rfl (w_none rfl) rfl (fun W H => as_b rfl rfl) ?_
          refine c_nil ?_
          refine k_ret ?_
          repeat (first | refine r_then ?_ | refine r_blk ?_)
          exact q_ret (v := .bool _) rfl rfl ⟨_, rfl, rfl, H.get (f := RdP 5 96 r A0 n0 c0 (Pk.rInt s).2), H.fr⟩
end Go.Proofs.YtejaohlijaodjaaDoor
