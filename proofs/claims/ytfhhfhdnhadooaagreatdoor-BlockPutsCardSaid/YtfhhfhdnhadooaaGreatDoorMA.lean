/- Texts of this claim, laid together: K3, K4, K5, K6, K7, K8, K9. -/
import Derived.Test.YtfhhfhdnhadooaaGreatDoorMV
import Derived.Test.YtfhhfhdnhadooaaGreatDoorMT
set_option linter.unusedVariables false
set_option linter.unusedSimpArgs false

namespace Go.Proofs.YtfhhfhdnhadooaaGreatDoor
open Go Go.RowKit
attribute [local irreducible] wpList

def Pk.rEnd (s : RS) : Int := if 0 < s.1.length then 5 else s.2
theorem Pk.next_eq {n : Nat} {s s' : RS} {b : List UInt8} (h : Pk.next n s = (b, s')) : (s'.2 = 0 → b.length = n) ∧ (s'.2 ≠ 0 → b.length = 0) := by
 unfold Pk.next at h
 split at h
 ·rename_i he; cases h; exact ⟨fun h => absurd h he, fun _ => rfl⟩
 ·split at h
  ·cases h; exact ⟨fun h => absurd h (by decide), fun _ => rfl⟩
  ·cases h; exact ⟨fun _ => by rw [List.length_take]; omega, fun h => absurd rfl h⟩
end Go.Proofs.YtfhhfhdnhadooaaGreatDoor

namespace Go.Proofs.YtfhhfhdnhadooaaGreatDoor
open Go Go.RowKit
attribute [local irreducible] wpList

def why (k : Int) : Value := .iface 163 (.agg [.int .i64 k].toArray)
theorem mustOk {b : Bool} (z : Int) (w : World) (hb : b = true) : Calls Tryz.prog 153 [.bool b, .int .i64 z].toArray w (Ret (Is w (.tuple #[]))) := by
 subst hb
 refine k_enter (l := [_, _]) Tryz.func153 rfl rfl ?_
 have H := St.start nT w
 refine k_seq (k_region (sR rfl rfl (mv_b rfl rfl) (sR rfl rfl (d_not rfl rfl) (l_nil (k_condF rfl (by first | (simp; done) | (simp; omega)) ?_)))))
 exact k_skip (k_nil (q_end0 rfl ⟨_, rfl, rfl, H.under⟩))

theorem mustBad {b : Bool} (z : Int) (w : World) (hb : b = false) : Calls Tryz.prog 153 [.bool b, .int .i64 z].toArray w (Pan (why z) (fun w' => Below w.heap.size w w')) := by
 subst hb
 refine k_enter (l := [_, _]) Tryz.func153 rfl rfl ?_
 have H := St.start nT w
 refine k_seq (k_region (sR rfl rfl (mv_b rfl rfl) (sR rfl rfl (d_not rfl rfl) (l_nil (k_condT rfl (by first | (simp; done) | (simp; omega)) ?_)))))
 refine k_region (sMi rfl rfl rfl rfl (sR rfl rfl (d_build (vs := [.int .i64 z]) rfl (by kernel_rfl)) ?_))
 refine sR rfl rfl (d_mkiface (v := .agg [.int .i64 z].toArray) rfl rfl (by kernel_rfl)) ?_
 refine s_eff (e_panic (w_none rfl) rfl rfl ?_)
 exact ⟨rfl, rfl, H.under⟩

theorem takeOk {A0 : Option Addr} {n0 c0 r : Nat} {Y : List UInt8 → Prop} {v : Value} {b : List UInt8} {s : RS} (w : World) {n : Nat} {z : Int} (hz : z = (n : Int)) (hR : (RdYB 5 134 r A0 n0 c0 Y v b s).p w) (he : s.2 = 0) (hn : n ≤ s.1.length) : Calls Tryz.prog 115 [.pointer (some ⟨r, 0, none⟩), .int .i64 z].toArray w (Ret (fun v' w' => (RdYB 5 134 r A0 n0 c0 Y v' (s.1.take n) (s.1.drop n, 0)).p w' ∧ Fr (RdT r A0 n0 c0) w w')) := by
 subst hz
 have hR0 := hR
 have hne := RdB.ne hR
 have hrow : A0 = none ∨ ∃ g, A0 = some ⟨g, 0, none⟩ := by
  obtain ⟨_, _, _, _, _, h, _⟩ := hR
  exact row_addr h
 obtain ⟨A, c, o, ys, hY, hL, hH, hn0, hc0, H0⟩ := RdB.two hR
 refine k_enter (l := [_, _]) Tryz.func115 rfl rfl ?_
 have H := H0
 refine k_seq (k_region (sAs rfl rfl rfl rfl (l_nil (k_seq ?_))))
 have hlc : s.1.length ≤ c := hL.2.2.1
 refine k_region (sMi rfl rfl rfl rfl (sMp rfl rfl rfl rfl (sR rfl rfl (d_nil rfl rfl) (sR rfl rfl (d_fa rfl rfl tf134_0) (sR rfl rfl (d_ld rfl H rfl ta41 rfl) (sR rfl rfl (d_len rfl rfl tu41) (sR rfl rfl (d_le rfl rfl rfl) (sC rfl rfl rfl Tryz.func153 rfl rfl rfl (mustOk _ _ (by simp; omega)) ?_))))))))
 rintro _ W ⟨rfl, hb⟩
 replace H := H.below hb
 clear hb
 refine l_nil (k_seq (k_region (sMp rfl rfl rfl rfl (sR rfl rfl (d_nil rfl rfl) (sR rfl rfl (d_fa rfl rfl tf134_0) (sR rfl rfl (d_ld rfl H rfl ta41 rfl) (sMi rfl rfl rfl rfl (sMi rfl rfl rfl rfl (sR rfl rfl (d_cutM rfl rfl rfl (h := n) rfl rfl (by omega) rfl tu41 ts5) (sAs rfl rfl rfl rfl ?_))))))))))
 refine l_nil (k_seq (k_region (sMp rfl rfl rfl rfl (sMp rfl rfl rfl rfl (sR rfl rfl (d_nil rfl rfl) (sR rfl rfl (d_fa rfl rfl tf134_0) (sR rfl rfl (d_ld rfl H rfl ta41 rfl) (sMi rfl rfl rfl rfl (sR rfl rfl (d_cutS rfl rfl (l := n) rfl hn rfl tu41 ts5) (sR rfl rfl (d_nil rfl rfl) ?_))))))))))
 refine sR rfl rfl (d_fa rfl rfl tf134_0) (s_eff (e_sto (w_none rfl) rfl rfl rfl rfl rfl ts41 rfl H rfl ?_))
 clear H; intro W H
 refine l_nil (k_seq (k_region (sMs rfl rfl rfl rfl (sAs rfl rfl rfl rfl (l_nil (k_ret ?_))))))
 repeat (first | refine r_then ?_ | refine r_blk ?_)
 exact q_ret (v := .slice _ _ _) rfl rfl ⟨_, rfl, RdB.of (o := o + n) (ys := ys) hY H hne (by rw [List.length_drop]) he (hL.step hrow he hn) (HeldP.step hL he hn), H.fr⟩

theorem takeShort {A0 : Option Addr} {n0 c0 r : Nat} {Y : List UInt8 → Prop} {v : Value} {b : List UInt8} {s : RS} (w : World) {n : Nat} {z : Int} (hz : z = (n : Int)) (hR : (RdYB 5 134 r A0 n0 c0 Y v b s).p w) (hn : s.1.length < n) : Calls Tryz.prog 115 [.pointer (some ⟨r, 0, none⟩), .int .i64 z].toArray w (Pan (why 4) (fun w' => (RdYB 5 134 r A0 n0 c0 Y v b s).p w' ∧ Fr (RdT r A0 n0 c0) w w')) := by
 subst hz
 have hR0 := hR
 have hne := RdB.ne hR
 have hrow : A0 = none ∨ ∃ g, A0 = some ⟨g, 0, none⟩ := by
  obtain ⟨_, _, _, _, _, h, _⟩ := hR
  exact row_addr h
 obtain ⟨A, c, o, ys, hY, hL, hH, hn0, hc0, H0⟩ := RdB.two hR
 refine k_enter (l := [_, _]) Tryz.func115 rfl rfl ?_
 have H := H0
 refine k_seq (k_region (sAs rfl rfl rfl rfl (l_nil (k_seq (k_region (sMi rfl rfl rfl rfl (sMp rfl rfl rfl rfl (sR rfl rfl (d_nil rfl rfl) (sR rfl rfl (d_fa rfl rfl tf134_0) (sR rfl rfl (d_ld rfl H rfl ta41 rfl) ?_))))))))))
 refine sR rfl rfl (d_len rfl rfl tu41) (sR rfl rfl (d_le rfl rfl rfl) (s_eff (e_callP (w_none rfl) rfl Tryz.func153 rfl rfl rfl (mustBad _ _ (by simp; omega)) ?_)))
 intro W hb
 replace H := H.below hb
 exact ⟨rfl, rfl, RdB.of (o := o) (ys := ys) hY H hne rfl rfl hL hH, H.fr⟩

theorem formIs {z : Int} {x y : Value} {q : Nat} {b : UInt8} (w : World) (hx : x.oneCell' = true) (hy : y.oneCell' = true) (hq : Gat w q [u8v b]) : Calls Tryz.prog 156 [.agg [.int .u8 z, x, y].toArray, .pointer (some ⟨q, 0, none⟩)].toArray w (Ret (Is w (.bool (z == (b.toNat : Int))))) := by
 refine k_enter (l := [_, _]) Tryz.func156 rfl rfl ?_
 have H := St.start nT w
 refine k_seq (k_region (s_eff (e_box (w_none rfl) rfl rfl rfl rfl H ?_)))
 clear H; intro g0_0 W H
 refine sAb rfl rfl rfl rfl (l_nil (k_seq (k_region (sR rfl rfl (d_fa rfl rfl tf106_0) (sR rfl rfl (d_ld rfl H rfl ta5 rfl) (sR rfl rfl (d_ldG rfl (H.gat hq) rfl ta5 rfl) (sR rfl rfl (d_eq rfl rfl rfl) (sAb rfl rfl rfl rfl (l_nil (k_ret ?_))))))))))
 repeat (first | refine r_then ?_ | refine r_blk ?_)
 exact q_ret (v := .bool _) rfl rfl ⟨_, rfl, rfl, H.under⟩

def idxF (b : UInt8) : Int := if b = 253 then 0 else if b = 254 then 1 else if b = 255 then 2 else -1
theorem idx_0 {b : UInt8} (h : ((253 : Int) == (b.toNat : Int)) = true) : b = 253 := UInt8.toNat_inj.1 (by have := eq_of_beq h; simp; omega)
theorem idx_1 {b : UInt8} (h : ((254 : Int) == (b.toNat : Int)) = true) : b = 254 := UInt8.toNat_inj.1 (by have := eq_of_beq h; simp; omega)
theorem idx_2 {b : UInt8} (h : ((255 : Int) == (b.toNat : Int)) = true) : b = 255 := UInt8.toNat_inj.1 (by have := eq_of_beq h; simp; omega)
theorem idx_n0 {b : UInt8} (h : ((253 : Int) == (b.toNat : Int)) = false) : ¬ b = 253 := fun e => by subst e; simp at h
theorem idx_n1 {b : UInt8} (h : ((254 : Int) == (b.toNat : Int)) = false) : ¬ b = 254 := fun e => by subst e; simp at h
theorem idx_n2 {b : UInt8} (h : ((255 : Int) == (b.toNat : Int)) = false) : ¬ b = 255 := fun e => by subst e; simp at h
theorem indexF {q : Nat} {b : UInt8} (w : World) (hG : Gat w 0 formsC) (hq : Gat w q [u8v b]) : Calls Tryz.prog 155 [.slice (some ⟨0, 0, none⟩) 3 3, .func (.func 156) #[] [.pointer (some ⟨q, 0, none⟩)].toArray].toArray w (Ret (Is w (.int .i64 (idxF b)))) := by
 refine k_enter (l := [_, _]) Tryz.func155 rfl rfl ?_
 have H := St.start nT w
 refine k_seq (k_region (sAi rfl rfl rfl rfl (l_nil (k_seq (k_seq (k_region (sMs rfl rfl rfl rfl (sR rfl rfl (d_len rfl rfl tu109) (sMi rfl rfl rfl rfl (l_nil ?_))))))))))
 refine k_block (k_unr (k_one ?_))
 refine k_seq (k_region (sR rfl rfl (d_lt rfl rfl rfl) (l_nil (k_seq (k_condT rfl (by first | (simp; done) | (simp; omega)) ?_)))))
 refine k_skip (k_seq (k_block (k_seq (k_region (sMi rfl rfl rfl rfl (sAi rfl rfl rfl rfl (l_nil (k_seq (k_region (sR rfl rfl (mv_f rfl rfl) ?_))))))))))
 refine sMs rfl rfl rfl rfl (sMi rfl rfl rfl rfl (sR rfl rfl (d_iaS rfl ((H.gat hG).rd rfl) rfl rfl (q := 0) rfl (by decide) tu109 ts106) ?_))
 refine sR rfl rfl (d_ldmG (m := 3) (i := 0) rfl (H.gat hG) rfl ta106 ts106 rfl) (s_eff (e_callv (w_none rfl) rfl rfl rfl Tryz.func156 rfl rfl rfl (formIs _ rfl rfl (H.gat hq)) ?_))
 rintro _ W ⟨rfl, hb⟩
 replace H := H.below hb
 clear hb
 refine l_nil (k_cond rfl (fun hc16 => ?_) (fun hc16 => ?_))
 ·have e1 := idx_0 hc16
  refine k_seq (k_region (sMi rfl rfl rfl rfl (sAi rfl rfl rfl rfl (l_nil (k_ret ?_)))))
  repeat (first | refine r_then ?_ | refine r_blk ?_)
  exact q_ret (v := .int _ _) rfl rfl ⟨_, rfl, vi (by unfold idxF; rw [if_pos e1]), H.under⟩
 ·have e1 := idx_n0 hc16
  refine k_skip (k_nil (b_end (k_region (sR rfl rfl (d_add rfl rfl rfl (by omega)) (sMi rfl rfl rfl rfl (l_nil (k_nil (k_next (hd_of (k_one ?_))))))))))
  refine k_seq (k_region (sR rfl rfl (d_lt rfl rfl rfl) (l_nil (k_seq (k_condT rfl (by first | (simp; done) | (simp; omega)) ?_)))))
  refine k_skip (k_seq (k_block (k_seq (k_region (sMi rfl rfl rfl rfl (sAi rfl rfl rfl rfl (l_nil (k_seq (k_region (sR rfl rfl (mv_f rfl rfl) ?_))))))))))
  refine sMs rfl rfl rfl rfl (sMi rfl rfl rfl rfl (sR rfl rfl (d_iaS rfl ((H.gat hG).rd rfl) rfl rfl (q := 1) rfl (by decide) tu109 ts106) ?_))
  refine sR rfl rfl (d_ldmG (m := 3) (i := 3) rfl (H.gat hG) rfl ta106 ts106 rfl) (s_eff (e_callv (w_none rfl) rfl rfl rfl Tryz.func156 rfl rfl rfl (formIs _ rfl rfl (H.gat hq)) ?_))
  rintro _ W ⟨rfl, hb⟩
  replace H := H.below hb
  clear hb
  refine l_nil (k_cond rfl (fun hc16 => ?_) (fun hc16 => ?_))
  ·have e2 := idx_1 hc16
   refine k_seq (k_region (sMi rfl rfl rfl rfl (sAi rfl rfl rfl rfl (l_nil (k_ret ?_)))))
   repeat (first | refine r_then ?_ | refine r_blk ?_)
   exact q_ret (v := .int _ _) rfl rfl ⟨_, rfl, vi (by unfold idxF; rw [if_neg e1, if_pos e2]; rfl), H.under⟩
  ·have e2 := idx_n1 hc16
   refine k_skip (k_nil (b_end (k_region (sR rfl rfl (d_add rfl rfl rfl (by omega)) (sMi rfl rfl rfl rfl (l_nil (k_nil (k_next (hd_of (k_one ?_))))))))))
   refine k_seq (k_region (sR rfl rfl (d_lt rfl rfl rfl) (l_nil (k_seq (k_condT rfl (by first | (simp; done) | (simp; omega)) ?_)))))
   refine k_skip (k_seq (k_block (k_seq (k_region (sMi rfl rfl rfl rfl (sAi rfl rfl rfl rfl (l_nil (k_seq (k_region (sR rfl rfl (mv_f rfl rfl) ?_))))))))))
   refine sMs rfl rfl rfl rfl (sMi rfl rfl rfl rfl (sR rfl rfl (d_iaS rfl ((H.gat hG).rd rfl) rfl rfl (q := 2) rfl (by decide) tu109 ts106) ?_))
   refine sR rfl rfl (d_ldmG (m := 3) (i := 6) rfl (H.gat hG) rfl ta106 ts106 rfl) (s_eff (e_callv (w_none rfl) rfl rfl rfl Tryz.func156 rfl rfl rfl (formIs _ rfl rfl (H.gat hq)) ?_))
   rintro _ W ⟨rfl, hb⟩
   replace H := H.below hb
   clear hb
   refine l_nil (k_cond rfl (fun hc16 => ?_) (fun hc16 => ?_))
   ·have e3 := idx_2 hc16
    refine k_seq (k_region (sMi rfl rfl rfl rfl (sAi rfl rfl rfl rfl (l_nil (k_ret ?_)))))
    repeat (first | refine r_then ?_ | refine r_blk ?_)
    exact q_ret (v := .int _ _) rfl rfl ⟨_, rfl, vi (by unfold idxF; rw [if_neg e1, if_neg e2, if_pos e3]; rfl), H.under⟩
   ·have e3 := idx_n2 hc16
    refine k_skip (k_nil (b_end (k_region (sR rfl rfl (d_add rfl rfl rfl (by omega)) (sMi rfl rfl rfl rfl (l_nil (k_nil (k_next (hd_of (k_one ?_))))))))))
    refine k_seq (k_region (sR rfl rfl (d_lt rfl rfl rfl) (l_nil (k_seq (k_condF rfl (by first | (simp; done) | (simp; omega)) ?_)))))
    refine k_exit (x_then (x_then ?_))
    refine x_hit (k_seq (k_region (sAi rfl rfl rfl rfl (l_nil (k_ret ?_)))))
    repeat (first | refine r_then ?_ | refine r_blk ?_)
    exact q_ret (v := .int _ _) rfl rfl ⟨_, rfl, vi (by unfold idxF; rw [if_neg e1, if_neg e2, if_neg e3]), H.under⟩

theorem Pk.next_s {n : Nat} {s s' : RS} {l : List UInt8} (h : Pk.next n s = (l, s')) (he : s.2 = 0) : (s'.2 = 0 → n ≤ s.1.length ∧ l = s.1.take n ∧ s' = (s.1.drop n, 0)) ∧ (s'.2 ≠ 0 → s.1.length < n ∧ s' = ([], 4)) := by
 rcases Nat.lt_or_ge s.1.length n with hn | hn
 ·rw [Pk.next_short he hn] at h
  cases h
  exact ⟨fun h => absurd h (by decide), fun _ => ⟨hn, rfl⟩⟩
 ·rw [Pk.next_ok he hn] at h
  cases h
  exact ⟨fun _ => ⟨hn, rfl, rfl⟩, fun h => absurd rfl h⟩
theorem takeE {A0 : Option Addr} {n0 c0 r : Nat} {Y : List UInt8 → Prop} {v : Value} {b : List UInt8} {s : RS} (w : World) {n : Nat} {z : Int} {l : List UInt8} {s' : RS} (hx : Pk.next n s = (l, s')) (hz : z = (n : Int)) (hR : (RdYB 5 134 r A0 n0 c0 Y v b s).p w) (he : s.2 = 0) (hs : s'.2 = 0) : Calls Tryz.prog 115 [.pointer (some ⟨r, 0, none⟩), .int .i64 z].toArray w (Ret (fun v' w' => (RdYB 5 134 r A0 n0 c0 Y v' l s').p w' ∧ Fr (RdT r A0 n0 c0) w w')) := by
 obtain ⟨h1, rfl, rfl⟩ := (Pk.next_s hx he).1 hs
 exact takeOk w hz hR he h1
theorem takeSE {A0 : Option Addr} {n0 c0 r : Nat} {Y : List UInt8 → Prop} {v : Value} {b : List UInt8} {s : RS} (w : World) {n : Nat} {z : Int} {l : List UInt8} {s' : RS} (hx : Pk.next n s = (l, s')) (hz : z = (n : Int)) (hR : (RdYB 5 134 r A0 n0 c0 Y v b s).p w) (he : s.2 = 0) (hs : s'.2 ≠ 0) : Calls Tryz.prog 115 [.pointer (some ⟨r, 0, none⟩), .int .i64 z].toArray w (Pan (why 4) (fun w' => (RdYB 5 134 r A0 n0 c0 Y v b s).p w' ∧ Fr (RdT r A0 n0 c0) w w')) :=
 takeShort w hz hR ((Pk.next_s hx he).2 hs).1
theorem idx_neg {b : UInt8} (h : Pk.wide b = 0) : idxF b = -1 := by
 unfold Pk.wide at h
 unfold idxF
 split at h
 ·omega
 ·rename_i h1
  rw [if_neg h1]
  split at h
  ·omega
  ·rename_i h2
   rw [if_neg h2]
   split at h
   ·omega
   ·rename_i h3; rw [if_neg h3]
theorem idx_pos {b : UInt8} (h : Pk.wide b ≠ 0) : ∃ j : Nat, idxF b = (j : Int) ∧ j < 3 ∧ formsC[0 + j * 3 + 1]? = some (.int .i64 (Pk.wide b : Int)) ∧ formsC[0 + j * 3 + 2]? = some (.int .u64 (Pk.least b : Int)) := by
 unfold Pk.wide Pk.least idxF at *
 by_cases h1 : b = 253
 ·exact ⟨0, by rw [if_pos h1]; rfl, by omega, by rw [if_pos h1]; rfl, by rw [if_pos h1]; rfl⟩
 ·by_cases h2 : b = 254
  ·exact ⟨1, by rw [if_neg h1, if_pos h2]; rfl, by omega, by rw [if_neg h1, if_pos h2]; rfl, by rw [if_neg h1, if_pos h2]; rfl⟩
  ·by_cases h3 : b = 255
   ·exact ⟨2, by rw [if_neg h1, if_neg h2, if_pos h3]; rfl, by omega, by rw [if_neg h1, if_neg h2, if_pos h3]; rfl, by rw [if_neg h1, if_neg h2]; rfl⟩
   ·rw [if_neg h1, if_neg h2, if_neg h3] at h; exact absurd rfl h

theorem numA {A0 : Option Addr} {n0 c0 r : Nat} {Y : List UInt8 → Prop} {v : Value} {b : List UInt8} {s : RS} (w : World) {s1 : RS} {l : List UInt8} (hR : (RdYB 5 134 r A0 n0 c0 Y v b s).p w) (hG : Gat w 0 formsC) (hT : ¬ RdT r A0 n0 c0 0) (he : s.2 = 0) (h1 : Pk.next 1 s = (l, s1)) (h1e : s1.2 ≠ 0) : Calls Tryz.prog 117 [.pointer (some ⟨r, 0, none⟩)].toArray w (Pan (why 4) (fun w' => (∃ s', (RdYP 5 134 r A0 n0 c0 Y s').p w') ∧ Fr (RdT r A0 n0 c0) w w')) := by
 refine k_enter (l := [_]) Tryz.func117 rfl rfl ?_
 have H := St.begin (f := RdYB 5 134 r A0 n0 c0 Y v b s) hR (RdB.lt hR)
 refine k_seq (k_region (sAi rfl rfl rfl rfl (l_nil (k_seq (k_region (sMp rfl rfl rfl rfl (s_eff (e_callP (w_none rfl) rfl Tryz.func115 rfl rfl rfl (takeSE _ h1 (by rfl) (H.get (f := RdYB 5 134 r A0 n0 c0 Y v b s)) he h1e) ?_))))))))
 rintro W ⟨hp, hf⟩
 replace H := H.mut (f := RdYB 5 134 r A0 n0 c0 Y v b s) (f' := RdYB 5 134 r A0 n0 c0 Y v b s) hf hp (fun _ h => h)
 exact ⟨rfl, rfl, ⟨_, RdB.toP (H.get (f := RdYB 5 134 r A0 n0 c0 Y v b s))⟩, H.fr⟩

theorem numC {A0 : Option Addr} {n0 c0 r : Nat} {Y : List UInt8 → Prop} {v : Value} {b : List UInt8} {s : RS} (w : World) {s1 : RS} {b0 : UInt8} (hR : (RdYB 5 134 r A0 n0 c0 Y v b s).p w) (hG : Gat w 0 formsC) (hT : ¬ RdT r A0 n0 c0 0) (he : s.2 = 0) (h1 : Pk.next 1 s = ([b0], s1)) (h1e : s1.2 = 0) (hw : Pk.wide b0 = 0) : Calls Tryz.prog 117 [.pointer (some ⟨r, 0, none⟩)].toArray w (Ret (fun v' w' => v' = .int .i64 (b0.toNat : Int) ∧ (RdYP 5 134 r A0 n0 c0 Y s1).p w' ∧ Fr (RdT r A0 n0 c0) w w')) := by
 refine k_enter (l := [_]) Tryz.func117 rfl rfl ?_
 have H := St.begin (f := RdYB 5 134 r A0 n0 c0 Y v b s) hR (RdB.lt hR)
 refine k_seq (k_region (sAi rfl rfl rfl rfl (l_nil (k_seq (k_region (sMp rfl rfl rfl rfl (sC rfl rfl rfl Tryz.func115 rfl rfl rfl (takeE _ h1 (by rfl) (H.get (f := RdYB 5 134 r A0 n0 c0 Y v b s)) he h1e) ?_)))))))
 rintro _ W ⟨hp1, hf1⟩
 obtain ⟨B1, d1, rfl⟩ := RdB.form hp1
 replace H := H.mut (f := RdYB 5 134 r A0 n0 c0 Y v b s) (f' := RdYB 5 134 r A0 n0 c0 Y (.slice B1 (List.length [b0]) d1) [b0] s1) hf1 hp1 (fun _ h => h)
 clear hp1 hf1
 refine sR rfl rfl (d_iaB rfl (RdB.rd (H.get (f := RdYB 5 134 r A0 n0 c0 Y (.slice B1 (List.length [b0]) d1) [b0] s1))) rfl rfl (q := 0) rfl (by exact Nat.zero_lt_one) tu41 ts5) ?_
 refine sR rfl rfl (d_ldB rfl (RdB.rd (H.get (f := RdYB 5 134 r A0 n0 c0 Y (.slice B1 (List.length [b0]) d1) [b0] s1))) ((rfl : [b0][0]? = some b0)) rfl ta5) (s_eff (e_alloc (w_none rfl) rfl rfl [.int .u8 0] tz5 H ?_))
 clear H; intro g3 W H
 refine s_eff (e_sto (w_none rfl) rfl rfl rfl rfl rfl ts5 rfl H rfl ?_)
 clear H; intro W H
 refine l_nil (k_seq (k_region (sR rfl rfl (d_arrA rfl rfl tu107 ts106) (sR rfl rfl (d_mkf rfl rfl rfl) (sC rfl rfl rfl Tryz.func155 rfl rfl rfl (indexF _ (H.gatT hG hT) (gat_of H.blk)) ?_)))))
 rintro _ W ⟨rfl, hb⟩
 replace H := H.below hb
 clear hb
 refine sAi rfl rfl rfl rfl (l_nil (k_seq (k_seq (k_region (sMi rfl rfl rfl rfl (sR rfl rfl (d_lt rfl rfl rfl) (l_nil (k_condT rfl (by rw [idx_neg hw]; rfl) ?_))))))))
 refine k_seq (k_region (sR rfl rfl (d_ld rfl H rfl ta5 rfl) (sR rfl rfl (d_conv rfl rfl (by rw [tu5]; rfl) tu3 (IntWalk.i64_in _ (by have := b0.toNat_lt; omega))) ?_)))
 refine sAi rfl rfl rfl rfl (l_nil (k_ret ?_))
 repeat (first | refine r_then ?_ | refine r_blk ?_)
 exact q_ret (v := .int _ _) rfl rfl ⟨_, rfl, rfl, RdB.toP (H.get (f := RdYB 5 134 r A0 n0 c0 Y (.slice B1 (List.length [b0]) d1) [b0] s1)), H.fr⟩

theorem numD {A0 : Option Addr} {n0 c0 r : Nat} {Y : List UInt8 → Prop} {v : Value} {b : List UInt8} {s : RS} (w : World) {s1 s2 : RS} {b0 : UInt8} {l : List UInt8} (hR : (RdYB 5 134 r A0 n0 c0 Y v b s).p w) (hG : Gat w 0 formsC) (hT : ¬ RdT r A0 n0 c0 0) (he : s.2 = 0) (h1 : Pk.next 1 s = ([b0], s1)) (h1e : s1.2 = 0) (hw : Pk.wide b0 ≠ 0) (h2 : Pk.next (Pk.wide b0) s1 = (l, s2)) (h2e : s2.2 ≠ 0) : Calls Tryz.prog 117 [.pointer (some ⟨r, 0, none⟩)].toArray w (Pan (why 4) (fun w' => (∃ s', (RdYP 5 134 r A0 n0 c0 Y s').p w') ∧ Fr (RdT r A0 n0 c0) w w')) := by
 refine k_enter (l := [_]) Tryz.func117 rfl rfl ?_
 have H := St.begin (f := RdYB 5 134 r A0 n0 c0 Y v b s) hR (RdB.lt hR)
 refine k_seq (k_region (sAi rfl rfl rfl rfl (l_nil (k_seq (k_region (sMp rfl rfl rfl rfl (sC rfl rfl rfl Tryz.func115 rfl rfl rfl (takeE _ h1 (by rfl) (H.get (f := RdYB 5 134 r A0 n0 c0 Y v b s)) he h1e) ?_)))))))
 rintro _ W ⟨hp1, hf1⟩
 obtain ⟨B1, d1, rfl⟩ := RdB.form hp1
 replace H := H.mut (f := RdYB 5 134 r A0 n0 c0 Y v b s) (f' := RdYB 5 134 r A0 n0 c0 Y (.slice B1 (List.length [b0]) d1) [b0] s1) hf1 hp1 (fun _ h => h)
 clear hp1 hf1
 refine sR rfl rfl (d_iaB rfl (RdB.rd (H.get (f := RdYB 5 134 r A0 n0 c0 Y (.slice B1 (List.length [b0]) d1) [b0] s1))) rfl rfl (q := 0) rfl (by exact Nat.zero_lt_one) tu41 ts5) ?_
 refine sR rfl rfl (d_ldB rfl (RdB.rd (H.get (f := RdYB 5 134 r A0 n0 c0 Y (.slice B1 (List.length [b0]) d1) [b0] s1))) ((rfl : [b0][0]? = some b0)) rfl ta5) (s_eff (e_alloc (w_none rfl) rfl rfl [.int .u8 0] tz5 H ?_))
 clear H; intro g3 W H
 refine s_eff (e_sto (w_none rfl) rfl rfl rfl rfl rfl ts5 rfl H rfl ?_)
 clear H; intro W H
 refine l_nil (k_seq (k_region (sR rfl rfl (d_arrA rfl rfl tu107 ts106) (sR rfl rfl (d_mkf rfl rfl rfl) (sC rfl rfl rfl Tryz.func155 rfl rfl rfl (indexF _ (H.gatT hG hT) (gat_of H.blk)) ?_)))))
 rintro _ W ⟨rfl, hb⟩
 replace H := H.below hb
 clear hb
 refine sAi rfl rfl rfl rfl (l_nil (k_seq (k_seq ?_)))
 obtain ⟨j, hj1, hj2, hj3, hj4⟩ := idx_pos hw
 refine k_region (sMi rfl rfl rfl rfl (sR rfl rfl (d_lt rfl rfl rfl) (l_nil (k_condF rfl (by rw [hj1]; simp) ?_))))
 refine k_skip (k_seq (k_region (s_eff (e_alloc (w_none rfl) rfl rfl [.int .u64 0] tz104 H ?_))))
 clear H; intro g5 W H
 refine s_eff (e_sto (w_none rfl) rfl rfl rfl rfl rfl ts104 rfl H rfl ?_)
 clear H; intro W H
 refine l_nil (k_seq (k_seq (k_region (sMp rfl rfl rfl rfl (sMi rfl rfl rfl rfl (sR rfl rfl (d_iaA rfl rfl rfl (q := j) hj1 tu107 hj2 ts106) (sR rfl rfl (d_fa rfl rfl tf106_1) (sR rfl rfl (d_ldG rfl (H.gatT hG hT) rfl ta3 hj3) (s_eff (e_callP (w_none rfl) rfl Tryz.func115 rfl rfl rfl (takeSE _ h2 (by rfl) (H.get (f := RdYB 5 134 r A0 n0 c0 Y (.slice B1 (List.length [b0]) d1) [b0] s1)) h1e h2e) ?_))))))))))
 rintro W ⟨hp, hf⟩
 replace H := H.mut (f := RdYB 5 134 r A0 n0 c0 Y (.slice B1 (List.length [b0]) d1) [b0] s1) (f' := RdYB 5 134 r A0 n0 c0 Y (.slice B1 (List.length [b0]) d1) [b0] s1) hf hp (fun _ h => h)
 exact ⟨rfl, rfl, ⟨_, RdB.toP (H.get (f := RdYB 5 134 r A0 n0 c0 Y (.slice B1 (List.length [b0]) d1) [b0] s1))⟩, H.fr⟩
end Go.Proofs.YtfhhfhdnhadooaaGreatDoor

namespace Go.Proofs.YtfhhfhdnhadooaaGreatDoor
open Go Go.RowKit
attribute [local irreducible] wpList

/-- The last k bytes of l, the last first, with their places. -/
def backL (l : List UInt8) (k : Nat) : List (Nat × UInt8) := (List.range k).map fun j => (l.length - 1 - j, l.getD (l.length - 1 - j) 0)
theorem backL_succ {l : List UInt8} {k : Nat} (h1 : 1 ≤ k) (hk : k ≤ l.length) : backL l (l.length - (k - 1)) = backL l (l.length - k) ++ [(k - 1, l.getD (k - 1) 0)] := by
 unfold backL
 rw [show l.length - (k - 1) = l.length - k + 1 by omega, List.range_succ, List.map_append, List.map_singleton, show l.length - 1 - (l.length - k) = k - 1 by omega]
theorem len_backL {l : List UInt8} {k : Nat} : (backL l k).length = k := by simp [backL]
theorem back_stops {q c : Nat} {B : Option Addr} {l : List UInt8} {K0 : Nat → Prop} (w : World) (hq : Gat w q [.slice B l.length c]) (hr : Rd w K0 1 B l.length (l.map u8v)) (hKq : K0 q) (hl : l.length ≤ 1000000000000) :
  SeqStopsK Fence.wide 2 Tryz.prog 163 [.pointer (some ⟨q, 0, none⟩)].toArray (fun x : Nat × UInt8 => #[.int .i64 (x.1 : Int), u8v x.2]) (KeepG K0) (fun xs => xs = backL l l.length) (fun _ => True) l.length w := by
 intro ll J Jx W0 hW hJ hJx hY h0
 refine callsIn_wide.2 ?_
 have hq0 := hq.keep hW
 have hr0 := hr.keep (fun g hg _ => hW.block g hg)
 rw [show (#[Value.func (.yield ll) #[] #[]] ++ [Value.pointer (some ⟨q, 0, none⟩)].toArray : Array Value) = [Value.func (.yield ll) #[] #[], Value.pointer (some ⟨q, 0, none⟩)].toArray from rfl]
 refine k_enter (l := [_, _]) Tryz.func163 rfl rfl ?_
 have H := St.start nT W0
 refine k_seq (k_region (sR rfl rfl (d_ldG rfl (hq0) rfl ta41 rfl) (sR rfl rfl (d_len rfl rfl tu41) (sR rfl rfl (d_sub rfl rfl rfl (by omega)) (sAi rfl rfl rfl rfl (l_nil (k_block (k_loop 7 [3] (fun mm sl W => ∃ k : Nat, k = mm ∧ sl = [(3, .int .i64 ((k : Int) - 1))] ∧ (k ≤ l.length) ∧ (J (backL l (l.length - k)) W ∧ KeepG K0 W0 W)) _ _ ⟨l.length, rfl, rfl, Nat.le_refl _, ⟨by rw [Nat.sub_self]; exact h0, fun _ _ => rfl⟩⟩ ⟨rfl, trivial⟩ (fun mm sl ρv W hJ => ?_)))))))))
 clear H; obtain ⟨k, rfl, rfl, hk, H⟩ := hJ
 refine k_one (k_seq (k_seq (k_region (sMi rfl rfl rfl rfl (sR rfl rfl (d_ge rfl rfl rfl) (l_nil (k_cond rfl (fun hc8 => ?_) (fun hc8 => ?_))))))))
 ·first | (replace hc8 := of_decide_eq_true hc8) | simp at hc8
  refine k_skip (k_seq (k_block (k_seq ?_)))
  have hq2 := hq0.same (H.2 q hKq)
  have hr2 := hr0.keep (fun g _ hg => H.2 g hg)
  refine k_regionY (r_run (fun _ => trivial) (fun c h => by cases h) (w_none rfl) rfl (mv_f rfl rfl) ?_)
  refine r_run (fun _ => trivial) (fun c h => by cases h) (w_none rfl) rfl (mv_i rfl rfl) ?_
  refine r_run (fun _ => trivial) (fun c h => by cases h) (w_none rfl) rfl (d_ldG rfl (hq2) rfl ta41 rfl) ?_
  refine r_run (fun _ => trivial) (fun c h => by cases h) (w_none rfl) rfl (mv_i rfl rfl) ?_
  refine r_run (fun _ => trivial) (fun c h => by cases h) (w_none rfl) rfl (d_iaB rfl (hr2) rfl rfl (q := k - 1) (by omega) (by omega) tu41 ts5) ?_
  refine r_run (fun _ => trivial) (fun c h => by cases h) (w_none rfl) rfl (d_ldB rfl (hr2) ((l_get (by omega))) rfl ta5) ?_
  refine r_yield (la := [.int .i64 ((k - 1 : Nat) : Int), u8v (l.getD (k - 1) 0)]) (fun _ => trivial) rfl (w_none rfl) rfl rfl rfl (by show [Value.int .i64 ((k : Int) - 1), u8v (l.getD (k - 1) 0)] = _; rw [show ((k : Int) - 1) = ((k - 1 : Nat) : Int) by omega]) (hY _ (k - 1, l.getD (k - 1) 0) W H.1 (by rw [len_backL]; omega)) (fun e W' q => by rcases q with ⟨rfl, _⟩ | ⟨rfl, _⟩ <;> exact ⟨_, rfl⟩) ?_
  intro bb W hR2
  refine r_run (fun _ => trivial) (fun c h => by cases h) (w_none rfl) rfl (d_not rfl rfl) ?_
  refine r_nil (k_cond rfl (fun hc18 => ?_) (fun hc18 => ?_))
  ·skip
   refine k_ret ?_
   repeat (first | refine r_then ?_ | refine r_blk ?_)
   have h3 := hR2.resolve_left (fun h => by cases h.1; simp at hc18)
   exact q_ret0 rfl ⟨⟨_, rfl⟩, .inr ⟨_, trivial, h3.2⟩⟩
  ·skip
   refine k_skip (k_nil (b_end (k_region (sMi rfl rfl rfl rfl (sR rfl rfl (d_sub rfl rfl rfl (by omega)) (sAi rfl rfl rfl rfl (l_nil (k_nil (k_next ?_)))))))))
   obtain ⟨_, hJ2, hK2⟩ := hR2.resolve_right (fun h => by cases h.1; simp at hc18)
   have hH : J (backL l (l.length - (k - 1))) W ∧ KeepG K0 W0 W := ⟨by rw [backL_succ (by omega) hk]; exact hJ2, fun g hg => (hK2 g hg).trans (H.2 g hg)⟩
   refine ⟨_, _, _, ?_, rfl, ?_, ?_, ⟨k - 1, rfl, rfl, by omega, hH⟩⟩
   ·omega
   ·repeat (first | (with_reducible refine .updl _ .ovr ?_); exact rfl | (with_reducible refine .updl _ (.ovr2 ?_ ?_) ?_); rotate_left; exact rfl; exact rfl | (with_reducible refine .upd ?_ ?_); rotate_left; exact rfl)
   ·refine ⟨?_, trivial⟩
    ·exact vi (by omega)
 ·first | (replace hc8 := of_decide_eq_false hc8) | simp at hc8
  refine k_exit (x_then (x_then ?_))
  refine x_hit (k_nil ?_)
  obtain rfl : k = 0 := by omega
  exact q_end0 rfl ⟨⟨_, rfl⟩, .inl ⟨_, rfl, H.1⟩⟩

theorem backward {v : Value} (w : World) {A : Option Addr} {m c : Nat} (hv : v = .slice A m c) : Calls Tryz.prog 157 [v].toArray w (Ret (fun v' w' => ∃ q, v' = .func (.func 163) #[] [.pointer (some ⟨q, 0, none⟩)].toArray ∧ New w w' (Fact.blk q [v] 41))) := by
 subst hv
 refine k_enter (l := [_]) Tryz.func157 rfl rfl ?_
 have H := St.start nT w
 refine k_seq (k_region (s_eff (e_box (vs := [.slice A m c]) (w_none rfl) rfl rfl rfl rfl H ?_)))
 clear H; intro g1 W H
 refine sR rfl rfl (d_asg rfl rfl) (l_nil (k_seq (k_region (sR rfl rfl (d_mkf rfl rfl rfl) (sR rfl rfl (as_f rfl rfl) (l_nil (k_ret ?_)))))))
 repeat (first | refine r_then ?_ | refine r_blk ?_)
 exact q_ret (v := .func _ _ _) rfl rfl ⟨_, rfl, g1, rfl, H.give⟩

def acc (xs : List (Nat × UInt8)) : Nat := xs.foldl (fun a x => a * 256 + x.2.toNat) 0
theorem acc_snoc {xs : List (Nat × UInt8)} {x : Nat × UInt8} : acc (xs ++ [x]) = acc xs * 256 + x.2.toNat := by simp [acc]
theorem acc_lt0 : ∀ (xs : List (Nat × UInt8)) (a : Nat), xs.foldl (fun a x => a * 256 + x.2.toNat) a < (a + 1) * 256 ^ xs.length
 | [], a => by simp
 | x :: xs, a => by
  have h := acc_lt0 xs (a * 256 + x.2.toNat)
  have hx := x.2.toNat_lt
  have h2 : (a * 256 + x.2.toNat + 1) * 256 ^ xs.length ≤ (a * 256 + 256) * 256 ^ xs.length := Nat.mul_le_mul_right _ (by omega)
  rw [List.foldl_cons, List.length_cons, Nat.pow_succ]
  have h3 : (a + 1) * (256 ^ xs.length * 256) = (a * 256 + 256) * 256 ^ xs.length := by
   rw [Nat.mul_comm (256 ^ xs.length) 256, ← Nat.mul_assoc, Nat.add_mul, Nat.one_mul]
  omega
theorem acc_lt {xs : List (Nat × UInt8)} (h : xs.length ≤ 7) : acc xs < 72057594037927936 := by
 have h1 := acc_lt0 xs 0
 have h2 : (256 : Nat) ^ xs.length ≤ 256 ^ 7 := Nat.pow_le_pow_right (by decide) h
 unfold acc
 omega
theorem acc_back {l : List UInt8} : ∀ {k : Nat}, k ≤ l.length → acc (backL l k) = Pk.ofLe (l.drop (l.length - k))
 | 0, _ => by rw [Nat.sub_zero, Pk.ofLe_nil (Nat.le_refl _)]; rfl
 | k + 1, h => by
  have e : backL l (k + 1) = backL l k ++ [(l.length - 1 - k, l.getD (l.length - 1 - k) 0)] := by unfold backL; rw [List.range_succ, List.map_append, List.map_singleton]
  rw [e, acc_snoc, acc_back (by omega), Pk.ofLe_drop (j := l.length - (k + 1)) (by omega), show l.length - 1 - k = l.length - (k + 1) by omega, show l.length - (k + 1) + 1 = l.length - k by omega]
  dsimp only
  omega
theorem acc_all {l : List UInt8} : acc (backL l l.length) = Pk.ofLe l := by rw [acc_back (Nat.le_refl _), Nat.sub_self, List.drop_zero]

theorem numE {A0 : Option Addr} {n0 c0 r : Nat} {Y : List UInt8 → Prop} {v : Value} {b : List UInt8} {s : RS} (w : World) {s1 s2 : RS} {b0 : UInt8} {l : List UInt8} (hR : (RdYB 5 134 r A0 n0 c0 Y v b s).p w) (hG : Gat w 0 formsC) (hT : ¬ RdT r A0 n0 c0 0) (he : s.2 = 0) (h1 : Pk.next 1 s = ([b0], s1)) (h1e : s1.2 = 0) (hw : Pk.wide b0 ≠ 0) (h2 : Pk.next (Pk.wide b0) s1 = (l, s2)) (h2e : s2.2 = 0) (hu : 9223372036854775808 ≤ Pk.ofLe l) : Calls Tryz.prog 117 [.pointer (some ⟨r, 0, none⟩)].toArray w (Pan (why 15) (fun w' => (∃ s', (RdYP 5 134 r A0 n0 c0 Y s').p w') ∧ Fr (RdT r A0 n0 c0) w w')) := by
 refine k_enterM (l := [_]) Tryz.func117 rfl rfl ?_
 have H := St.begin (f := RdYB 5 134 r A0 n0 c0 Y v b s) hR (RdB.lt hR)
 have hw8 : Pk.wide b0 ≤ 8 := by rcases Pk.wide_of (c := b0) with h | h | h | h <;> omega
 have hll : l.length ≤ 8 := by have := Pk.next_len (n := Pk.wide b0) (s := s1); rw [h2] at this; simp only at this; omega
 refine k_seq (k_region (sAi rfl rfl rfl rfl (l_nil (k_seq (k_region (sMp rfl rfl rfl rfl (sC rfl rfl rfl Tryz.func115 rfl rfl rfl (takeE _ h1 (by rfl) (H.get (f := RdYB 5 134 r A0 n0 c0 Y v b s)) he h1e) ?_)))))))
 rintro _ W ⟨hp1, hf1⟩
 obtain ⟨B1, d1, rfl⟩ := RdB.form hp1
 replace H := H.mut (f := RdYB 5 134 r A0 n0 c0 Y v b s) (f' := RdYB 5 134 r A0 n0 c0 Y (.slice B1 (List.length [b0]) d1) [b0] s1) hf1 hp1 (fun _ h => h)
 clear hp1 hf1
 refine sR rfl rfl (d_iaB rfl (RdB.rd (H.get (f := RdYB 5 134 r A0 n0 c0 Y (.slice B1 (List.length [b0]) d1) [b0] s1))) rfl rfl (q := 0) rfl (by exact Nat.zero_lt_one) tu41 ts5) ?_
 refine sR rfl rfl (d_ldB rfl (RdB.rd (H.get (f := RdYB 5 134 r A0 n0 c0 Y (.slice B1 (List.length [b0]) d1) [b0] s1))) ((rfl : [b0][0]? = some b0)) rfl ta5) (s_eff (e_alloc (w_none rfl) rfl rfl [.int .u8 0] tz5 H ?_))
 clear H; intro g3 W H
 refine s_eff (e_sto (w_none rfl) rfl rfl rfl rfl rfl ts5 rfl H rfl ?_)
 clear H; intro W H
 refine l_nil (k_seq (k_region (sR rfl rfl (d_arrA rfl rfl tu107 ts106) (sR rfl rfl (d_mkf rfl rfl rfl) (sC rfl rfl rfl Tryz.func155 rfl rfl rfl (indexF _ (H.gatT hG hT) (gat_of H.blk)) ?_)))))
 rintro _ W ⟨rfl, hb⟩
 replace H := H.below hb
 clear hb
 refine sAi rfl rfl rfl rfl (l_nil (k_seq (k_seq ?_)))
 obtain ⟨j, hj1, hj2, hj3, hj4⟩ := idx_pos hw
 refine k_region (sMi rfl rfl rfl rfl (sR rfl rfl (d_lt rfl rfl rfl) (l_nil (k_condF rfl (by rw [hj1]; simp) ?_))))
 refine k_skip (k_seq (k_region (s_eff (e_alloc (w_none rfl) rfl rfl [.int .u64 0] tz104 H ?_))))
 clear H; intro g5 W H
 refine s_eff (e_sto (w_none rfl) rfl rfl rfl rfl rfl ts104 rfl H rfl ?_)
 clear H; intro W H
 refine l_nil (k_seq (k_seq (k_region (sMp rfl rfl rfl rfl (sMi rfl rfl rfl rfl (sR rfl rfl (d_iaA rfl rfl rfl (q := j) hj1 tu107 hj2 ts106) (sR rfl rfl (d_fa rfl rfl tf106_1) (sR rfl rfl (d_ldG rfl (H.gatT hG hT) rfl ta3 hj3) (sC rfl rfl rfl Tryz.func115 rfl rfl rfl (takeE _ h2 (by rfl) (H.get (f := RdYB 5 134 r A0 n0 c0 Y (.slice B1 (List.length [b0]) d1) [b0] s1)) h1e h2e) ?_)))))))))
 rintro _ W ⟨hp2, hf2⟩
 obtain ⟨B2, d2, rfl⟩ := RdB.form hp2
 replace H := H.mut (f := RdYB 5 134 r A0 n0 c0 Y (.slice B1 (List.length [b0]) d1) [b0] s1) (f' := RdYB 5 134 r A0 n0 c0 Y (.slice B2 (List.length l) d2) l s2) hf2 hp2 (fun _ h => h)
 clear hp2 hf2
 refine sC rfl rfl rfl Tryz.func157 rfl rfl rfl (backward (v := (.slice B2 (List.length l) d2)) _ rfl) ?_
 rintro _ W ⟨q, rfl, hn⟩
 replace H := H.new hn
 clear hn
 refine l_nil (k_block (k_rangeF (α := Nat × UInt8) (e0 := fun x => .int .i64 (x.1 : Int)) (e1 := fun x => u8v x.2) (K0 := (fun g => g = q ∨ RdT r A0 n0 c0 g)) (fun pre => [Fact.blk q [(.slice B2 (List.length l) d2)] 41, Fact.blk g5 [.int .u64 (acc pre : Int)] 104, Fact.blk g3 [u8v b0] 5, RdYB 5 134 r A0 n0 c0 Y (.slice B2 (List.length l) d2) l s2]) 7 rfl Tryz.func163 rfl rfl (back_stops W (gat_of H.blk) ((RdB.rdT (H.get (f := RdYB 5 134 r A0 n0 c0 Y (.slice B2 (List.length l) d2) l s2))).mono (fun g _ h => .inr h)) (.inl rfl) (by omega)) H (by rintro g (rfl | hg); exact blk_lt (H.blk (g := _)); exact RdB.lt (H.get (f := RdYB 5 134 r A0 n0 c0 Y (.slice B2 (List.length l) d2) l s2)) g hg) (fun _ => rfl) ?_ ?_ ?_))
 ·intro l x W' K hK'
  refine kb_region (r_run (fun _ => trivial) (fun c h => by cases h) (w_none rfl) rfl (d_asg rfl rfl) ?_)
  exact r_nil hK'
 ·intro _ pre x W H hlen
  have hap := List.pairwise_cons.1 H.apart
  have hap2 := List.pairwise_cons.1 hap.2
  have hq5 : ∀ g, (g = q ∨ RdT r A0 n0 c0 g) → ¬ g = g5 := by
   rintro g (rfl | hg) e
   ·exact hap.1 _ (.head _) g rfl e
   ·exact hap2.1 _ (.tail _ (.head _)) g e hg
  have hqs : ∀ g, (g = q ∨ RdT r A0 n0 c0 g) → g < W.heap.size := by
   rintro g (rfl | hg)
   ·exact blk_lt (H.blk (g := _))
   ·exact RdB.lt (H.get (f := RdYB 5 134 r A0 n0 c0 Y (.slice B2 (List.length l) d2) l s2)) g hg
  have ha := acc_lt (xs := pre) (by omega)
  refine wpIn_block (kb_region (r_run (fun _ => trivial) (fun c h => by cases h) (w_none rfl) rfl (d_ld rfl H rfl ta104 rfl) ?_))
  refine r_run (fun _ => trivial) (fun c h => by cases h) (w_none rfl) rfl (d_shl (m := 8) (c := (acc pre : Int) * 256) rfl rfl rfl rfl (by decide) (IntWalk.u64_in _ (by omega))) ?_
  refine r_run (fun _ => trivial) (fun c h => by cases h) (w_none rfl) rfl (mv_i rfl rfl) ?_
  refine r_run (fun _ => trivial) (fun c h => by cases h) (w_none rfl) rfl (d_conv rfl rfl (by rw [tu5]; rfl) tu104 (IntWalk.u64_in _ (by have := x.2.toNat_lt; omega))) ?_
  refine r_run (fun _ => trivial) (fun c h => by cases h) (w_none rfl) rfl (d_bitW rfl rfl rfl (or_u64 ha)) ?_
  refine r_sto (fun _ => trivial) (w_none rfl) rfl rfl rfl rfl rfl ts104 rfl H ?_
  clear H; intro W2 H hFr hKO
  refine r_nil ?_
  rw [← acc_snoc] at H
  exact ⟨rfl, hKO, fun g hg => hFr.block g (hqs g hg) (hq5 g hg), H⟩
 clear H; intro D xs W hS H
 subst hS
 rw [acc_all] at H
 refine k_nil (b_end (k_seq (k_region (sR rfl rfl (d_ld rfl H rfl ta104 rfl) (sR rfl rfl (d_lt rfl rfl rfl) (s_eff (e_callP (w_none rfl) rfl Tryz.func153 rfl rfl rfl (mustBad _ _ (by simp; omega)) ?_)))))))
 intro W hb
 replace H := H.below hb
 exact q_panM (P := Tryz.prog) (fn := Tryz.f117) H (fun W H => ⟨rfl, ⟨_, RdB.toP (H.get (f := RdYB 5 134 r A0 n0 c0 Y (.slice B2 (List.length l) d2) l s2))⟩, H.fr⟩)

theorem numF {A0 : Option Addr} {n0 c0 r : Nat} {Y : List UInt8 → Prop} {v : Value} {b : List UInt8} {s : RS} (w : World) {s1 s2 : RS} {b0 : UInt8} {l : List UInt8} (hR : (RdYB 5 134 r A0 n0 c0 Y v b s).p w) (hG : Gat w 0 formsC) (hT : ¬ RdT r A0 n0 c0 0) (he : s.2 = 0) (h1 : Pk.next 1 s = ([b0], s1)) (h1e : s1.2 = 0) (hw : Pk.wide b0 ≠ 0) (h2 : Pk.next (Pk.wide b0) s1 = (l, s2)) (h2e : s2.2 = 0) (hu : Pk.ofLe l < 9223372036854775808) (hf : Pk.ofLe l < Pk.least b0) : Calls Tryz.prog 117 [.pointer (some ⟨r, 0, none⟩)].toArray w (Pan (why 10) (fun w' => (∃ s', (RdYP 5 134 r A0 n0 c0 Y s').p w') ∧ Fr (RdT r A0 n0 c0) w w')) := by
 refine k_enterM (l := [_]) Tryz.func117 rfl rfl ?_
 have H := St.begin (f := RdYB 5 134 r A0 n0 c0 Y v b s) hR (RdB.lt hR)
 have hw8 : Pk.wide b0 ≤ 8 := by rcases Pk.wide_of (c := b0) with h | h | h | h <;> omega
 have hll : l.length ≤ 8 := by have := Pk.next_len (n := Pk.wide b0) (s := s1); rw [h2] at this; simp only at this; omega
 refine k_seq (k_region (sAi rfl rfl rfl rfl (l_nil (k_seq (k_region (sMp rfl rfl rfl rfl (sC rfl rfl rfl Tryz.func115 rfl rfl rfl (takeE _ h1 (by rfl) (H.get (f := RdYB 5 134 r A0 n0 c0 Y v b s)) he h1e) ?_)))))))
 rintro _ W ⟨hp1, hf1⟩
 obtain ⟨B1, d1, rfl⟩ := RdB.form hp1
 replace H := H.mut (f := RdYB 5 134 r A0 n0 c0 Y v b s) (f' := RdYB 5 134 r A0 n0 c0 Y (.slice B1 (List.length [b0]) d1) [b0] s1) hf1 hp1 (fun _ h => h)
 clear hp1 hf1
 refine sR rfl rfl (d_iaB rfl (RdB.rd (H.get (f := RdYB 5 134 r A0 n0 c0 Y (.slice B1 (List.length [b0]) d1) [b0] s1))) rfl rfl (q := 0) rfl (by exact Nat.zero_lt_one) tu41 ts5) ?_
 refine sR rfl rfl (d_ldB rfl (RdB.rd (H.get (f := RdYB 5 134 r A0 n0 c0 Y (.slice B1 (List.length [b0]) d1) [b0] s1))) ((rfl : [b0][0]? = some b0)) rfl ta5) (s_eff (e_alloc (w_none rfl) rfl rfl [.int .u8 0] tz5 H ?_))
 clear H; intro g3 W H
 refine s_eff (e_sto (w_none rfl) rfl rfl rfl rfl rfl ts5 rfl H rfl ?_)
 clear H; intro W H
 refine l_nil (k_seq (k_region (sR rfl rfl (d_arrA rfl rfl tu107 ts106) (sR rfl rfl (d_mkf rfl rfl rfl) (sC rfl rfl rfl Tryz.func155 rfl rfl rfl (indexF _ (H.gatT hG hT) (gat_of H.blk)) ?_)))))
 rintro _ W ⟨rfl, hb⟩
 replace H := H.below hb
 clear hb
 refine sAi rfl rfl rfl rfl (l_nil (k_seq (k_seq ?_)))
 obtain ⟨j, hj1, hj2, hj3, hj4⟩ := idx_pos hw
 refine k_region (sMi rfl rfl rfl rfl (sR rfl rfl (d_lt rfl rfl rfl) (l_nil (k_condF rfl (by rw [hj1]; simp) ?_))))
 refine k_skip (k_seq (k_region (s_eff (e_alloc (w_none rfl) rfl rfl [.int .u64 0] tz104 H ?_))))
 clear H; intro g5 W H
 refine s_eff (e_sto (w_none rfl) rfl rfl rfl rfl rfl ts104 rfl H rfl ?_)
 clear H; intro W H
 refine l_nil (k_seq (k_seq (k_region (sMp rfl rfl rfl rfl (sMi rfl rfl rfl rfl (sR rfl rfl (d_iaA rfl rfl rfl (q := j) hj1 tu107 hj2 ts106) (sR rfl rfl (d_fa rfl rfl tf106_1) (sR rfl rfl (d_ldG rfl (H.gatT hG hT) rfl ta3 hj3) (sC rfl rfl rfl Tryz.func115 rfl rfl rfl (takeE _ h2 (by rfl) (H.get (f := RdYB 5 134 r A0 n0 c0 Y (.slice B1 (List.length [b0]) d1) [b0] s1)) h1e h2e) ?_)))))))))
 rintro _ W ⟨hp2, hf2⟩
 obtain ⟨B2, d2, rfl⟩ := RdB.form hp2
 replace H := H.mut (f := RdYB 5 134 r A0 n0 c0 Y (.slice B1 (List.length [b0]) d1) [b0] s1) (f' := RdYB 5 134 r A0 n0 c0 Y (.slice B2 (List.length l) d2) l s2) hf2 hp2 (fun _ h => h)
 clear hp2 hf2
 refine sC rfl rfl rfl Tryz.func157 rfl rfl rfl (backward (v := (.slice B2 (List.length l) d2)) _ rfl) ?_
 rintro _ W ⟨q, rfl, hn⟩
 replace H := H.new hn
 clear hn
 refine l_nil (k_block (k_rangeF (α := Nat × UInt8) (e0 := fun x => .int .i64 (x.1 : Int)) (e1 := fun x => u8v x.2) (K0 := (fun g => g = q ∨ RdT r A0 n0 c0 g)) (fun pre => [Fact.blk q [(.slice B2 (List.length l) d2)] 41, Fact.blk g5 [.int .u64 (acc pre : Int)] 104, Fact.blk g3 [u8v b0] 5, RdYB 5 134 r A0 n0 c0 Y (.slice B2 (List.length l) d2) l s2]) 7 rfl Tryz.func163 rfl rfl (back_stops W (gat_of H.blk) ((RdB.rdT (H.get (f := RdYB 5 134 r A0 n0 c0 Y (.slice B2 (List.length l) d2) l s2))).mono (fun g _ h => .inr h)) (.inl rfl) (by omega)) H (by rintro g (rfl | hg); exact blk_lt (H.blk (g := _)); exact RdB.lt (H.get (f := RdYB 5 134 r A0 n0 c0 Y (.slice B2 (List.length l) d2) l s2)) g hg) (fun _ => rfl) ?_ ?_ ?_))
 ·intro l x W' K hK'
  refine kb_region (r_run (fun _ => trivial) (fun c h => by cases h) (w_none rfl) rfl (d_asg rfl rfl) ?_)
  exact r_nil hK'
 ·intro _ pre x W H hlen
  have hap := List.pairwise_cons.1 H.apart
  have hap2 := List.pairwise_cons.1 hap.2
  have hq5 : ∀ g, (g = q ∨ RdT r A0 n0 c0 g) → ¬ g = g5 := by
   rintro g (rfl | hg) e
   ·exact hap.1 _ (.head _) g rfl e
   ·exact hap2.1 _ (.tail _ (.head _)) g e hg
  have hqs : ∀ g, (g = q ∨ RdT r A0 n0 c0 g) → g < W.heap.size := by
   rintro g (rfl | hg)
   ·exact blk_lt (H.blk (g := _))
   ·exact RdB.lt (H.get (f := RdYB 5 134 r A0 n0 c0 Y (.slice B2 (List.length l) d2) l s2)) g hg
  have ha := acc_lt (xs := pre) (by omega)
  refine wpIn_block (kb_region (r_run (fun _ => trivial) (fun c h => by cases h) (w_none rfl) rfl (d_ld rfl H rfl ta104 rfl) ?_))
  refine r_run (fun _ => trivial) (fun c h => by cases h) (w_none rfl) rfl (d_shl (m := 8) (c := (acc pre : Int) * 256) rfl rfl rfl rfl (by decide) (IntWalk.u64_in _ (by omega))) ?_
  refine r_run (fun _ => trivial) (fun c h => by cases h) (w_none rfl) rfl (mv_i rfl rfl) ?_
  refine r_run (fun _ => trivial) (fun c h => by cases h) (w_none rfl) rfl (d_conv rfl rfl (by rw [tu5]; rfl) tu104 (IntWalk.u64_in _ (by have := x.2.toNat_lt; omega))) ?_
  refine r_run (fun _ => trivial) (fun c h => by cases h) (w_none rfl) rfl (d_bitW rfl rfl rfl (or_u64 ha)) ?_
  refine r_sto (fun _ => trivial) (w_none rfl) rfl rfl rfl rfl rfl ts104 rfl H ?_
  clear H; intro W2 H hFr hKO
  refine r_nil ?_
  rw [← acc_snoc] at H
  exact ⟨rfl, hKO, fun g hg => hFr.block g (hqs g hg) (hq5 g hg), H⟩
 clear H; intro D xs W hS H
 subst hS
 rw [acc_all] at H
 refine k_nil (b_end (k_seq (k_region (sR rfl rfl (d_ld rfl H rfl ta104 rfl) (sR rfl rfl (d_lt rfl rfl rfl) (sC rfl rfl rfl Tryz.func153 rfl rfl rfl (mustOk _ _ (by simp; omega)) ?_))))))
 rintro _ W ⟨rfl, hb⟩
 replace H := H.below hb
 clear hb
 refine l_nil (k_seq (k_drawP 0 [(0, true), (1, true), (2, true), (3, true), (4, true), (5, true), (6, false)] _ (by kernel_rfl) (by kernel_rfl) (by kernel_rfl) H (.refl _) ?_))
 clear H; intro W H
 refine cR rfl rfl rfl (fun W H => d_ld rfl H rfl ta104 rfl) (cR rfl rfl rfl (fun W H => mv_i rfl rfl) (cR rfl rfl rfl (fun W H => d_iaA rfl rfl rfl (q := j) hj1 tu107 hj2 ts106) (cR rfl rfl rfl (fun W H => d_fa rfl rfl tf106_2) (cR rfl rfl rfl (fun W H => d_ldG rfl (H.gatT hG hT) rfl ta104 hj4) (cR rfl rfl rfl (fun W H => d_ge rfl rfl rfl) (c_eff rfl (e_callP (w_none rfl) rfl Tryz.func153 rfl rfl rfl (mustBad _ _ (by simp; omega)) ?_)))))))
 intro W hb
 replace H := H.below hb
 exact p_lo (fun a hd _ => q_panMa (P := Tryz.prog) (fn := Tryz.f117) hd H (fun W H => ⟨rfl, ⟨_, RdB.toP (H.get (f := RdYB 5 134 r A0 n0 c0 Y (.slice B2 (List.length l) d2) l s2))⟩, H.fr⟩))

theorem numG {A0 : Option Addr} {n0 c0 r : Nat} {Y : List UInt8 → Prop} {v : Value} {b : List UInt8} {s : RS} (w : World) {s1 s2 : RS} {b0 : UInt8} {l : List UInt8} (hR : (RdYB 5 134 r A0 n0 c0 Y v b s).p w) (hG : Gat w 0 formsC) (hT : ¬ RdT r A0 n0 c0 0) (he : s.2 = 0) (h1 : Pk.next 1 s = ([b0], s1)) (h1e : s1.2 = 0) (hw : Pk.wide b0 ≠ 0) (h2 : Pk.next (Pk.wide b0) s1 = (l, s2)) (h2e : s2.2 = 0) (hu : Pk.ofLe l < 9223372036854775808) (hf : ¬ Pk.ofLe l < Pk.least b0) : Calls Tryz.prog 117 [.pointer (some ⟨r, 0, none⟩)].toArray w (Ret (fun v' w' => v' = .int .i64 (Pk.ofLe l : Int) ∧ (RdYP 5 134 r A0 n0 c0 Y s2).p w' ∧ Fr (RdT r A0 n0 c0) w w')) := by
 refine k_enterM (l := [_]) Tryz.func117 rfl rfl ?_
 have H := St.begin (f := RdYB 5 134 r A0 n0 c0 Y v b s) hR (RdB.lt hR)
 have hw8 : Pk.wide b0 ≤ 8 := by rcases Pk.wide_of (c := b0) with h | h | h | h <;> omega
 have hll : l.length ≤ 8 := by have := Pk.next_len (n := Pk.wide b0) (s := s1); rw [h2] at this; simp only at this; omega
 refine k_seq (k_region (sAi rfl rfl rfl rfl (l_nil (k_seq (k_region (sMp rfl rfl rfl rfl (sC rfl rfl rfl Tryz.func115 rfl rfl rfl (takeE _ h1 (by rfl) (H.get (f := RdYB 5 134 r A0 n0 c0 Y v b s)) he h1e) ?_)))))))
 rintro _ W ⟨hp1, hf1⟩
 obtain ⟨B1, d1, rfl⟩ := RdB.form hp1
 replace H := H.mut (f := RdYB 5 134 r A0 n0 c0 Y v b s) (f' := RdYB 5 134 r A0 n0 c0 Y (.slice B1 (List.length [b0]) d1) [b0] s1) hf1 hp1 (fun _ h => h)
 clear hp1 hf1
 refine sR rfl rfl (d_iaB rfl (RdB.rd (H.get (f := RdYB 5 134 r A0 n0 c0 Y (.slice B1 (List.length [b0]) d1) [b0] s1))) rfl rfl (q := 0) rfl (by exact Nat.zero_lt_one) tu41 ts5) ?_
 refine sR rfl rfl (d_ldB rfl (RdB.rd (H.get (f := RdYB 5 134 r A0 n0 c0 Y (.slice B1 (List.length [b0]) d1) [b0] s1))) ((rfl : [b0][0]? = some b0)) rfl ta5) (s_eff (e_alloc (w_none rfl) rfl rfl [.int .u8 0] tz5 H ?_))
 clear H; intro g3 W H
 refine s_eff (e_sto (w_none rfl) rfl rfl rfl rfl rfl ts5 rfl H rfl ?_)
 clear H; intro W H
 refine l_nil (k_seq (k_region (sR rfl rfl (d_arrA rfl rfl tu107 ts106) (sR rfl rfl (d_mkf rfl rfl rfl) (sC rfl rfl rfl Tryz.func155 rfl rfl rfl (indexF _ (H.gatT hG hT) (gat_of H.blk)) ?_)))))
 rintro _ W ⟨rfl, hb⟩
 replace H := H.below hb
 clear hb
 refine sAi rfl rfl rfl rfl (l_nil (k_seq (k_seq ?_)))
 obtain ⟨j, hj1, hj2, hj3, hj4⟩ := idx_pos hw
 refine k_region (sMi rfl rfl rfl rfl (sR rfl rfl (d_lt rfl rfl rfl) (l_nil (k_condF rfl (by rw [hj1]; simp) ?_))))
 refine k_skip (k_seq (k_region (s_eff (e_alloc (w_none rfl) rfl rfl [.int .u64 0] tz104 H ?_))))
 clear H; intro g5 W H
 refine s_eff (e_sto (w_none rfl) rfl rfl rfl rfl rfl ts104 rfl H rfl ?_)
 clear H; intro W H
 refine l_nil (k_seq (k_seq (k_region (sMp rfl rfl rfl rfl (sMi rfl rfl rfl rfl (sR rfl rfl (d_iaA rfl rfl rfl (q := j) hj1 tu107 hj2 ts106) (sR rfl rfl (d_fa rfl rfl tf106_1) (sR rfl rfl (d_ldG rfl (H.gatT hG hT) rfl ta3 hj3) (sC rfl rfl rfl Tryz.func115 rfl rfl rfl (takeE _ h2 (by rfl) (H.get (f := RdYB 5 134 r A0 n0 c0 Y (.slice B1 (List.length [b0]) d1) [b0] s1)) h1e h2e) ?_)))))))))
 rintro _ W ⟨hp2, hf2⟩
 obtain ⟨B2, d2, rfl⟩ := RdB.form hp2
 replace H := H.mut (f := RdYB 5 134 r A0 n0 c0 Y (.slice B1 (List.length [b0]) d1) [b0] s1) (f' := RdYB 5 134 r A0 n0 c0 Y (.slice B2 (List.length l) d2) l s2) hf2 hp2 (fun _ h => h)
 clear hp2 hf2
 refine sC rfl rfl rfl Tryz.func157 rfl rfl rfl (backward (v := (.slice B2 (List.length l) d2)) _ rfl) ?_
 rintro _ W ⟨q, rfl, hn⟩
 replace H := H.new hn
 clear hn
 refine l_nil (k_block (k_rangeF (α := Nat × UInt8) (e0 := fun x => .int .i64 (x.1 : Int)) (e1 := fun x => u8v x.2) (K0 := (fun g => g = q ∨ RdT r A0 n0 c0 g)) (fun pre => [Fact.blk q [(.slice B2 (List.length l) d2)] 41, Fact.blk g5 [.int .u64 (acc pre : Int)] 104, Fact.blk g3 [u8v b0] 5, RdYB 5 134 r A0 n0 c0 Y (.slice B2 (List.length l) d2) l s2]) 7 rfl Tryz.func163 rfl rfl (back_stops W (gat_of H.blk) ((RdB.rdT (H.get (f := RdYB 5 134 r A0 n0 c0 Y (.slice B2 (List.length l) d2) l s2))).mono (fun g _ h => .inr h)) (.inl rfl) (by omega)) H (by rintro g (rfl | hg); exact blk_lt (H.blk (g := _)); exact RdB.lt (H.get (f := RdYB 5 134 r A0 n0 c0 Y (.slice B2 (List.length l) d2) l s2)) g hg) (fun _ => rfl) ?_ ?_ ?_))
 ·intro l x W' K hK'
  refine kb_region (r_run (fun _ => trivial) (fun c h => by cases h) (w_none rfl) rfl (d_asg rfl rfl) ?_)
  exact r_nil hK'
 ·intro _ pre x W H hlen
  have hap := List.pairwise_cons.1 H.apart
  have hap2 := List.pairwise_cons.1 hap.2
  have hq5 : ∀ g, (g = q ∨ RdT r A0 n0 c0 g) → ¬ g = g5 := by
   rintro g (rfl | hg) e
   ·exact hap.1 _ (.head _) g rfl e
   ·exact hap2.1 _ (.tail _ (.head _)) g e hg
  have hqs : ∀ g, (g = q ∨ RdT r A0 n0 c0 g) → g < W.heap.size := by
   rintro g (rfl | hg)
   ·exact blk_lt (H.blk (g := _))
   ·exact RdB.lt (H.get (f := RdYB 5 134 r A0 n0 c0 Y (.slice B2 (List.length l) d2) l s2)) g hg
  have ha := acc_lt (xs := pre) (by omega)
  refine wpIn_block (kb_region (r_run (fun _ => trivial) (fun c h => by cases h) (w_none rfl) rfl (d_ld rfl H rfl ta104 rfl) ?_))
  refine r_run (fun _ => trivial) (fun c h => by cases h) (w_none rfl) rfl (d_shl (m := 8) (c := (acc pre : Int) * 256) rfl rfl rfl rfl (by decide) (IntWalk.u64_in _ (by omega))) ?_
  refine r_run (fun _ => trivial) (fun c h => by cases h) (w_none rfl) rfl (mv_i rfl rfl) ?_
  refine r_run (fun _ => trivial) (fun c h => by cases h) (w_none rfl) rfl (d_conv rfl rfl (by rw [tu5]; rfl) tu104 (IntWalk.u64_in _ (by have := x.2.toNat_lt; omega))) ?_
  refine r_run (fun _ => trivial) (fun c h => by cases h) (w_none rfl) rfl (d_bitW rfl rfl rfl (or_u64 ha)) ?_
  refine r_sto (fun _ => trivial) (w_none rfl) rfl rfl rfl rfl rfl ts104 rfl H ?_
  clear H; intro W2 H hFr hKO
  refine r_nil ?_
  rw [← acc_snoc] at H
  exact ⟨rfl, hKO, fun g hg => hFr.block g (hqs g hg) (hq5 g hg), H⟩
 clear H; intro D xs W hS H
 subst hS
 rw [acc_all] at H
 refine k_nil (b_end (k_seq (k_region (sR rfl rfl (d_ld rfl H rfl ta104 rfl) (sR rfl rfl (d_lt rfl rfl rfl) (sC rfl rfl rfl Tryz.func153 rfl rfl rfl (mustOk _ _ (by simp; omega)) ?_))))))
 rintro _ W ⟨rfl, hb⟩
 replace H := H.below hb
 clear hb
 refine l_nil (k_seq (k_drawP 0 [(0, true), (1, true), (2, true), (3, true), (4, true), (5, true), (6, false)] _ (by kernel_rfl) (by kernel_rfl) (by kernel_rfl) H (.refl _) ?_))
 clear H; intro W H
 refine cR rfl rfl rfl (fun W H => d_ld rfl H rfl ta104 rfl) (cR rfl rfl rfl (fun W H => mv_i rfl rfl) (cR rfl rfl rfl (fun W H => d_iaA rfl rfl rfl (q := j) hj1 tu107 hj2 ts106) (cR rfl rfl rfl (fun W H => d_fa rfl rfl tf106_2) (cR rfl rfl rfl (fun W H => d_ldG rfl (H.gatT hG hT) rfl ta104 hj4) (cR rfl rfl rfl (fun W H => d_ge rfl rfl rfl) (c_eff rfl (e_call (w_none rfl) rfl rfl Tryz.func153 rfl rfl rfl (mustOk _ _ (by simp; omega)) ?_)))))))
 rintro _ W ⟨rfl, hb⟩
 replace H := H.below hb
 clear hb
 refine ⟨H.sub (by repeat (first | exact .refl _ | exact List.nil_sublist _ | refine .cons_cons _ ?_ | refine .cons _ ?_)), ?_⟩
 refine c_nilP (k_seq (k_region (sR rfl rfl (d_ld rfl H rfl ta104 rfl) (sR rfl rfl (d_conv rfl rfl (by rw [tu104]; rfl) tu3 (IntWalk.i64_in _ (by omega))) ?_))))
 refine sAi rfl rfl rfl rfl (l_nil (k_ret ?_))
 repeat (first | refine r_then ?_ | refine r_blk ?_)
 exact q_retM (P := Tryz.prog) (fn := Tryz.f117) (v := .int .i64 _) rfl rfl H (fun W H => ⟨_, rfl, rfl, RdB.toP (H.get (f := RdYB 5 134 r A0 n0 c0 Y (.slice B2 (List.length l) d2) l s2)), H.fr⟩)

/-- number: what it tells, or why it panics. -/
theorem number {A0 : Option Addr} {n0 c0 r : Nat} {Y : List UInt8 → Prop} {v : Value} {b : List UInt8} {s : RS} (w : World) (hR : (RdYB 5 134 r A0 n0 c0 Y v b s).p w) (hG : Gat w 0 formsC) (hT : ¬ RdT r A0 n0 c0 0) (he : s.2 = 0) : (((Pk.rInt s).2.2 = 0 → Calls Tryz.prog 117 [.pointer (some ⟨r, 0, none⟩)].toArray w (Ret (fun v' w' => v' = .int .i64 ((Pk.rInt s).1 : Int) ∧ (RdYP 5 134 r A0 n0 c0 Y (Pk.rInt s).2).p w' ∧ Fr (RdT r A0 n0 c0) w w'))) ∧
  ((Pk.rInt s).2.2 ≠ 0 → (Pk.rInt s) = (0, ([], (Pk.rInt s).2.2)) ∧ Calls Tryz.prog 117 [.pointer (some ⟨r, 0, none⟩)].toArray w (Pan (why (Pk.rInt s).2.2) (fun w' => (∃ s', (RdYP 5 134 r A0 n0 c0 Y s').p w') ∧ Fr (RdT r A0 n0 c0) w w')))) := by
 rcases h1 : Pk.next 1 s with ⟨l1, s1⟩
 by_cases h1e : s1.2 = 0
 ·have hl1 := (Pk.next_eq h1).1 h1e
  obtain ⟨b0, rfl⟩ : ∃ b0, l1 = [b0] := by
   match l1, hl1 with
   | [b0], _ => exact ⟨b0, rfl⟩
  by_cases hw : Pk.wide b0 = 0
  ·have e : Pk.rInt s = (b0.toNat, s1) := by unfold Pk.rInt; rw [h1]; simp only [hw, if_true]
   rw [e]
   exact ⟨fun _ => numC w hR hG hT he h1 h1e hw, fun h => absurd h1e h⟩
  ·rcases h2 : Pk.next (Pk.wide b0) s1 with ⟨l, s2⟩
   by_cases h2e : s2.2 = 0
   ·rcases Nat.lt_or_ge (Pk.ofLe l) 9223372036854775808 with hu | hu
    ·by_cases hf : Pk.ofLe l < Pk.least b0
     ·have e : Pk.rInt s = (0, ([], 10)) := by unfold Pk.rInt; rw [h1]; simp only [hw, if_false, h2, h2e, ne_eq, not_true_eq_false]; unfold Pk.num; rw [if_neg (by omega), if_pos hf]
      rw [e]
      exact ⟨fun h => absurd h (by decide), fun _ => ⟨rfl, numF w hR hG hT he h1 h1e hw h2 h2e hu hf⟩⟩
     ·have e : Pk.rInt s = (Pk.ofLe l, s2) := by unfold Pk.rInt; rw [h1]; simp only [hw, if_false, h2, h2e, ne_eq, not_true_eq_false]; unfold Pk.num; rw [if_neg (by omega), if_neg hf]
      rw [e]
      exact ⟨fun _ => numG w hR hG hT he h1 h1e hw h2 h2e hu hf, fun h => absurd h2e h⟩
    ·have e : Pk.rInt s = (0, ([], 15)) := by unfold Pk.rInt; rw [h1]; simp only [hw, if_false, h2, h2e, ne_eq, not_true_eq_false]; unfold Pk.num; rw [if_pos hu]
     rw [e]
     exact ⟨fun h => absurd h (by decide), fun _ => ⟨rfl, numE w hR hG hT he h1 h1e hw h2 h2e hu⟩⟩
   ·have hs2 := ((Pk.next_s h2 h1e).2 h2e).2
    have e : Pk.rInt s = (0, s2) := by unfold Pk.rInt; rw [h1]; simp only [hw, if_false, h2, h2e, ne_eq, not_false_eq_true, if_true]
    rw [e]
    have hd := numD w hR hG hT he h1 h1e hw h2 h2e
    subst hs2
    exact ⟨fun h => absurd h h2e, fun _ => ⟨rfl, hd⟩⟩
 ·have hs1 := ((Pk.next_s h1 he).2 h1e).2
  have hl1 := (Pk.next_eq h1).2 h1e
  obtain rfl : l1 = [] := List.eq_nil_of_length_eq_zero hl1
  have e : Pk.rInt s = (0, s1) := by unfold Pk.rInt; rw [h1]
  rw [e]
  have hd := numA w hR hG hT he h1 h1e
  subst hs1
  exact ⟨fun h => absurd h h1e, fun _ => ⟨rfl, hd⟩⟩
end Go.Proofs.YtfhhfhdnhadooaaGreatDoor

namespace Go.Proofs.YtfhhfhdnhadooaaGreatDoor
open Go Go.RowKit
attribute [local irreducible] wpList

theorem cntA {A0 : Option Addr} {n0 c0 r : Nat} {Y : List UInt8 → Prop} {v : Value} {b : List UInt8} {s : RS} (w : World) {m : Int} (hR : (RdYB 5 134 r A0 n0 c0 Y v b s).p w) (hG : Gat w 0 formsC) (hT : ¬ RdT r A0 n0 c0 0) (he : s.2 = 0) (hn : (Pk.rInt s).2.2 ≠ 0) : Calls Tryz.prog 119 [.pointer (some ⟨r, 0, none⟩), .int .i64 m].toArray w (Pan (why (Pk.rInt s).2.2) (fun w' => (∃ s', (RdYP 5 134 r A0 n0 c0 Y s').p w') ∧ Fr (RdT r A0 n0 c0) w w')) := by
 refine k_enter (l := [_, _]) Tryz.func119 rfl rfl ?_
 have H := St.begin (f := RdYB 5 134 r A0 n0 c0 Y v b s) hR (RdB.lt hR)
 refine k_seq (k_region (sAi rfl rfl rfl rfl (l_nil (k_seq (k_region (sMp rfl rfl rfl rfl (s_eff (e_callP (w_none rfl) rfl Tryz.func117 rfl rfl rfl ((number _ (H.get (f := RdYB 5 134 r A0 n0 c0 Y v b s)) (H.gatT hG hT) hT he).2 hn).2 ?_))))))))
 rintro W ⟨⟨s', hp⟩, hf⟩
 replace H := H.mut (f := RdYB 5 134 r A0 n0 c0 Y v b s) (f' := RdYP 5 134 r A0 n0 c0 Y s') hf hp (fun _ h => h)
 exact ⟨rfl, rfl, ⟨_, H.get (f := RdYP 5 134 r A0 n0 c0 Y s')⟩, H.fr⟩

theorem cntB {A0 : Option Addr} {n0 c0 r : Nat} {Y : List UInt8 → Prop} {v : Value} {b : List UInt8} {s : RS} (w : World) {m : Int} (hR : (RdYB 5 134 r A0 n0 c0 Y v b s).p w) (hG : Gat w 0 formsC) (hT : ¬ RdT r A0 n0 c0 0) (he : s.2 = 0) (hn : (Pk.rInt s).2.2 = 0) (hm : m < ((Pk.rInt s).1 : Int)) : Calls Tryz.prog 119 [.pointer (some ⟨r, 0, none⟩), .int .i64 m].toArray w (Pan (why 3) (fun w' => (∃ s', (RdYP 5 134 r A0 n0 c0 Y s').p w') ∧ Fr (RdT r A0 n0 c0) w w')) := by
 refine k_enter (l := [_, _]) Tryz.func119 rfl rfl ?_
 have H := St.begin (f := RdYB 5 134 r A0 n0 c0 Y v b s) hR (RdB.lt hR)
 refine k_seq (k_region (sAi rfl rfl rfl rfl (l_nil (k_seq (k_region (sMp rfl rfl rfl rfl (sC rfl rfl rfl Tryz.func117 rfl rfl rfl ((number _ (H.get (f := RdYB 5 134 r A0 n0 c0 Y v b s)) (H.gatT hG hT) hT he).1 hn) ?_)))))))
 rintro _ W ⟨rfl, hp, hf⟩
 replace H := H.mut (f := RdYB 5 134 r A0 n0 c0 Y v b s) (f' := RdYP 5 134 r A0 n0 c0 Y (Pk.rInt s).2) hf hp (fun _ h => h)
 clear hp hf
 refine sAi rfl rfl rfl rfl (l_nil (k_seq (k_region (sMi rfl rfl rfl rfl (sMi rfl rfl rfl rfl (sR rfl rfl (d_le rfl rfl rfl) (s_eff (e_callP (w_none rfl) rfl Tryz.func153 rfl rfl rfl (mustBad _ _ (by simp; omega)) ?_))))))))
 intro W hb
 replace H := H.below hb
 exact ⟨rfl, rfl, ⟨_, H.get (f := RdYP 5 134 r A0 n0 c0 Y (Pk.rInt s).2)⟩, H.fr⟩

theorem cntC {A0 : Option Addr} {n0 c0 r : Nat} {Y : List UInt8 → Prop} {v : Value} {b : List UInt8} {s : RS} (w : World) {m : Int} (hR : (RdYB 5 134 r A0 n0 c0 Y v b s).p w) (hG : Gat w 0 formsC) (hT : ¬ RdT r A0 n0 c0 0) (he : s.2 = 0) (hn : (Pk.rInt s).2.2 = 0) (hm : ¬ m < ((Pk.rInt s).1 : Int)) : Calls Tryz.prog 119 [.pointer (some ⟨r, 0, none⟩), .int .i64 m].toArray w (Ret (fun v' w' => v' = .int .i64 ((Pk.rInt s).1 : Int) ∧ (RdYP 5 134 r A0 n0 c0 Y (Pk.rInt s).2).p w' ∧ Fr (RdT r A0 n0 c0) w w')) := by
 refine k_enter (l := [_, _]) Tryz.func119 rfl rfl ?_
 have H := St.begin (f := RdYB 5 134 r A0 n0 c0 Y v b s) hR (RdB.lt hR)
 refine k_seq (k_region (sAi rfl rfl rfl rfl (l_nil (k_seq (k_region (sMp rfl rfl rfl rfl (sC rfl rfl rfl Tryz.func117 rfl rfl rfl ((number _ (H.get (f := RdYB 5 134 r A0 n0 c0 Y v b s)) (H.gatT hG hT) hT he).1 hn) ?_)))))))
 rintro _ W ⟨rfl, hp, hf⟩
 replace H := H.mut (f := RdYB 5 134 r A0 n0 c0 Y v b s) (f' := RdYP 5 134 r A0 n0 c0 Y (Pk.rInt s).2) hf hp (fun _ h => h)
 clear hp hf
 refine sAi rfl rfl rfl rfl (l_nil (k_seq (k_region (sMi rfl rfl rfl rfl (sMi rfl rfl rfl rfl (sR rfl rfl (d_le rfl rfl rfl) (sC rfl rfl rfl Tryz.func153 rfl rfl rfl (mustOk _ _ (by simp; omega)) ?_)))))))
 rintro _ W ⟨rfl, hb⟩
 replace H := H.below hb
 clear hb
 refine l_nil (k_seq (k_region (sMi rfl rfl rfl rfl (sAi rfl rfl rfl rfl (l_nil (k_ret ?_))))))
 repeat (first | refine r_then ?_ | refine r_blk ?_)
 exact q_ret (v := .int _ _) rfl rfl ⟨_, rfl, rfl, H.get (f := RdYP 5 134 r A0 n0 c0 Y (Pk.rInt s).2), H.fr⟩

theorem count {A0 : Option Addr} {n0 c0 r : Nat} {Y : List UInt8 → Prop} {v : Value} {b : List UInt8} {s : RS} (w : World) {m : Int} (hR : (RdYB 5 134 r A0 n0 c0 Y v b s).p w) (hG : Gat w 0 formsC) (hT : ¬ RdT r A0 n0 c0 0) (he : s.2 = 0) : (((Pk.rCount m s).2.2 = 0 → Calls Tryz.prog 119 [.pointer (some ⟨r, 0, none⟩), .int .i64 m].toArray w (Ret (fun v' w' => v' = .int .i64 ((Pk.rCount m s).1 : Int) ∧ (RdYP 5 134 r A0 n0 c0 Y (Pk.rCount m s).2).p w' ∧ Fr (RdT r A0 n0 c0) w w'))) ∧
  ((Pk.rCount m s).2.2 ≠ 0 → (Pk.rCount m s) = (0, ([], (Pk.rCount m s).2.2)) ∧ Calls Tryz.prog 119 [.pointer (some ⟨r, 0, none⟩), .int .i64 m].toArray w (Pan (why (Pk.rCount m s).2.2) (fun w' => (∃ s', (RdYP 5 134 r A0 n0 c0 Y s').p w') ∧ Fr (RdT r A0 n0 c0) w w')))) := by
 by_cases hn : (Pk.rInt s).2.2 = 0
 ·by_cases hm : m < ((Pk.rInt s).1 : Int)
  ·have e : Pk.rCount m s = (0, ([], 3)) := by unfold Pk.rCount; rw [if_pos ⟨hn, hm⟩]
   rw [e]
   exact ⟨fun h => absurd h (by decide), fun _ => ⟨rfl, cntB w hR hG hT he hn hm⟩⟩
  ·have e : Pk.rCount m s = Pk.rInt s := by unfold Pk.rCount; rw [if_neg (fun h => hm h.2)]
   rw [e]
   exact ⟨fun _ => cntC w hR hG hT he hn hm, fun h => absurd hn h⟩
 ·have e : Pk.rCount m s = Pk.rInt s := by unfold Pk.rCount; rw [if_neg (fun h => hn h.1)]
  rw [e]
  exact ⟨fun h => absurd h hn, fun _ => ⟨((number w hR hG hT he).2 hn).1, cntA w hR hG hT he hn⟩⟩

end Go.Proofs.YtfhhfhdnhadooaaGreatDoor

namespace Go.Proofs.YtfhhfhdnhadooaaGreatDoor
open Go Go.RowKit
attribute [local irreducible] wpList

end Go.Proofs.YtfhhfhdnhadooaaGreatDoor

namespace Go.Proofs.YtfhhfhdnhadooaaGreatDoor
open Go Go.RowKit
attribute [local irreducible] wpList

end Go.Proofs.YtfhhfhdnhadooaaGreatDoor

namespace Go.Proofs.YtfhhfhdnhadooaaGreatDoor
open Go Go.RowKit
attribute [local irreducible] wpList

end Go.Proofs.YtfhhfhdnhadooaaGreatDoor
