/- PackLays. -/
import Derived.Test.YtejaohlijaodjaaDoorK10
namespace Go.Proofs.YtejaohlijaodjaaDoor
open Go Go.RowKit
attribute [local irreducible] wpList

theorem d_ldmX {P : Program} {o : Oper} {n : Nat} {ρ : Nat → Value} {W w0 : World} {T : Nat → Prop} {L : List Fact} {x : Operand} {t t' : TypeId} {g i m : Nat} {c : List Value} (cs : List Value) (ho : o.op = .load t x) (H : St T w0 W L) (hx : ev n ρ x = .pointer (some ⟨g, i, none⟩)) (ha : aggB P t = some true) (hs : (P.info? t).map (·.size) = some m) [hb : Blk g L c t'] (hl : i + m ≤ c.length) (hc : sub c i m = cs) : Runs P n ρ o W (.agg cs.toArray) W := by
  subst hc
  exact d_ldm (hb := hb) ho H hx ha hs (Nat.ble_eq_true_of_le hl)
def thingC (kd n : Int) (B : Option Addr) (m d : Nat) (h t : List UInt8) : List Value := .int .i64 kd :: .int .i64 n :: .slice B m d :: (h.map u8v ++ t.map u8v)
section
variable {kd n : Int} {B : Option Addr} {m d : Nat} {h t : List UInt8}
theorem len_thing (hh : h.length = 32) (ht : t.length = 16) : (thingC kd n B m d h t).length = 51 := by simp [thingC]; omega
theorem thing_h (hh : h.length = 32) : sub (thingC kd n B m d h t) 3 32 = h.map u8v := by
  unfold thingC sub
  simp only [List.drop_succ_cons, List.drop_zero]
  rw [List.take_append_of_le_length (by rw [List.length_map]; omega), List.take_of_length_le (by rw [List.length_map]; omega)]
theorem thing_t (hh : h.length = 32) (ht : t.length = 16) : sub (thingC kd n B m d h t) 35 16 = t.map u8v := by
  unfold thingC sub
  simp only [List.drop_succ_cons]
  rw [List.drop_append, List.drop_eq_nil_of_le (by rw [List.length_map]; omega), List.length_map, hh]
  simp only [Nat.sub_self, List.drop_zero, List.nil_append]
  rw [List.take_of_length_le (by rw [List.length_map]; omega)]
end
theorem lent_pre {W : World} {S : Nat → Prop} {A : Option Addr} {n c : Nat} {b : List UInt8} (h : Bs W S (.slice A n c) (b ++ marks 5)) (hl : (b ++ marks 5).length = n) : Bs W S (.slice A b.length c) b := by
  have h2 := h.pre (h := b.length) hl (by rw [← hl, List.length_append]; omega)
  rwa [List.take_left] at h2
theorem spoilAll {A : Option Addr} {m c : Nat} {l : List UInt8} (w : World) (hR : w.ownsRow 0 5 1 (.slice A m c) m (l.map u8v)) (hm : m ≤ 1000000000000) : Calls Tryd.prog 32 [.slice A m c].toArray w (Ret (fun v' w' => v' = .tuple #[] ∧ (∃ ys : List UInt8, w'.ownsRow 0 5 1 (.slice A m c) m (ys.map u8v)) ∧ Fr (fun g => (Value.slice A m c).ownBlock = some g) w w')) := by
  refine Calls.mono (spoil (q := 0) w hR (fun _ => ?_) (by omega) hm) (fun e w' h => ?_)
  · rcases row_addr hR with rfl | ⟨g, rfl⟩
    · rfl
    · simp [Addr.add_mid]
  · obtain ⟨v, h1, h2, ⟨ys, h3, _⟩, h4⟩ := h
    exact ⟨v, h1, h2, ⟨ys, h3⟩, h4⟩

theorem packLaysA {S S1 : Nat → Prop} {v : Value} {b p h t : List UInt8} {kd n : Int} {B : Option Addr} {d : Nat} (w : World) (hG : Gat w 0 formsC) (hb : Bs w S v b) (hp : Bs w S1 (.slice B p.length d) p) (hh : h.length = 32) (ht : t.length = 16) (hn : -9223372036854775808 ≤ n ∧ n ≤ 9223372036854775807) (hm : 4096 < b.length ∨ 4096 < p.length) : Calls Tryd.prog 4 [v, .agg (thingC kd n B p.length d h t).toArray].toArray w (Ret (Is w (.bool true))) := by
  have hb0 := hb
  obtain ⟨A, c, rfl, _, _, _⟩ := hb.op
  refine k_enter (l := [_, _]) Tryd.func4 rfl rfl ?_
  have H := St.start nT w
  refine k_seq ?_
  refine k_region ?_
  refine s_eff (e_box (vs := thingC kd n B p.length d h t) (w_none rfl) rfl rfl rfl rfl H ?_)
  clear H; intro gt W H
  refine s_run (w_none rfl) rfl (as_b rfl rfl) ?_
  refine l_nil ?_
  refine k_seq ?_
  refine k_seq ?_
  refine k_region ?_
  refine s_run (w_none rfl) rfl (mv_s rfl rfl) ?_
  refine s_run (w_none rfl) rfl (d_len rfl rfl tu23) ?_
  refine s_run (w_none rfl) rfl (d_fa rfl rfl tf40_2) ?_
  refine s_run (w_none rfl) rfl (d_ld rfl H rfl ta23 rfl) ?_
  refine s_run (w_none rfl) rfl (d_len rfl rfl tu23) ?_
  refine s_run (w_none rfl) rfl (d_max rfl rfl rfl) ?_
  refine s_run (w_none rfl) rfl (d_gt rfl rfl rfl) ?_
  refine l_nil ?_
  refine k_condT rfl (by simp; omega) ?_
  refine k_seq ?_
  refine k_region ?_
  refine s_eff (e_call (w_none rfl) rfl rfl Tryd.func23 rfl rfl rfl (works03 _ (H.gat hG)) ?_)
  rintro _ W ⟨rfl, hb⟩
  replace H := H.below hb
  clear hb
  refine s_run (w_none rfl) rfl (as_b rfl rfl) ?_
  refine l_nil ?_
  refine k_ret ?_
  repeat (first | refine r_then ?_ | refine r_blk ?_)
  exact q_ret (v := .bool _) rfl rfl ⟨_, rfl, rfl, H.under⟩

set_option maxHeartbeats 4000000 in
theorem packLaysB {S S1 : Nat → Prop} {v : Value} {b p h t : List UInt8} {kd n : Int} {B : Option Addr} {d : Nat} (w : World) (hG : Gat w 0 formsC) (hb : Bs w S v b) (hp : Bs w S1 (.slice B p.length d) p) (hh : h.length = 32) (ht : t.length = 16) (hn : -9223372036854775808 ≤ n ∧ n ≤ 9223372036854775807) (hm : b.length ≤ 4096 ∧ p.length ≤ 4096) : Calls Tryd.prog 4 [v, .agg (thingC kd n B p.length d h t).toArray].toArray w (Ret (Is w (.bool true))) := by
  have hb0 := hb
  obtain ⟨A, c, rfl, _, _, _⟩ := hb.op
  refine k_enter (l := [_, _]) Tryd.func4 rfl rfl ?_
  have H := St.start nT w
  have hil := Pk.len_int p.length
  have hin := Pk.len_int (Pk.toU n)
  refine k_seq ?_
  refine k_region ?_
  refine s_eff (e_box (vs := thingC kd n B p.length d h t) (w_none rfl) rfl rfl rfl rfl H ?_)
  clear H; intro gt W H
  refine s_run (w_none rfl) rfl (as_b rfl rfl) ?_
  refine l_nil ?_
  refine k_seq ?_
  refine k_seq ?_
  refine k_region ?_
  refine s_run (w_none rfl) rfl (mv_s rfl rfl) ?_
  refine s_run (w_none rfl) rfl (d_len rfl rfl tu23) ?_
  refine s_run (w_none rfl) rfl (d_fa rfl rfl tf40_2) ?_
  refine s_run (w_none rfl) rfl (d_ld rfl H rfl ta23 rfl) ?_
  refine s_run (w_none rfl) rfl (d_len rfl rfl tu23) ?_
  refine s_run (w_none rfl) rfl (d_max rfl rfl rfl) ?_
  refine s_run (w_none rfl) rfl (d_gt rfl rfl rfl) ?_
  refine l_nil ?_
  refine k_condF rfl (by simp; omega) ?_
  refine k_skip ?_
  refine k_seq ?_
  refine k_region ?_
  refine s_run (w_none rfl) rfl (mv_s rfl rfl) ?_
  refine s_eff (e_call (w_none rfl) rfl rfl Tryd.func24 rfl rfl rfl (lentBytes _ _ _ (H.bs hb0) (by omega)) ?_)
  rintro _ W ⟨A1, c1, rfl, hc1, hd1, hn⟩
  replace H := H.new hn
  clear hn
  refine s_run (w_none rfl) rfl (as_s rfl rfl) ?_
  refine l_nil ?_
  refine k_seq ?_
  refine k_region ?_
  refine s_run (w_none rfl) rfl (d_fa rfl rfl tf40_2) ?_
  refine s_run (w_none rfl) rfl (d_ld rfl H rfl ta23 rfl) ?_
  refine s_eff (e_call (w_none rfl) rfl rfl Tryd.func24 rfl rfl rfl (lentBytes _ _ _ (H.bs hp) (by omega)) ?_)
  rintro _ W ⟨A2, c2, rfl, hc2, hd2, hn⟩
  replace H := H.new hn
  clear hn
  refine s_run (w_none rfl) rfl (as_s rfl rfl) ?_
  refine l_nil ?_
  refine k_seq ?_
  refine k_region ?_
  refine s_run (w_none rfl) rfl (mv_s rfl rfl) ?_
  refine s_run (w_none rfl) rfl (mv_s rfl rfl) ?_
  refine s_run (w_none rfl) rfl (d_len rfl rfl tu23) ?_
  refine s_run (w_none rfl) rfl (d_cutP rfl rfl (h := b.length) rfl (by have := hc1; rw [List.length_append] at this; omega) rfl tu23 ts5) ?_
  refine s_run (w_none rfl) rfl (as_s rfl rfl) ?_
  refine l_nil ?_
  refine k_seq ?_
  refine k_draw [(0, true), (1, true), (2, true), (4, true), (5, true), (6, true), (7, true), (8, true), (9, true), (11, true), (12, true), (13, true), (15, true), (16, true), (17, true), (3, false), (10, false), (14, false), (18, false), (19, false), (20, true)] _ (by kernel_rfl) (by kernel_rfl) H (.refl _) ?_
  clear H; intro W H
  refine c_run rfl (w_none rfl) rfl (fun W H => mv_s rfl rfl) ?_
  refine c_run rfl (w_none rfl) rfl (fun W H => d_fa rfl rfl tf40_1) ?_
  refine c_run rfl (w_none rfl) rfl (fun W H => d_ld rfl H rfl ta3 rfl) ?_
  refine c_run rfl (w_none rfl) rfl (fun W H => mv_s rfl rfl) ?_
  refine c_run rfl (w_none rfl) rfl (fun W H => mv_s rfl rfl) ?_
  refine c_run rfl (w_none rfl) rfl (fun W H => d_fa rfl rfl tf40_2) ?_
  refine c_run rfl (w_none rfl) rfl (fun W H => d_ld rfl H rfl ta23 rfl) ?_
  refine c_run rfl (w_none rfl) rfl (fun W H => d_len rfl rfl tu23) ?_
  refine c_run rfl (w_none rfl) rfl (fun W H => d_cutP rfl rfl (h := p.length) rfl (by have := hc2; rw [List.length_append] at this; omega) rfl tu23 ts5) ?_
  refine c_run rfl (w_none rfl) rfl (fun W H => mv_s rfl rfl) ?_
  refine c_run rfl (w_none rfl) rfl (fun W H => d_fa rfl rfl tf40_3) ?_
  refine c_run rfl (w_none rfl) rfl (fun W H => d_ldmX (h.map u8v) rfl H rfl ta36 ts36 (by rw [len_thing hh ht]; decide) (thing_h hh)) ?_
  refine c_run rfl (w_none rfl) rfl (fun W H => mv_s rfl rfl) ?_
  refine c_run rfl (w_none rfl) rfl (fun W H => d_fa rfl rfl tf40_4) ?_
  refine c_run rfl (w_none rfl) rfl (fun W H => d_ldmX (t.map u8v) rfl H rfl ta38 ts38 (by rw [len_thing hh ht]; decide) (thing_t hh ht)) ?_
  refine c_eff rfl (e_call (w_none rfl) rfl rfl Tryd.func18 rfl rfl rfl (packInt (b := b) n _ (H.gat hG) (lent_pre (H.rowbs (A := A1) (l := b ++ marks 5) rfl) rfl) hn (by omega)) ?_)
  rintro _ W ⟨A3, c3, rfl, hc3, hd3, hn⟩
  replace H := H.new hn
  clear hn
  refine ⟨H.sub (by repeat (first | exact List.Sublist.refl _ | refine List.Sublist.cons_cons _ ?_ | refine List.Sublist.cons _ ?_)), ?_⟩
  refine c_eff rfl (e_call (w_none rfl) rfl rfl Tryd.func25 rfl rfl rfl (packBlob (b := b) (p := p) _ (H.gat hG) (lent_pre (H.rowbs (A := A1) (l := b ++ marks 5) rfl) rfl) (by omega) (lent_pre (H.rowbs (A := A2) (l := p ++ marks 5) rfl) rfl) (by omega)) ?_)
  rintro _ W ⟨A4, c4, rfl, hc4, hd4, hn⟩
  replace H := H.new hn
  clear hn
  refine ⟨H.sub (by repeat (first | exact List.Sublist.refl _ | refine List.Sublist.cons_cons _ ?_ | refine List.Sublist.cons _ ?_)), ?_⟩
  refine c_eff rfl (e_call (w_none rfl) rfl rfl Tryd.func26 rfl rfl rfl (packHash (b := b) (h := h) _ (lent_pre (H.rowbs (A := A1) (l := b ++ marks 5) rfl) rfl) (by omega) hh) ?_)
  rintro _ W ⟨A5, c5, rfl, hc5, hd5, hn⟩
  replace H := H.new hn
  clear hn
  refine ⟨H.sub (by repeat (first | exact List.Sublist.refl _ | refine List.Sublist.cons_cons _ ?_ | refine List.Sublist.cons _ ?_)), ?_⟩
  refine c_eff rfl (e_call (w_none rfl) rfl rfl Tryd.func27 rfl rfl rfl (packTag (b := b) (h := t) _ (lent_pre (H.rowbs (A := A1) (l := b ++ marks 5) rfl) rfl) (by omega) ht) ?_)
  rintro _ W ⟨A6, c6, rfl, hc6, hd6, hn⟩
  replace H := H.new hn
  clear hn
  refine ⟨H.sub (by repeat (first | exact List.Sublist.refl _ | refine List.Sublist.cons_cons _ ?_ | refine List.Sublist.cons _ ?_)), ?_⟩
  refine c_eff rfl (e_bsl (xs := [.tmp 31, .tmp 38, .tmp 42, .tmp 46]) (vals := [.slice _ _ _, .slice _ _ _, .slice _ _ _, .slice _ _ _]) (vs := [.slice _ _ _, .slice _ _ _, .slice _ _ _, .slice _ _ _]) (w_none rfl) rfl rfl rfl rfl rfl rfl tu45 ts23 ty23 rfl rfl rfl H ?_)
  clear H; intro gr W H
  refine ⟨H.sub (by repeat (first | exact List.Sublist.refl _ | refine List.Sublist.cons_cons _ ?_ | refine List.Sublist.cons _ ?_)), ?_⟩
  refine c_run rfl (w_none rfl) rfl (fun W H => as_s rfl rfl) ?_
  refine c_nil ?_
  refine k_seq ?_
  refine k_draw [(0, true), (1, true), (2, true), (4, true), (5, true), (6, true), (8, true), (9, true), (10, true), (12, true), (13, true), (14, true), (3, false), (7, false), (11, false), (15, false), (16, false), (17, true)] _ (by kernel_rfl) (by kernel_rfl) H (.refl _) ?_
  clear H; intro W H
  refine c_run rfl (w_none rfl) rfl (fun W H => mv_s rfl rfl) ?_
  refine c_run rfl (w_none rfl) rfl (fun W H => d_fa rfl rfl tf40_1) ?_
  refine c_run rfl (w_none rfl) rfl (fun W H => d_ld rfl H rfl ta3 rfl) ?_
  refine c_run rfl (w_none rfl) rfl (fun W H => mv_s rfl rfl) ?_
  refine c_run rfl (w_none rfl) rfl (fun W H => d_fa rfl rfl tf40_2) ?_
  refine c_run rfl (w_none rfl) rfl (fun W H => d_ld rfl H rfl ta23 rfl) ?_
  refine c_run rfl (w_none rfl) rfl (fun W H => mv_s rfl rfl) ?_
  refine c_run rfl (w_none rfl) rfl (fun W H => d_fa rfl rfl tf40_3) ?_
  refine c_run rfl (w_none rfl) rfl (fun W H => d_ldmX (h.map u8v) rfl H rfl ta36 ts36 (by rw [len_thing hh ht]; decide) (thing_h hh)) ?_
  refine c_run rfl (w_none rfl) rfl (fun W H => mv_s rfl rfl) ?_
  refine c_run rfl (w_none rfl) rfl (fun W H => d_fa rfl rfl tf40_4) ?_
  refine c_run rfl (w_none rfl) rfl (fun W H => d_ldmX (t.map u8v) rfl H rfl ta38 ts38 (by rw [len_thing hh ht]; decide) (thing_t hh ht)) ?_
  refine c_eff rfl (e_call (w_none rfl) rfl rfl Tryd.func28 rfl rfl rfl (refInt (b := b) n _ (H.bs hb0) hn (by omega)) ?_)
  rintro _ W ⟨A7, c7, rfl, hc7, hd7, hn⟩
  replace H := H.new hn
  clear hn
  refine ⟨H.sub (by repeat (first | exact List.Sublist.refl _ | refine List.Sublist.cons_cons _ ?_ | refine List.Sublist.cons _ ?_)), ?_⟩
  refine c_eff rfl (e_call (w_none rfl) rfl rfl Tryd.func29 rfl rfl rfl (refBlob (b := b) (p := p) _ (H.bs hb0) (by omega) (H.bs hp) (by omega)) ?_)
  rintro _ W ⟨A8, c8, rfl, hc8, hd8, hn⟩
  replace H := H.new hn
  clear hn
  refine ⟨H.sub (by repeat (first | exact List.Sublist.refl _ | refine List.Sublist.cons_cons _ ?_ | refine List.Sublist.cons _ ?_)), ?_⟩
  refine c_eff rfl (e_call (w_none rfl) rfl rfl Tryd.func30 rfl rfl rfl (refHash (b := b) (h := h) _ (H.bs hb0) (by omega) hh) ?_)
  rintro _ W ⟨A9, c9, rfl, hc9, hd9, hn⟩
  replace H := H.new hn
  clear hn
  refine ⟨H.sub (by repeat (first | exact List.Sublist.refl _ | refine List.Sublist.cons_cons _ ?_ | refine List.Sublist.cons _ ?_)), ?_⟩
  refine c_eff rfl (e_call (w_none rfl) rfl rfl Tryd.func31 rfl rfl rfl (refTag (b := b) (h := t) _ (H.bs hb0) (by omega) ht) ?_)
  rintro _ W ⟨A10, c10, rfl, hc10, hd10, hn⟩
  replace H := H.new hn
  clear hn
  refine ⟨H.sub (by repeat (first | exact List.Sublist.refl _ | refine List.Sublist.cons_cons _ ?_ | refine List.Sublist.cons _ ?_)), ?_⟩
  refine c_eff rfl (e_bsl (xs := [.tmp 51, .tmp 55, .tmp 59, .tmp 63]) (vals := [.slice _ _ _, .slice _ _ _, .slice _ _ _, .slice _ _ _]) (vs := [.slice _ _ _, .slice _ _ _, .slice _ _ _, .slice _ _ _]) (w_none rfl) rfl rfl rfl rfl rfl rfl tu45 ts23 ty23 rfl rfl rfl H ?_)
  clear H; intro gw W H
  refine ⟨H.sub (by repeat (first | exact List.Sublist.refl _ | refine List.Sublist.cons_cons _ ?_ | refine List.Sublist.cons _ ?_)), ?_⟩
  refine c_run rfl (w_none rfl) rfl (fun W H => as_s rfl rfl) ?_
  refine c_nil ?_
  refine k_seq ?_
  refine k_seq ?_
  refine k_region ?_
  refine s_run (w_none rfl) rfl (as_i rfl rfl) ?_
  refine l_nil ?_
  refine k_block ?_
  refine k_unr (k_one ?_)
  refine k_seq ?_
  refine k_seq ?_
  refine k_region ?_
  refine s_run (w_none rfl) rfl (mv_i rfl rfl) ?_
  refine s_run (w_none rfl) rfl (mv_s rfl rfl) ?_
  refine s_run (w_none rfl) rfl (d_len rfl rfl tu45) ?_
  refine s_run (w_none rfl) rfl (d_lt rfl rfl rfl) ?_
  refine l_nil ?_
  refine k_condT rfl (by first | (simp; done) | (simp; omega)) ?_
  refine k_skip ?_
  refine k_seq ?_
  refine k_block ?_
  refine k_seq ?_
  refine k_seq ?_
  refine k_draw [(0, true), (1, true), (2, true), (3, true), (4, true), (5, true), (6, true), (7, true), (8, false), (9, true)] _ (by kernel_rfl) (by kernel_rfl) H (.refl _) ?_
  clear H; intro W H
  refine c_run rfl (w_none rfl) rfl (fun W H => mv_s rfl rfl) ?_
  refine c_run rfl (w_none rfl) rfl (fun W H => mv_i rfl rfl) ?_
  refine c_run rfl (w_none rfl) rfl (fun W H => d_iaS rfl (rd_blk (H.blk (g := gr)) rfl) rfl rfl (q := 0) rfl (by decide) tu45 ts23) ?_
  refine c_run rfl (w_none rfl) rfl (fun W H => d_ld rfl H rfl ta23 rfl) ?_
  refine c_run rfl (w_none rfl) rfl (fun W H => mv_s rfl rfl) ?_
  refine c_run rfl (w_none rfl) rfl (fun W H => mv_i rfl rfl) ?_
  refine c_run rfl (w_none rfl) rfl (fun W H => d_iaS rfl (rd_blk (H.blk (g := gw)) rfl) rfl rfl (q := 0) rfl (by decide) tu45 ts23) ?_
  refine c_run rfl (w_none rfl) rfl (fun W H => d_ld rfl H rfl ta23 rfl) ?_
  refine c_eff rfl (e_call (w_none rfl) rfl rfl Tryd.func22 rfl rfl rfl (sameBytes _ _ (b ++ Pk.int (Pk.toU n)) (b ++ Pk.int (Pk.toU n)) _ (H.rowbs (A := A3) rfl) (H.rowbs (A := A7) rfl)) ?_)
  rw [decide_eq_true rfl]
  rintro _ W ⟨rfl, hb⟩
  replace H := H.below hb
  clear hb
  refine ⟨H.sub (by repeat (first | exact List.Sublist.refl _ | refine List.Sublist.cons_cons _ ?_ | refine List.Sublist.cons _ ?_)), ?_⟩
  refine c_run rfl (w_none rfl) rfl (fun W H => d_not rfl rfl) ?_
  refine c_nil ?_
  refine k_condF rfl (by first | (simp; done) | (simp; omega)) ?_
  refine k_skip ?_
  refine k_region ?_
  refine s_run (w_none rfl) rfl (mv_s rfl rfl) ?_
  refine s_run (w_none rfl) rfl (mv_i rfl rfl) ?_
  refine s_run (w_none rfl) rfl (d_iaS rfl (rd_blk (H.blk (g := gr)) rfl) rfl rfl (q := 0) rfl (by decide) tu45 ts23) ?_
  refine s_run (w_none rfl) rfl (d_ld rfl H rfl ta23 rfl) ?_
  refine s_eff (e_call (w_none rfl) rfl rfl Tryd.func32 rfl rfl rfl (spoilAll _ (H.get (f := Fact.row 5 1 (.slice A3 (b ++ Pk.int (Pk.toU n)).length c3) (b ++ Pk.int (Pk.toU n)).length ((b ++ Pk.int (Pk.toU n)).map u8v))) (by simp; omega)) ?_)
  rintro _ W ⟨rfl, ⟨ys3, hys⟩, hf⟩
  replace H := H.mut (f := Fact.row 5 1 (.slice A3 (b ++ Pk.int (Pk.toU n)).length c3) (b ++ Pk.int (Pk.toU n)).length ((b ++ Pk.int (Pk.toU n)).map u8v)) (f' := Fact.row 5 1 (.slice A3 (b ++ Pk.int (Pk.toU n)).length c3) (b ++ Pk.int (Pk.toU n)).length (ys3.map u8v)) hf hys (fun _ h => h)
  clear hys hf
  refine l_nil ?_
  refine k_nil ?_
  refine b_end ?_
  refine k_region ?_
  refine s_run (w_none rfl) rfl (mv_i rfl rfl) ?_
  refine s_run (w_none rfl) rfl (d_add rfl rfl rfl (by omega)) ?_
  refine s_run (w_none rfl) rfl (as_i rfl rfl) ?_
  refine l_nil ?_
  refine k_nil ?_
  refine k_next (hd_of (k_one ?_))
  refine k_seq ?_
  refine k_seq ?_
  refine k_region ?_
  refine s_run (w_none rfl) rfl (mv_i rfl rfl) ?_
  refine s_run (w_none rfl) rfl (mv_s rfl rfl) ?_
  refine s_run (w_none rfl) rfl (d_len rfl rfl tu45) ?_
  refine s_run (w_none rfl) rfl (d_lt rfl rfl rfl) ?_
  refine l_nil ?_
  refine k_condT rfl (by first | (simp; done) | (simp; omega)) ?_
  refine k_skip ?_
  refine k_seq ?_
  refine k_block ?_
  refine k_seq ?_
  refine k_seq ?_
  refine k_draw [(0, true), (1, true), (2, true), (3, true), (4, true), (5, true), (6, true), (7, true), (8, false), (9, true)] _ (by kernel_rfl) (by kernel_rfl) H (.refl _) ?_
  clear H; intro W H
  refine c_run rfl (w_none rfl) rfl (fun W H => mv_s rfl rfl) ?_
  refine c_run rfl (w_none rfl) rfl (fun W H => mv_i rfl rfl) ?_
  refine c_run rfl (w_none rfl) rfl (fun W H => d_iaS rfl (rd_blk (H.blk (g := gr)) rfl) rfl rfl (q := 1) rfl (by decide) tu45 ts23) ?_
  refine c_run rfl (w_none rfl) rfl (fun W H => d_ld rfl H rfl ta23 rfl) ?_
  refine c_run rfl (w_none rfl) rfl (fun W H => mv_s rfl rfl) ?_
  refine c_run rfl (w_none rfl) rfl (fun W H => mv_i rfl rfl) ?_
  refine c_run rfl (w_none rfl) rfl (fun W H => d_iaS rfl (rd_blk (H.blk (g := gw)) rfl) rfl rfl (q := 1) rfl (by decide) tu45 ts23) ?_
  refine c_run rfl (w_none rfl) rfl (fun W H => d_ld rfl H rfl ta23 rfl) ?_
  refine c_eff rfl (e_call (w_none rfl) rfl rfl Tryd.func22 rfl rfl rfl (sameBytes _ _ (b ++ (Pk.int p.length ++ p)) (b ++ (Pk.int p.length ++ p)) _ (H.rowbs (A := A4) rfl) (H.rowbs (A := A8) rfl)) ?_)
  rw [decide_eq_true rfl]
  rintro _ W ⟨rfl, hb⟩
  replace H := H.below hb
  clear hb
  refine ⟨H.sub (by repeat (first | exact List.Sublist.refl _ | refine List.Sublist.cons_cons _ ?_ | refine List.Sublist.cons _ ?_)), ?_⟩
  refine c_run rfl (w_none rfl) rfl (fun W H => d_not rfl rfl) ?_
  refine c_nil ?_
  refine k_condF rfl (by first | (simp; done) | (simp; omega)) ?_
  refine k_skip ?_
  refine k_region ?_
  refine s_run (w_none rfl) rfl (mv_s rfl rfl) ?_
  refine s_run (w_none rfl) rfl (mv_i rfl rfl) ?_
  refine s_run (w_none rfl) rfl (d_iaS rfl (rd_blk (H.blk (g := gr)) rfl) rfl rfl (q := 1) rfl (by decide) tu45 ts23) ?_
  refine s_run (w_none rfl) rfl (d_ld rfl H rfl ta23 rfl) ?_
  refine s_eff (e_call (w_none rfl) rfl rfl Tryd.func32 rfl rfl rfl (spoilAll _ (H.get (f := Fact.row 5 1 (.slice A4 (b ++ (Pk.int p.length ++ p)).length c4) (b ++ (Pk.int p.length ++ p)).length ((b ++ (Pk.int p.length ++ p)).map u8v))) (by simp; omega)) ?_)
  rintro _ W ⟨rfl, ⟨ys4, hys⟩, hf⟩
  replace H := H.mut (f := Fact.row 5 1 (.slice A4 (b ++ (Pk.int p.length ++ p)).length c4) (b ++ (Pk.int p.length ++ p)).length ((b ++ (Pk.int p.length ++ p)).map u8v)) (f' := Fact.row 5 1 (.slice A4 (b ++ (Pk.int p.length ++ p)).length c4) (b ++ (Pk.int p.length ++ p)).length (ys4.map u8v)) hf hys (fun _ h => h)
  clear hys hf
  refine l_nil ?_
  refine k_nil ?_
  refine b_end ?_
  refine k_region ?_
  refine s_run (w_none rfl) rfl (mv_i rfl rfl) ?_
  refine s_run (w_none rfl) rfl (d_add rfl rfl rfl (by omega)) ?_
  refine s_run (w_none rfl) rfl (as_i rfl rfl) ?_
  refine l_nil ?_
  refine k_nil ?_
  refine k_next (hd_of (k_one ?_))
  refine k_seq ?_
  refine k_seq ?_
  refine k_region ?_
  refine s_run (w_none rfl) rfl (mv_i rfl rfl) ?_
  refine s_run (w_none rfl) rfl (mv_s rfl rfl) ?_
  refine s_run (w_none rfl) rfl (d_len rfl rfl tu45) ?_
  refine s_run (w_none rfl) rfl (d_lt rfl rfl rfl) ?_
  refine l_nil ?_
  refine k_condT rfl (by first | (simp; done) | (simp; omega)) ?_
  refine k_skip ?_
  refine k_seq ?_
  refine k_block ?_
  refine k_seq ?_
  refine k_seq ?_
  refine k_draw [(0, true), (1, true), (2, true), (3, true), (4, true), (5, true), (6, true), (7, true), (8, false), (9, true)] _ (by kernel_rfl) (by kernel_rfl) H (.refl _) ?_
  clear H; intro W H
  refine c_run rfl (w_none rfl) rfl (fun W H => mv_s rfl rfl) ?_
  refine c_run rfl (w_none rfl) rfl (fun W H => mv_i rfl rfl) ?_
  refine c_run rfl (w_none rfl) rfl (fun W H => d_iaS rfl (rd_blk (H.blk (g := gr)) rfl) rfl rfl (q := 2) rfl (by decide) tu45 ts23) ?_
  refine c_run rfl (w_none rfl) rfl (fun W H => d_ld rfl H rfl ta23 rfl) ?_
  refine c_run rfl (w_none rfl) rfl (fun W H => mv_s rfl rfl) ?_
  refine c_run rfl (w_none rfl) rfl (fun W H => mv_i rfl rfl) ?_
  refine c_run rfl (w_none rfl) rfl (fun W H => d_iaS rfl (rd_blk (H.blk (g := gw)) rfl) rfl rfl (q := 2) rfl (by decide) tu45 ts23) ?_
  refine c_run rfl (w_none rfl) rfl (fun W H => d_ld rfl H rfl ta23 rfl) ?_
  refine c_eff rfl (e_call (w_none rfl) rfl rfl Tryd.func22 rfl rfl rfl (sameBytes _ _ (b ++ h) (b ++ h) _ (H.rowbs (A := A5) rfl) (H.rowbs (A := A9) rfl)) ?_)
  rw [decide_eq_true rfl]
  rintro _ W ⟨rfl, hb⟩
  replace H := H.below hb
  clear hb
  refine ⟨H.sub (by repeat (first | exact List.Sublist.refl _ | refine List.Sublist.cons_cons _ ?_ | refine List.Sublist.cons _ ?_)), ?_⟩
  refine c_run rfl (w_none rfl) rfl (fun W H => d_not rfl rfl) ?_
  refine c_nil ?_
  refine k_condF rfl (by first | (simp; done) | (simp; omega)) ?_
  refine k_skip ?_
  refine k_region ?_
  refine s_run (w_none rfl) rfl (mv_s rfl rfl) ?_
  refine s_run (w_none rfl) rfl (mv_i rfl rfl) ?_
  refine s_run (w_none rfl) rfl (d_iaS rfl (rd_blk (H.blk (g := gr)) rfl) rfl rfl (q := 2) rfl (by decide) tu45 ts23) ?_
  refine s_run (w_none rfl) rfl (d_ld rfl H rfl ta23 rfl) ?_
  refine s_eff (e_call (w_none rfl) rfl rfl Tryd.func32 rfl rfl rfl (spoilAll _ (H.get (f := Fact.row 5 1 (.slice A5 (b ++ h).length c5) (b ++ h).length ((b ++ h).map u8v))) (by simp; omega)) ?_)
  rintro _ W ⟨rfl, ⟨ys5, hys⟩, hf⟩
  replace H := H.mut (f := Fact.row 5 1 (.slice A5 (b ++ h).length c5) (b ++ h).length ((b ++ h).map u8v)) (f' := Fact.row 5 1 (.slice A5 (b ++ h).length c5) (b ++ h).length (ys5.map u8v)) hf hys (fun _ h => h)
  clear hys hf
  refine l_nil ?_
  refine k_nil ?_
  refine b_end ?_
  refine k_region ?_
  refine s_run (w_none rfl) rfl (mv_i rfl rfl) ?_
  refine s_run (w_none rfl) rfl (d_add rfl rfl rfl (by omega)) ?_
  refine s_run (w_none rfl) rfl (as_i rfl rfl) ?_
  refine l_nil ?_
  refine k_nil ?_
  refine k_next (hd_of (k_one ?_))
  refine k_seq ?_
  refine k_seq ?_
  refine k_region ?_
  refine s_run (w_none rfl) rfl (mv_i rfl rfl) ?_
  refine s_run (w_none rfl) rfl (mv_s rfl rfl) ?_
  refine s_run (w_none rfl) rfl (d_len rfl rfl tu45) ?_
  refine s_run (w_none rfl) rfl (d_lt rfl rfl rfl) ?_
  refine l_nil ?_
  refine k_condT rfl (by first | (simp; done) | (simp; omega)) ?_
  refine k_skip ?_
  refine k_seq ?_
  refine k_block ?_
  refine k_seq ?_
  refine k_seq ?_
  refine k_draw [(0, true), (1, true), (2, true), (3, true), (4, true), (5, true), (6, true), (7, true), (8, false), (9, true)] _ (by kernel_rfl) (by kernel_rfl) H (.refl _) ?_
  clear H; intro W H
  refine c_run rfl (w_none rfl) rfl (fun W H => mv_s rfl rfl) ?_
  refine c_run rfl (w_none rfl) rfl (fun W H => mv_i rfl rfl) ?_
  refine c_run rfl (w_none rfl) rfl (fun W H => d_iaS rfl (rd_blk (H.blk (g := gr)) rfl) rfl rfl (q := 3) rfl (by decide) tu45 ts23) ?_
  refine c_run rfl (w_none rfl) rfl (fun W H => d_ld rfl H rfl ta23 rfl) ?_
  refine c_run rfl (w_none rfl) rfl (fun W H => mv_s rfl rfl) ?_
  refine c_run rfl (w_none rfl) rfl (fun W H => mv_i rfl rfl) ?_
  refine c_run rfl (w_none rfl) rfl (fun W H => d_iaS rfl (rd_blk (H.blk (g := gw)) rfl) rfl rfl (q := 3) rfl (by decide) tu45 ts23) ?_
  refine c_run rfl (w_none rfl) rfl (fun W H => d_ld rfl H rfl ta23 rfl) ?_
  refine c_eff rfl (e_call (w_none rfl) rfl rfl Tryd.func22 rfl rfl rfl (sameBytes _ _ (b ++ t) (b ++ t) _ (H.rowbs (A := A6) rfl) (H.rowbs (A := A10) rfl)) ?_)
  rw [decide_eq_true rfl]
  rintro _ W ⟨rfl, hb⟩
  replace H := H.below hb
  clear hb
  refine ⟨H.sub (by repeat (first | exact List.Sublist.refl _ | refine List.Sublist.cons_cons _ ?_ | refine List.Sublist.cons _ ?_)), ?_⟩
  refine c_run rfl (w_none rfl) rfl (fun W H => d_not rfl rfl) ?_
  refine c_nil ?_
  refine k_condF rfl (by first | (simp; done) | (simp; omega)) ?_
  refine k_skip ?_
  refine k_region ?_
  refine s_run (w_none rfl) rfl (mv_s rfl rfl) ?_
  refine s_run (w_none rfl) rfl (mv_i rfl rfl) ?_
  refine s_run (w_none rfl) rfl (d_iaS rfl (rd_blk (H.blk (g := gr)) rfl) rfl rfl (q := 3) rfl (by decide) tu45 ts23) ?_
  refine s_run (w_none rfl) rfl (d_ld rfl H rfl ta23 rfl) ?_
  refine s_eff (e_call (w_none rfl) rfl rfl Tryd.func32 rfl rfl rfl (spoilAll _ (H.get (f := Fact.row 5 1 (.slice A6 (b ++ t).length c6) (b ++ t).length ((b ++ t).map u8v))) (by simp; omega)) ?_)
  rintro _ W ⟨rfl, ⟨ys6, hys⟩, hf⟩
  replace H := H.mut (f := Fact.row 5 1 (.slice A6 (b ++ t).length c6) (b ++ t).length ((b ++ t).map u8v)) (f' := Fact.row 5 1 (.slice A6 (b ++ t).length c6) (b ++ t).length (ys6.map u8v)) hf hys (fun _ h => h)
  clear hys hf
  refine l_nil ?_
  refine k_nil ?_
  refine b_end ?_
  refine k_region ?_
  refine s_run (w_none rfl) rfl (mv_i rfl rfl) ?_
  refine s_run (w_none rfl) rfl (d_add rfl rfl rfl (by omega)) ?_
  refine s_run (w_none rfl) rfl (as_i rfl rfl) ?_
  refine l_nil ?_
  refine k_nil ?_
  refine k_next (hd_of (k_one ?_))
  refine k_seq ?_
  refine k_seq ?_
  refine k_region ?_
  refine s_run (w_none rfl) rfl (mv_i rfl rfl) ?_
  refine s_run (w_none rfl) rfl (mv_s rfl rfl) ?_
  refine s_run (w_none rfl) rfl (d_len rfl rfl tu45) ?_
  refine s_run (w_none rfl) rfl (d_lt rfl rfl rfl) ?_
  refine l_nil ?_
  refine k_condF rfl (by first | (simp; done) | (simp; omega)) ?_
  refine k_exit ?_
  refine x_then (x_then ?_)
  refine x_hit ?_
  refine k_seq ?_
  refine k_region ?_
  refine s_run (w_none rfl) rfl (mv_s rfl rfl) ?_
  refine s_run (w_none rfl) rfl (mv_s rfl rfl) ?_
  refine s_eff (e_call (w_none rfl) rfl rfl Tryd.func33 rfl rfl rfl (kept _ (H.rowbs (A := A1) (l := b ++ marks 5) rfl) (H.bs hb0) rfl (by omega)) ?_)
  rintro _ W ⟨rfl, hb⟩
  replace H := H.below hb
  clear hb
  refine s_run (w_none rfl) rfl (mv_bx (c := true) rfl rfl (rfl)) ?_
  refine s_run (w_g rfl rfl rfl rfl) rfl (mv_s rfl rfl) ?_
  refine s_run (w_g rfl rfl rfl rfl) rfl (d_fa rfl rfl tf40_2) ?_
  refine s_run (w_g rfl rfl rfl rfl) rfl (d_ld rfl H rfl ta23 rfl) ?_
  refine s_eff (e_call (w_g rfl rfl rfl rfl) rfl rfl Tryd.func33 rfl rfl rfl (kept _ (H.rowbs (A := A2) (l := p ++ marks 5) rfl) (H.bs hp) rfl (by omega)) ?_)
  rintro _ W ⟨rfl, hb⟩
  replace H := H.below hb
  clear hb
  refine s_run (w_none rfl) rfl (d_pickT rfl rfl rfl) ?_
  refine s_run (w_none rfl) rfl (mv_bx (c := true) rfl rfl (rfl)) ?_
  refine s_eff (e_call (w_g rfl rfl rfl rfl) rfl rfl Tryd.func23 rfl rfl rfl (works03 _ (H.gat hG)) ?_)
  rintro _ W ⟨rfl, hb⟩
  replace H := H.below hb
  clear hb
  refine s_run (w_none rfl) rfl (d_pickT rfl rfl rfl) ?_
  refine s_run (w_none rfl) rfl (as_b rfl rfl) ?_
  refine l_nil ?_
  refine k_ret ?_
  repeat (first | refine r_then ?_ | refine r_blk ?_)
  exact q_ret (v := .bool _) rfl rfl ⟨_, rfl, rfl, H.under⟩
end Go.Proofs.YtejaohlijaodjaaDoor
