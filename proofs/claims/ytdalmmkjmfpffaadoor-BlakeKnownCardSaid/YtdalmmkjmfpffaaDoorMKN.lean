/- Texts of this claim, laid together: K48, F15. -/
import Derived.Test.YtdalmmkjmfpffaaDoorML
import Derived.Test.YtdalmmkjmfpffaaDoorMT
import Derived.Test.YtdalmmkjmfpffaaDoorMOW
import Derived.Laws.BytesArg
import Derived.Test.YtdalmmkjmfpffaaDoorMG
set_option linter.unusedVariables false
set_option linter.unusedSimpArgs false

namespace Go.Proofs.YtdalmmkjmfpffaaDoor
open Go Go.RowKit
attribute [local irreducible] wpList

theorem gl_of {w W : World} {L : List Fact} (H : St nT w W L) (h : Old.Gl w) : Old.Gl W := h.below H.under (Nat.le_refl _)
theorem d_iaN {P : Program} {o : Oper} {n : Nat} {ρ : Nat → Value} {W : World} {t e : TypeId} {x y : Operand} {k : IntKind} {a : Int} {g i m c q s : Nat} (ho : o.op = .indexAddr t x y) (hx : ev n ρ x = .slice (some ⟨g, i, none⟩) m c) (hy : ev n ρ y = .int k a) (ha : a = (q : Int)) (hq : q < m) (hu : P.underlying t = some (.slice e)) (hs : (P.info? e).map (·.size) = some s) :
    Runs P n ρ o W (.pointer (some ⟨g, i + q * s, none⟩)) W := by
  subst ha
  cases hi : P.info? e with
  | none => rw [hi] at hs; cases hs
  | some ie =>
    have hs' : ie.size = s := by simpa [hi] using hs
    unfold Runs execOp
    simp [ho, hx, hy, Instr.indexAt, asIntOf, run_underlying hu, sizeOf, typeInfo, hi, hs', hq, Addr.add_mid]
/-- Bytes told as a string. -/
def strB (l : List UInt8) : ByteArray := (l.map fun b => (b.toNat : Int)).foldl (fun r n => r.push (UInt8.ofNat n.toNat)) ByteArray.empty
theorem d_b2s {P : Program} {o : Oper} {n : Nat} {ρ : Nat → Value} {W : World} {t t' e : TypeId} {x : Operand} {S : Nat → Prop} {A : Option Addr} {m c : Nat} {l : List UInt8} (ho : o.op = .convert t t' x) (hb : Bs W S (.slice A m c) l) (hx : ev n ρ x = .slice A m c) (hu : P.underlying t = some (.slice e)) (he : P.underlying e = some (.int .u8)) (hd : P.underlying t' = some .string) :
    Runs P n ρ o W (.string (strB l)) W := by
  obtain ⟨A', c', hv, _, _, hr⟩ := hb.op
  cases hv
  have h : (convert t t' (.slice A l.length c)).run P W = .ok (.string (strB l)) W := by
    rw [run_convert_bytes_string W t t' e A _ c hu he hd]
    cases A with
    | none =>
      rcases Nat.eq_zero_or_pos l.length with hz | hz
      · obtain rfl := List.eq_nil_of_length_eq_zero hz
        simp [Conv.bytesToString, strB]
      · obtain ⟨_, _, e1, _⟩ := hr.2 hz
        cases e1
    | some a =>
      have hl : (loadCells a l.length).run P W = .ok ((l.map fun b => (b.toNat : Int)).map (Value.int .u8)).toArray W := by
        have := run_loadCells_list (P := P) W a (l.map u8v) (fun j v hj => by
          have hp : 0 < l.length := by
            rcases Nat.eq_zero_or_pos l.length with hz | hz
            · obtain rfl := List.eq_nil_of_length_eq_zero hz
              simp at hj
            · exact hz
          obtain ⟨g, q, e1, _, e3⟩ := hr.2 hp
          cases e1
          rw [Addr.add_mid]
          exact e3 j v hj)
        rw [List.length_map] at this
        rw [this, List.map_map]
        rfl
      rw [run_bytesToString W a _ c _ hl]
      rfl
  unfold Runs execOp
  simp [ho, hx, h]
def keyL (k : Nat) : List UInt8 := (List.range k).map UInt8.ofNat
theorem keyL_len (k : Nat) : (keyL k).length = k := by simp [keyL]
theorem keyL_step {k : Nat} (h : k < 32) : (keyL k).map u8v ++ [.int .u8 (k : Int)] = (keyL (k + 1)).map u8v := by
  have e : u8v (UInt8.ofNat k) = .int .u8 (k : Int) := by
    show Value.int .u8 ((UInt8.ofNat k).toNat : Int) = _
    rw [UInt8.toNat_ofNat', Nat.mod_eq_of_lt (by omega)]
  simp [keyL, List.range_succ, e]
def noneW : List UInt32 := [0x69217A30, 0x79908094, 0xE11121D0, 0x42354A7C, 0x1F55B648, 0x2CA1A51E, 0x1B250DFD, 0x1ED0EEF9]
def oneW : List UInt32 := [0x48A8997D, 0xA407876B, 0x3D79C0D9, 0x2325AD3B, 0x89CBB754, 0xD86AB71A, 0xEE047AD3, 0x45FD2C49]
def twoW : List UInt32 := [0x40D15FEE, 0x7C328830, 0x166AC3F9, 0x18650F80, 0x7E7E01E1, 0x77258CDC, 0x0A39B11F, 0x598066F1]
theorem none_eq : Old.Bl.sum [] = Old.hashOf noneW := by decide +kernel
theorem one_eq : Old.Bl.keyed (keyL 32) [] = Old.hashOf oneW := by decide +kernel
theorem two_eq : Old.Bl.keyed (keyL 32) [0] = Old.hashOf twoW := by decide +kernel
def nvL : List Nat := [0, 1, 31, 32, 33, 63, 64, 65, 127, 128, 129, 200]
def nv (i : Nat) : Nat := nvL.getD i 0
abbrev nsC : List Value := [.int .i64 0, .int .i64 1, .int .i64 31, .int .i64 32, .int .i64 33, .int .i64 63, .int .i64 64, .int .i64 65, .int .i64 127, .int .i64 128, .int .i64 129, .int .i64 200]
theorem ns_at {i : Nat} (h : i < 12) : sub nsC (0 + i * 1) 1 = [.int .i64 (nv i : Int)] := by
  obtain rfl | rfl | rfl | rfl | rfl | rfl | rfl | rfl | rfl | rfl | rfl | rfl : i = 0 ∨ i = 1 ∨ i = 2 ∨ i = 3 ∨ i = 4 ∨ i = 5 ∨ i = 6 ∨ i = 7 ∨ i = 8 ∨ i = 9 ∨ i = 10 ∨ i = 11 := by omega
  all_goals rfl
theorem nv_le {i : Nat} (h : i < 12) : nv i ≤ 200 := by
  obtain rfl | rfl | rfl | rfl | rfl | rfl | rfl | rfl | rfl | rfl | rfl | rfl : i = 0 ∨ i = 1 ∨ i = 2 ∨ i = 3 ∨ i = 4 ∨ i = 5 ∨ i = 6 ∨ i = 7 ∨ i = 8 ∨ i = 9 ∨ i = 10 ∨ i = 11 := by omega
  all_goals decide
theorem sumB {S : Nat → Prop} {v : Value} {b : List UInt8} (w : World) (hG : Old.Gl w) (hb : Bs w S v b) (hl : b.length ≤ 1000000000) : Calls Tryd.prog 8 [v].toArray w (Ret (Is w (.agg ((Old.Bl.sum b).map u8v).toArray))) :=
  Calls.mono (Old.sum_any v b w hb (by omega) hG) (fun e w' h => ⟨_, h.1, rfl, h.2⟩)
theorem keyedB {S S1 : Nat → Prop} {v u : Value} {k b : List UInt8} (w : World) (hG : Old.Gl w) (hk : Bs w S v k) (hb : Bs w S1 u b) (hkl : k.length ≤ 1000000000) (hl : b.length ≤ 1000000000) : Calls Tryd.prog 9 [v, u].toArray w (Ret (Is w (.agg ((Old.Bl.keyed k b).map u8v).toArray))) :=
  Calls.mono (Old.keyed_any v u k b w hk hb (by omega) (by omega) hG) (fun e w' h => ⟨_, h.1, rfl, h.2⟩)
theorem hashB {ws : List UInt32} (w : World) (hl : ws.length = 8) : Calls Tryd.prog 7 [.agg (ws.map u32v).toArray].toArray w (Ret (Is w (.agg ((Old.hashOf ws).map u8v).toArray))) :=
  Calls.mono (Old.hash_any _ ws w rfl hl) (fun e w' h => ⟨_, h.1, rfl, h.2⟩)
theorem sumsB {S S1 : Nat → Prop} {v u : Value} {k b : List UInt8} {s : ByteArray} (w : World) (hG : Old.Gl w) (hk : Bs w S v k) (hb : Bs w S1 u b) : Calls Tryd.prog 10 [v, u, .string s].toArray w (Ret (Is w (.bool true))) :=
  Calls.mono (Old.sums_any v u k b s w hk hb hG) (fun e w' h => ⟨_, h.1, rfl, h.2⟩)
theorem keysB {S S1 : Nat → Prop} {v u : Value} {k b : List UInt8} (w : World) (hG : Old.Gl w) (hk : Bs w S v k) (hb : Bs w S1 u b) : Calls Tryd.prog 12 [v, u].toArray w (Ret (Is w (.bool true))) :=
  Calls.mono (Old.keys_any v u k b w hk hb hG) (fun e w' h => ⟨_, h.1, rfl, h.2⟩)
theorem tagsB {S : Nat → Prop} {u : Value} {c : List UInt8} {a b : ByteArray} (w : World) (hG : Old.Gl w) (hc : Bs w S u c) : Calls Tryd.prog 13 [.string a, .string b, u].toArray w (Ret (Is w (.bool true))) :=
  Calls.mono (Old.tags_any a b u c w hc hG) (fun e w' h => ⟨_, h.1, rfl, h.2⟩)
theorem worksB (w : World) (hG : Old.Gl w) : Calls Tryd.prog 14 [].toArray w (Ret (Is w (.bool true))) :=
  Calls.mono (Old.works_any w hG) (fun e w' h => ⟨_, h.1, rfl, h.2⟩)
attribute [local irreducible] Old.Bl.sum Old.Bl.keyed Old.hashOf

set_option maxHeartbeats 4000000 in
theorem blakeKnown (w : World) (hB : Old.Gl w) : Calls Tryd.prog 3 [].toArray w (Ret (Is w (.bool true))) := by
  refine k_enter (l := []) Tryd.func3 rfl rfl ?_
  have H := St.start nT w
  refine k_seq ?_
  refine k_region ?_
  refine s_run (w_none rfl) rfl (as_b rfl rfl) ?_
  refine l_nil ?_
  refine k_seq ?_
  refine k_region ?_
  refine s_run (w_none rfl) rfl (as_s rfl rfl) ?_
  refine l_nil ?_
  refine k_seq ?_
  refine k_seq ?_
  refine k_region ?_
  refine s_run (w_none rfl) rfl (as_i rfl rfl) ?_
  refine l_nil ?_
  refine k_block ?_
  refine k_loop 9 [1, 2] (fun mm sl W => ∃ k : Nat, ∃ A2 : Option Addr, ∃ c2 : Nat, 32 - k = mm ∧ sl = [(2, .int .i64 (k : Int)), (1, .slice A2 k c2)] ∧ (k ≤ 32) ∧ (k ≤ c2 ∧ c2 ≤ 9223372036854775807) ∧ St nT w W [Fact.row 5 1 (.slice A2 k c2) k ((keyL k).map u8v)]) _ _ ⟨0, none, 0, rfl, rfl, Nat.zero_le _, ⟨Nat.le_refl _, by omega⟩, (H.nilrow 5 1)⟩ ⟨rfl, rfl, trivial⟩ (fun mm sl ρv W hJ => ?_)
  clear H; obtain ⟨k, A2, c2, rfl, rfl, hk, hd, H⟩ := hJ
  refine k_one ?_
  refine k_seq ?_
  refine k_seq ?_
  refine k_region ?_
  refine s_run (w_none rfl) rfl (mv_i rfl rfl) ?_
  refine s_run (w_none rfl) rfl (d_lt rfl rfl rfl) ?_
  refine l_nil ?_
  refine k_cond rfl (fun hc10 => ?_) (fun hc10 => ?_)
  · have hlt : k < 32 := by simp at hc10; omega
    refine k_skip ?_
    refine k_seq ?_
    refine k_block ?_
    refine k_region ?_
    refine s_run (w_none rfl) rfl (mv_s rfl rfl) ?_
    refine s_run (w_none rfl) rfl (mv_i rfl rfl) ?_
    refine s_run (w_none rfl) rfl (d_conv rfl rfl (by rw [tu3]; rfl) tu5 (IntWalk.u8_in _ (by omega))) ?_
    refine s_eff (e_bsl (xs := [.tmp 15]) (vals := [.int .u8 _]) (vs := [.int .u8 _]) (w_none rfl) rfl rfl rfl rfl rfl rfl tu22 ts5 ty5 rfl rfl rfl H ?_)
    clear H; intro g9 W H
    refine s_eff (e_app (w_none rfl) rfl rfl tu22 tx5 rfl rfl rfl H (rd_blk H.blk rfl) (rfl) (by omega) rfl ?_)
    clear H; intro A1 c1 W hc1 hd1 H
    replace H := H.drop
    rw [keyL_step hlt] at H
    refine s_run (w_none rfl) rfl (as_s rfl rfl) ?_
    refine l_nil ?_
    refine k_nil ?_
    refine b_end ?_
    refine k_region ?_
    refine s_run (w_none rfl) rfl (mv_i rfl rfl) ?_
    refine s_run (w_none rfl) rfl (d_add rfl rfl rfl (by omega)) ?_
    refine s_run (w_none rfl) rfl (as_i rfl rfl) ?_
    refine l_nil ?_
    refine k_nil ?_
    refine k_next ?_
    refine ⟨_, _, _, ?_, rfl, ?_, ?_, ⟨k + 1, A1, c1, rfl, rfl, by omega, ⟨hc1, hd1⟩, H⟩⟩
    · omega
    · repeat (first | ((with_reducible refine Eqo.updl _ Eqo.ovr ?_); exact rfl) | ((with_reducible refine Eqo.updl _ (Eqo.ovr2 ?_ ?_) ?_); rotate_left; exact rfl; exact rfl) | ((with_reducible refine Eqo.upd ?_ ?_); rotate_left; exact rfl))
    · refine ⟨?_, ?_, trivial⟩
      · exact vi (by omega)
      · exact rfl
  · obtain rfl : k = 32 := by simp at hc10; omega
    refine k_exit ?_
    refine x_then (x_then ?_)
    refine x_hit ?_
    refine k_seq ?_
    refine k_region ?_
    refine s_run (w_none rfl) rfl (d_build (vs := noneW.map u32v) rfl (by kernel_rfl)) ?_
    refine s_eff (e_call (w_none rfl) rfl rfl Tryd.func7 rfl rfl rfl (hashB (ws := noneW) _ rfl) ?_)
    rintro _ W ⟨rfl, hb⟩
    replace H := H.below hb
    clear hb
    refine s_eff (e_alloc (w_none rfl) rfl rfl (List.replicate 32 (u8v 0)) tz24 H ?_)
    clear H; intro g3 W H
    refine s_eff (e_stoK ((Old.hashOf noneW).map u8v) (w_none rfl) rfl rfl rfl rfl rfl ts24 (by rw [List.length_map]; exact Old.hashOf_len _) (all_u8L _) H (by decide) (spl_all (by rw [List.length_map, List.length_replicate]; exact Old.hashOf_len _)) ?_)
    clear H; intro W H
    refine l_nil ?_
    refine k_seq ?_
    refine k_region ?_
    refine s_run (w_none rfl) rfl (d_build (vs := oneW.map u32v) rfl (by kernel_rfl)) ?_
    refine s_eff (e_call (w_none rfl) rfl rfl Tryd.func7 rfl rfl rfl (hashB (ws := oneW) _ rfl) ?_)
    rintro _ W ⟨rfl, hb⟩
    replace H := H.below hb
    clear hb
    refine s_eff (e_alloc (w_none rfl) rfl rfl (List.replicate 32 (u8v 0)) tz24 H ?_)
    clear H; intro g4 W H
    refine s_eff (e_stoK ((Old.hashOf oneW).map u8v) (w_none rfl) rfl rfl rfl rfl rfl ts24 (by rw [List.length_map]; exact Old.hashOf_len _) (all_u8L _) H (by decide) (spl_all (by rw [List.length_map, List.length_replicate]; exact Old.hashOf_len _)) ?_)
    clear H; intro W H
    refine l_nil ?_
    refine k_seq ?_
    refine k_region ?_
    refine s_run (w_none rfl) rfl (d_build (vs := twoW.map u32v) rfl (by kernel_rfl)) ?_
    refine s_eff (e_call (w_none rfl) rfl rfl Tryd.func7 rfl rfl rfl (hashB (ws := twoW) _ rfl) ?_)
    rintro _ W ⟨rfl, hb⟩
    replace H := H.below hb
    clear hb
    refine s_eff (e_alloc (w_none rfl) rfl rfl (List.replicate 32 (u8v 0)) tz24 H ?_)
    clear H; intro g5 W H
    refine s_eff (e_stoK ((Old.hashOf twoW).map u8v) (w_none rfl) rfl rfl rfl rfl rfl ts24 (by rw [List.length_map]; exact Old.hashOf_len _) (all_u8L _) H (by decide) (spl_all (by rw [List.length_map, List.length_replicate]; exact Old.hashOf_len _)) ?_)
    clear H; intro W H
    refine l_nil ?_
    refine k_seq ?_
    refine k_seq ?_
    refine k_draw [(1, true), (0, false), (2, true), (3, true), (4, true), (6, true), (5, false), (7, true), (8, true), (9, true), (10, true), (13, true), (11, false), (12, false), (14, true), (15, true)] _ (by kernel_rfl) (by kernel_rfl) H (.refl _) ?_
    clear H; intro W H
    refine c_run rfl (w_none rfl) rfl (fun W H => d_ldm0 (g := g3) rfl H rfl ta24 ts24 (by rw [List.length_map]; exact Old.hashOf_len _)) ?_
    refine c_eff rfl (e_call (w_none rfl) rfl rfl Tryd.func8 rfl rfl rfl (sumB (b := []) _ (gl_of H hB) (Bs.nil (S := nT)) (by decide)) ?_)
    rintro _ W ⟨rfl, hb⟩
    replace H := H.below hb
    clear hb
    refine ⟨H.sub (by repeat (first | exact List.Sublist.refl _ | exact List.nil_sublist _ | refine List.Sublist.cons_cons _ ?_ | refine List.Sublist.cons _ ?_)), ?_⟩
    refine c_run rfl (w_none rfl) rfl (fun W H => d_nearr rfl rfl rfl tu24 tu5 ts5 (Old.Bl.len_sum _) (Old.hashOf_len _) (by kernel_rfl)) ?_
    refine c_run rfl (w_none rfl) rfl (fun W H => mv_bx (c := false) rfl rfl (by rw [none_eq]; simp)) ?_
    refine c_run rfl (w_g rfl rfl rfl rfl) rfl (fun W H => mv_s rfl rfl) ?_
    refine c_run rfl (w_g rfl rfl rfl rfl) rfl (fun W H => d_ldm0 (g := g4) rfl H rfl ta24 ts24 (by rw [List.length_map]; exact Old.hashOf_len _)) ?_
    refine c_eff rfl (e_call (w_g rfl rfl rfl rfl) rfl rfl Tryd.func9 rfl rfl rfl (keyedB (k := keyL 32) (b := []) _ (gl_of H hB) (H.rowbs (A := A2) (l := keyL 32) (keyL_len _)) (Bs.nil (S := nT)) (by rw [keyL_len]; decide) (by decide)) ?_)
    rintro _ W ⟨rfl, hb⟩
    replace H := H.below hb
    clear hb
    refine ⟨H.sub (by repeat (first | exact List.Sublist.refl _ | exact List.nil_sublist _ | refine List.Sublist.cons_cons _ ?_ | refine List.Sublist.cons _ ?_)), ?_⟩
    refine c_run rfl (w_g rfl rfl rfl rfl) rfl (fun W H => d_nearr rfl rfl rfl tu24 tu5 ts5 (Old.Bl.len_keyed _ _) (Old.hashOf_len _) (by kernel_rfl)) ?_
    refine c_run rfl (w_none rfl) rfl (fun W H => d_pickF rfl rfl rfl) ?_
    refine c_run rfl (w_none rfl) rfl (fun W H => mv_bx (c := false) rfl rfl (by rw [one_eq]; simp)) ?_
    refine c_run rfl (w_g rfl rfl rfl rfl) rfl (fun W H => mv_s rfl rfl) ?_
    refine c_run rfl (w_g rfl rfl rfl rfl) rfl (fun W H => d_ldm0 (g := g5) rfl H rfl ta24 ts24 (by rw [List.length_map]; exact Old.hashOf_len _)) ?_
    refine c_eff rfl (e_bsl (xs := [.const (.int .u8 0)]) (vals := [.int .u8 _]) (vs := [.int .u8 _]) (w_g rfl rfl rfl rfl) rfl rfl rfl rfl rfl rfl tu22 ts5 ty5 rfl rfl rfl H ?_)
    clear H; intro g10 W H
    refine ⟨H.sub (by repeat (first | exact List.Sublist.refl _ | exact List.nil_sublist _ | refine List.Sublist.cons_cons _ ?_ | refine List.Sublist.cons _ ?_)), ?_⟩
    refine c_eff rfl (e_call (w_g rfl rfl rfl rfl) rfl rfl Tryd.func9 rfl rfl rfl (keyedB (k := keyL 32) (b := [0]) _ (gl_of H hB) (H.rowbs (A := A2) (l := keyL 32) (keyL_len _)) (Bs.mk (S := (· = g10)) (l := [0]) (rd_blk (H.blk (g := g10)) rfl) (by decide) (by decide)) (by rw [keyL_len]; decide) (by decide)) ?_)
    rintro _ W ⟨rfl, hb⟩
    replace H := H.below hb
    clear hb
    refine ⟨H.sub (by repeat (first | exact List.Sublist.refl _ | exact List.nil_sublist _ | refine List.Sublist.cons_cons _ ?_ | refine List.Sublist.cons _ ?_)), ?_⟩
    refine c_run rfl (w_g rfl rfl rfl rfl) rfl (fun W H => d_nearr rfl rfl rfl tu24 tu5 ts5 (Old.Bl.len_keyed _ _) (Old.hashOf_len _) (by kernel_rfl)) ?_
    refine c_run rfl (w_none rfl) rfl (fun W H => d_pickF rfl rfl rfl) ?_
    refine c_nil ?_
    refine k_condF rfl (by rw [two_eq]; simp) ?_
    refine k_skip ?_
    refine k_seq ?_
    refine k_region ?_
    refine s_eff (e_bsl (xs := [.const (.int .i64 0), .const (.int .i64 1), .const (.int .i64 31), .const (.int .i64 32), .const (.int .i64 33), .const (.int .i64 63), .const (.int .i64 64), .const (.int .i64 65), .const (.int .i64 127), .const (.int .i64 128), .const (.int .i64 129), .const (.int .i64 200)]) (vals := [.int .i64 _, .int .i64 _, .int .i64 _, .int .i64 _, .int .i64 _, .int .i64 _, .int .i64 _, .int .i64 _, .int .i64 _, .int .i64 _, .int .i64 _, .int .i64 _]) (vs := [.int .i64 _, .int .i64 _, .int .i64 _, .int .i64 _, .int .i64 _, .int .i64 _, .int .i64 _, .int .i64 _, .int .i64 _, .int .i64 _, .int .i64 _, .int .i64 _]) (w_none rfl) rfl rfl rfl rfl rfl rfl tu30 ts3 ty3 rfl rfl rfl H ?_)
    clear H; intro g6 W H
    refine s_run (w_none rfl) rfl (as_s rfl rfl) ?_
    refine l_nil ?_
    refine k_seq ?_
    refine k_seq ?_
    refine k_region ?_
    refine s_run (w_none rfl) rfl (as_i rfl rfl) ?_
    refine l_nil ?_
    refine k_block ?_
    refine k_loop 41 [0, 7, 8] (fun mm sl W => ∃ i : Nat, 12 - i = mm ∧ sl = [(7, .int .i64 (i : Int))] ∧ (i ≤ 12) ∧ St nT w W [Fact.blk g6 nsC 3]) _ _ ⟨0, rfl, rfl, Nat.zero_le _, H.sub (L' := [_]) (by repeat (first | exact List.Sublist.refl _ | exact List.nil_sublist _ | refine List.Sublist.cons_cons _ ?_ | refine List.Sublist.cons _ ?_))⟩ ⟨rfl, trivial⟩ (fun mm sl ρv W hJ => ?_)
    clear H; obtain ⟨i, rfl, rfl, hi, H⟩ := hJ
    refine k_one ?_
    refine k_seq ?_
    refine k_seq ?_
    refine k_region ?_
    refine s_run (w_none rfl) rfl (mv_i rfl rfl) ?_
    refine s_run (w_none rfl) rfl (mv_s rfl rfl) ?_
    refine s_run (w_none rfl) rfl (d_len rfl rfl tu30) ?_
    refine s_run (w_none rfl) rfl (d_lt rfl rfl rfl) ?_
    refine l_nil ?_
    refine k_cond rfl (fun hc44 => ?_) (fun hc44 => ?_)
    · have hlt : i < 12 := by simp at hc44; omega
      refine k_skip ?_
      refine k_seq ?_
      refine k_block ?_
      refine k_seq ?_
      refine k_region ?_
      refine s_run (w_none rfl) rfl (as_i rfl rfl) ?_
      refine l_nil ?_
      refine k_block ?_
      refine k_loop 47 [0, 8] (fun mm sl W => ∃ j : Nat, 12 - j = mm ∧ sl = [(8, .int .i64 (j : Int))] ∧ (j ≤ 12) ∧ St nT w W [Fact.blk g6 nsC 3]) _ _ ⟨0, rfl, rfl, Nat.zero_le _, H⟩ ⟨rfl, trivial⟩ (fun mm sl ρv W hJ => ?_)
      clear H; obtain ⟨j, rfl, rfl, hj, H⟩ := hJ
      refine k_one ?_
      refine k_seq ?_
      refine k_seq ?_
      refine k_region ?_
      refine s_run (w_none rfl) rfl (mv_i rfl rfl) ?_
      refine s_run (w_none rfl) rfl (mv_s rfl rfl) ?_
      refine s_run (w_none rfl) rfl (d_len rfl rfl tu30) ?_
      refine s_run (w_none rfl) rfl (d_lt rfl rfl rfl) ?_
      refine l_nil ?_
      refine k_cond rfl (fun hc50 => ?_) (fun hc50 => ?_)
      · have hlk : j < 12 := by simp at hc50; omega
        refine k_skip ?_
        refine k_seq ?_
        refine k_block ?_
        refine k_seq ?_
        refine k_draw [(0, true), (1, true), (2, true), (3, true), (5, true), (6, true), (7, true), (8, true), (10, true), (11, true), (12, true), (13, true), (4, false), (9, false), (14, false), (15, false), (16, false), (17, true), (18, true), (19, true), (20, true), (21, true), (22, true), (24, true), (25, true), (26, true), (27, true), (23, false), (28, false), (29, false), (30, true), (31, true)] [Fact.blk g6 nsC 3] (by kernel_rfl) (by kernel_rfl) H (.refl _) ?_
        clear H; intro W H
        refine c_run rfl (w_none rfl) rfl (fun W H => mv_s rfl rfl) ?_
        refine c_run rfl (w_none rfl) rfl (fun W H => mv_i rfl rfl) ?_
        refine c_run rfl (w_none rfl) rfl (fun W H => d_iaN (q := i) rfl rfl rfl rfl hlt tu30 ts3) ?_
        refine c_run rfl (w_none rfl) rfl (fun W H => d_ldX (g := g6) (off := 0 + i * 1) rfl H (ns_at hlt) rfl rfl ta3) ?_
        refine c_run rfl (w_none rfl) rfl (fun W H => mv_s rfl rfl) ?_
        refine c_run rfl (w_none rfl) rfl (fun W H => mv_i rfl rfl) ?_
        refine c_run rfl (w_none rfl) rfl (fun W H => d_iaN (q := j) rfl rfl rfl rfl hlk tu30 ts3) ?_
        refine c_run rfl (w_none rfl) rfl (fun W H => d_ldX (g := g6) (off := 0 + j * 1) rfl H (ns_at hlk) rfl rfl ta3) ?_
        refine c_run rfl (w_none rfl) rfl (fun W H => mv_s rfl rfl) ?_
        refine c_run rfl (w_none rfl) rfl (fun W H => mv_i rfl rfl) ?_
        refine c_run rfl (w_none rfl) rfl (fun W H => d_iaN (q := i) rfl rfl rfl rfl hlt tu30 ts3) ?_
        refine c_run rfl (w_none rfl) rfl (fun W H => d_ldX (g := g6) (off := 0 + i * 1) rfl H (ns_at hlt) rfl rfl ta3) ?_
        refine c_eff rfl (e_call (w_none rfl) rfl rfl Tryd.func11 rfl rfl rfl (row_any (nv i) _ _ rfl (by have := nv_le hlt; omega)) ?_)
        rintro _ W ⟨A1, c1, rfl, hc1, hd1, hn⟩
        replace H := H.new hn
        clear hn
        refine ⟨H.sub (by repeat (first | exact List.Sublist.refl _ | exact List.nil_sublist _ | refine List.Sublist.cons_cons _ ?_ | refine List.Sublist.cons _ ?_)), ?_⟩
        refine c_eff rfl (e_call (w_none rfl) rfl rfl Tryd.func11 rfl rfl rfl (row_any (nv j) _ _ rfl (by have := nv_le hlk; omega)) ?_)
        rintro _ W ⟨A2, c2, rfl, hc2, hd2, hn⟩
        replace H := H.new hn
        clear hn
        refine ⟨H.sub (by repeat (first | exact List.Sublist.refl _ | exact List.nil_sublist _ | refine List.Sublist.cons_cons _ ?_ | refine List.Sublist.cons _ ?_)), ?_⟩
        refine c_eff rfl (e_call (w_none rfl) rfl rfl Tryd.func11 rfl rfl rfl (row_any (nv i) _ _ rfl (by have := nv_le hlt; omega)) ?_)
        rintro _ W ⟨A3, c3, rfl, hc3, hd3, hn⟩
        replace H := H.new hn
        clear hn
        refine ⟨H.sub (by repeat (first | exact List.Sublist.refl _ | exact List.nil_sublist _ | refine List.Sublist.cons_cons _ ?_ | refine List.Sublist.cons _ ?_)), ?_⟩
        refine c_eff rfl (e_run (w_none rfl) rfl (d_b2s (l := rowL (nv i)) rfl (H.rowbs (A := A3) (l := rowL (nv i)) rfl) rfl tu22 tu5 tu9) ?_)
        refine ⟨H.sub (by repeat (first | exact List.Sublist.refl _ | exact List.nil_sublist _ | refine List.Sublist.cons_cons _ ?_ | refine List.Sublist.cons _ ?_)), ?_⟩
        refine c_eff rfl (e_call (w_none rfl) rfl rfl Tryd.func10 rfl rfl rfl (sumsB _ (gl_of H hB) (H.rowbs (A := A1) (l := rowL (nv i)) rfl) (H.rowbs (A := A2) (l := rowL (nv j)) rfl)) ?_)
        rintro _ W ⟨rfl, hb⟩
        replace H := H.below hb
        clear hb
        refine ⟨H.sub (by repeat (first | exact List.Sublist.refl _ | exact List.nil_sublist _ | refine List.Sublist.cons_cons _ ?_ | refine List.Sublist.cons _ ?_)), ?_⟩
        refine c_run rfl (w_none rfl) rfl (fun W H => d_not rfl rfl) ?_
        refine c_run rfl (w_none rfl) rfl (fun W H => mv_bx (c := false) rfl rfl (rfl)) ?_
        refine c_run rfl (w_g rfl rfl rfl rfl) rfl (fun W H => mv_s rfl rfl) ?_
        refine c_run rfl (w_g rfl rfl rfl rfl) rfl (fun W H => mv_i rfl rfl) ?_
        refine c_run rfl (w_g rfl rfl rfl rfl) rfl (fun W H => d_iaN (q := i) rfl rfl rfl rfl hlt tu30 ts3) ?_
        refine c_run rfl (w_g rfl rfl rfl rfl) rfl (fun W H => d_ldX (g := g6) (off := 0 + i * 1) rfl H (ns_at hlt) rfl rfl ta3) ?_
        refine c_run rfl (w_g rfl rfl rfl rfl) rfl (fun W H => mv_s rfl rfl) ?_
        refine c_run rfl (w_g rfl rfl rfl rfl) rfl (fun W H => mv_i rfl rfl) ?_
        refine c_run rfl (w_g rfl rfl rfl rfl) rfl (fun W H => d_iaN (q := j) rfl rfl rfl rfl hlk tu30 ts3) ?_
        refine c_run rfl (w_g rfl rfl rfl rfl) rfl (fun W H => d_ldX (g := g6) (off := 0 + j * 1) rfl H (ns_at hlk) rfl rfl ta3) ?_
        refine c_eff rfl (e_call (w_g rfl rfl rfl rfl) rfl rfl Tryd.func11 rfl rfl rfl (row_any (nv i) _ _ rfl (by have := nv_le hlt; omega)) ?_)
        rintro _ W ⟨A4, c4, rfl, hc4, hd4, hn⟩
        replace H := H.new hn
        clear hn
        refine ⟨H.sub (by repeat (first | exact List.Sublist.refl _ | exact List.nil_sublist _ | refine List.Sublist.cons_cons _ ?_ | refine List.Sublist.cons _ ?_)), ?_⟩
        refine c_eff rfl (e_call (w_g rfl rfl rfl rfl) rfl rfl Tryd.func11 rfl rfl rfl (row_any (nv j) _ _ rfl (by have := nv_le hlk; omega)) ?_)
        rintro _ W ⟨A5, c5, rfl, hc5, hd5, hn⟩
        replace H := H.new hn
        clear hn
        refine ⟨H.sub (by repeat (first | exact List.Sublist.refl _ | exact List.nil_sublist _ | refine List.Sublist.cons_cons _ ?_ | refine List.Sublist.cons _ ?_)), ?_⟩
        refine c_eff rfl (e_call (w_g rfl rfl rfl rfl) rfl rfl Tryd.func12 rfl rfl rfl (keysB _ (gl_of H hB) (H.rowbs (A := A4) (l := rowL (nv i)) rfl) (H.rowbs (A := A5) (l := rowL (nv j)) rfl)) ?_)
        rintro _ W ⟨rfl, hb⟩
        replace H := H.below hb
        clear hb
        refine ⟨H.sub (by repeat (first | exact List.Sublist.refl _ | exact List.nil_sublist _ | refine List.Sublist.cons_cons _ ?_ | refine List.Sublist.cons _ ?_)), ?_⟩
        refine c_run rfl (w_g rfl rfl rfl rfl) rfl (fun W H => d_not rfl rfl) ?_
        refine c_run rfl (w_none rfl) rfl (fun W H => d_pickF rfl rfl rfl) ?_
        refine c_nil ?_
        refine k_condF rfl rfl ?_
        refine k_skip ?_
        refine k_nil ?_
        refine b_end ?_
        refine k_region ?_
        refine s_run (w_none rfl) rfl (mv_i rfl rfl) ?_
        refine s_run (w_none rfl) rfl (d_add rfl rfl rfl (by omega)) ?_
        refine s_run (w_none rfl) rfl (as_i rfl rfl) ?_
        refine l_nil ?_
        refine k_nil ?_
        refine k_next ?_
        refine ⟨_, _, _, ?_, rfl, ?_, ?_, ⟨j + 1, rfl, rfl, by omega, H.sub (L' := [_]) (by repeat (first | exact List.Sublist.refl _ | exact List.nil_sublist _ | refine List.Sublist.cons_cons _ ?_ | refine List.Sublist.cons _ ?_))⟩⟩
        · omega
        · repeat (first | ((with_reducible refine Eqo.updl _ Eqo.ovr ?_); exact rfl) | ((with_reducible refine Eqo.updl _ (Eqo.ovr2 ?_ ?_) ?_); rotate_left; exact rfl; exact rfl) | ((with_reducible refine Eqo.upd ?_ ?_); rotate_left; exact rfl))
        · refine ⟨?_, trivial⟩
          · exact vi (by omega)
      · skip
        refine k_exit ?_
        refine x_then (x_then ?_)
        refine x_hit ?_
        refine k_nil ?_
        refine b_end ?_
        refine k_region ?_
        refine s_run (w_none rfl) rfl (mv_i rfl rfl) ?_
        refine s_run (w_none rfl) rfl (d_add rfl rfl rfl (by omega)) ?_
        refine s_run (w_none rfl) rfl (as_i rfl rfl) ?_
        refine l_nil ?_
        refine k_nil ?_
        refine k_next ?_
        refine ⟨_, _, _, ?_, rfl, ?_, ?_, ⟨i + 1, rfl, rfl, by omega, H⟩⟩
        · omega
        · repeat (first | ((with_reducible refine Eqo.updl _ Eqo.ovr ?_); exact rfl) | ((with_reducible refine Eqo.updl _ (Eqo.ovr2 ?_ ?_) ?_); rotate_left; exact rfl; exact rfl) | ((with_reducible refine Eqo.upd ?_ ?_); rotate_left; exact rfl))
        · refine ⟨?_, trivial⟩
          · exact vi (by omega)
    · skip
      refine k_exit ?_
      refine x_then (x_then ?_)
      refine x_hit ?_
      refine k_seq ?_
      refine k_region ?_
      refine s_eff (e_call (w_none rfl) rfl rfl Tryd.func13 rfl rfl rfl (tagsB (c := []) _ (gl_of H hB) (Bs.nil (S := nT))) ?_)
      rintro _ W ⟨rfl, hb⟩
      replace H := H.below hb
      clear hb
      refine s_run (w_none rfl) rfl (mv_bx (c := true) rfl rfl (rfl)) ?_
      refine s_eff (e_bsl (xs := [.const (.int .u8 1)]) (vals := [.int .u8 _]) (vs := [.int .u8 _]) (w_g rfl rfl rfl rfl) rfl rfl rfl rfl rfl rfl tu22 ts5 ty5 rfl rfl rfl H ?_)
      clear H; intro g11 W H
      refine s_eff (e_call (w_g rfl rfl rfl rfl) rfl rfl Tryd.func13 rfl rfl rfl (tagsB (c := [1]) _ (gl_of H hB) (Bs.mk (S := (· = g11)) (l := [1]) (rd_blk (H.blk (g := g11)) rfl) (by decide) (by decide))) ?_)
      rintro _ W ⟨rfl, hb⟩
      replace H := H.below hb
      clear hb
      refine s_run (w_none rfl) rfl (d_pickT rfl rfl rfl) ?_
      refine s_run (w_none rfl) rfl (mv_bx (c := true) rfl rfl (rfl)) ?_
      refine s_eff (e_call (w_g rfl rfl rfl rfl) rfl rfl Tryd.func14 rfl rfl rfl (worksB _ (gl_of H hB)) ?_)
      rintro _ W ⟨rfl, hb⟩
      replace H := H.below hb
      clear hb
      refine s_run (w_none rfl) rfl (d_pickT rfl rfl rfl) ?_
      refine s_run (w_none rfl) rfl (as_b rfl rfl) ?_
      refine l_nil ?_
      refine k_ret ?_
      repeat (first | refine r_then ?_ | refine r_blk ?_)
      exact q_ret (v := .bool _) rfl rfl ⟨_, rfl, rfl, H.under⟩
end Go.Proofs.YtdalmmkjmfpffaaDoor

namespace Go.Proofs.YtdalmmkjmfpffaaDoor
open Go Go.RowKit Go.WideShapes Go.ChangeShapes

theorem gl_two {W : World} (h : laidMet Tryd.prog [("mangrove/blake.begins", Rows.laid_mangrove_blake_begins), ("mangrove/blake.orders", Rows.laid_mangrove_blake_orders)] W) : Old.Gl W := by
  obtain ⟨h1, h2⟩ := laid_cons h
  exact gl_blake h1 h2
theorem blakeKnown_any (w : World) (hB : Old.Gl w) :
    Calls Tryd.prog 3 #[] w (fun e w' => e = .returned (.bool true) ∧ Below w.heap.size w w') :=
  Calls.mono (blakeKnown w hB) (fun e w' h => by
    obtain ⟨v, rfl, rfl, hb⟩ := h
    exact ⟨rfl, hb⟩)
end Go.Proofs.YtdalmmkjmfpffaaDoor
