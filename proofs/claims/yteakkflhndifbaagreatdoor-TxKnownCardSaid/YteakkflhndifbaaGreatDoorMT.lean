/- Texts of this claim, laid together: Ty, K1, K2. -/
import Derived.Test.YteakkflhndifbaaGreatDoorMV
import Derived.Test.YteakkflhndifbaaGreatDoorProg
import Derived.KernelRfl
set_option linter.unusedVariables false
set_option linter.unusedSimpArgs false

namespace Go.Proofs.YteakkflhndifbaaGreatDoor
open Go Go.RowKit
theorem tu3 : Tryz.prog.underlying 3 = some (.int .i64) := by kernel_rfl
theorem ts3 : (Tryz.prog.info? 3).map (·.size) = some 1 := by kernel_rfl
theorem ta3 : aggB Tryz.prog 3 = some false := by kernel_rfl
theorem tz3 : ((Tryz.prog.info? 3).bind (·.zero)).map (·.cells) = some (List.toArray [.int .i64 0]) := by kernel_rfl
theorem ty3 : ((Tryz.prog.info? 3).bind (·.zero)).isSome = true := by kernel_rfl
theorem tu5 : Tryz.prog.underlying 5 = some (.int .u8) := by kernel_rfl
theorem ts5 : (Tryz.prog.info? 5).map (·.size) = some 1 := by kernel_rfl
theorem ta5 : aggB Tryz.prog 5 = some false := by kernel_rfl
theorem tz5 : ((Tryz.prog.info? 5).bind (·.zero)).map (·.cells) = some (List.toArray [.int .u8 0]) := by kernel_rfl
theorem ty5 : ((Tryz.prog.info? 5).bind (·.zero)).isSome = true := by kernel_rfl
theorem tx5 : (Tryz.prog.info? 5).map (fun i => (i.zero.map (·.cells.size), i.size, i.bytes)) = some (some 1, 1, 1) := by kernel_rfl
theorem tu22 : Tryz.prog.underlying 22 = some (.slice 3) := by kernel_rfl
theorem tu23 : Tryz.prog.underlying 23 = some (.slice 34) := by kernel_rfl
theorem ts23 : (Tryz.prog.info? 23).map (·.size) = some 1 := by kernel_rfl
theorem ta23 : aggB Tryz.prog 23 = some false := by kernel_rfl
theorem tu24 : Tryz.prog.underlying 24 = some (.slice 37) := by kernel_rfl
theorem ts24 : (Tryz.prog.info? 24).map (·.size) = some 1 := by kernel_rfl
theorem ta24 : aggB Tryz.prog 24 = some false := by kernel_rfl
theorem ts26 : (Tryz.prog.info? 26).map (·.size) = some 3 := by kernel_rfl
theorem ta26 : aggB Tryz.prog 26 = some true := by kernel_rfl
theorem tz26 : ((Tryz.prog.info? 26).bind (·.zero)).map (·.cells) = some (List.toArray [.slice none 0 0, .slice none 0 0, .int .i64 0]) := by kernel_rfl
theorem tf26_0 : fOff Tryz.prog 26 0 = some (0, 23) := by kernel_rfl
theorem tf26_1 : fOff Tryz.prog 26 1 = some (1, 24) := by kernel_rfl
theorem tf26_2 : fOff Tryz.prog 26 2 = some (2, 3) := by kernel_rfl
theorem tu29 : Tryz.prog.underlying 29 = some (.array 32 5) := by kernel_rfl
theorem ts29 : (Tryz.prog.info? 29).map (·.size) = some 32 := by kernel_rfl
theorem ta29 : aggB Tryz.prog 29 = some true := by kernel_rfl
theorem tz29 : ((Tryz.prog.info? 29).bind (·.zero)).map (·.cells) = some (List.toArray [.int .u8 0, .int .u8 0, .int .u8 0, .int .u8 0, .int .u8 0, .int .u8 0, .int .u8 0, .int .u8 0, .int .u8 0, .int .u8 0, .int .u8 0, .int .u8 0, .int .u8 0, .int .u8 0, .int .u8 0, .int .u8 0, .int .u8 0, .int .u8 0, .int .u8 0, .int .u8 0, .int .u8 0, .int .u8 0, .int .u8 0, .int .u8 0, .int .u8 0, .int .u8 0, .int .u8 0, .int .u8 0, .int .u8 0, .int .u8 0, .int .u8 0, .int .u8 0]) := by kernel_rfl
theorem ts31 : (Tryz.prog.info? 31).map (·.size) = some 33 := by kernel_rfl
theorem ta31 : aggB Tryz.prog 31 = some true := by kernel_rfl
theorem tz31 : ((Tryz.prog.info? 31).bind (·.zero)).map (·.cells) = some (List.toArray [.int .u8 0, .int .u8 0, .int .u8 0, .int .u8 0, .int .u8 0, .int .u8 0, .int .u8 0, .int .u8 0, .int .u8 0, .int .u8 0, .int .u8 0, .int .u8 0, .int .u8 0, .int .u8 0, .int .u8 0, .int .u8 0, .int .u8 0, .int .u8 0, .int .u8 0, .int .u8 0, .int .u8 0, .int .u8 0, .int .u8 0, .int .u8 0, .int .u8 0, .int .u8 0, .int .u8 0, .int .u8 0, .int .u8 0, .int .u8 0, .int .u8 0, .int .u8 0, .int .i64 0]) := by kernel_rfl
theorem tf31_0 : fOff Tryz.prog 31 0 = some (0, 29) := by kernel_rfl
theorem tf31_1 : fOff Tryz.prog 31 1 = some (32, 3) := by kernel_rfl
theorem tu32 : Tryz.prog.underlying 32 = some (.slice 35) := by kernel_rfl
theorem ts32 : (Tryz.prog.info? 32).map (·.size) = some 1 := by kernel_rfl
theorem ta32 : aggB Tryz.prog 32 = some false := by kernel_rfl
theorem ts34 : (Tryz.prog.info? 34).map (·.size) = some 34 := by kernel_rfl
theorem ta34 : aggB Tryz.prog 34 = some true := by kernel_rfl
theorem tz34 : ((Tryz.prog.info? 34).bind (·.zero)).map (·.cells) = some (List.toArray [.int .u8 0, .int .u8 0, .int .u8 0, .int .u8 0, .int .u8 0, .int .u8 0, .int .u8 0, .int .u8 0, .int .u8 0, .int .u8 0, .int .u8 0, .int .u8 0, .int .u8 0, .int .u8 0, .int .u8 0, .int .u8 0, .int .u8 0, .int .u8 0, .int .u8 0, .int .u8 0, .int .u8 0, .int .u8 0, .int .u8 0, .int .u8 0, .int .u8 0, .int .u8 0, .int .u8 0, .int .u8 0, .int .u8 0, .int .u8 0, .int .u8 0, .int .u8 0, .int .i64 0, .slice none 0 0]) := by kernel_rfl
theorem ty34 : ((Tryz.prog.info? 34).bind (·.zero)).isSome = true := by kernel_rfl
theorem tx34 : (Tryz.prog.info? 34).map (fun i => (i.zero.map (·.cells.size), i.size, i.bytes)) = some (some 34, 34, 64) := by kernel_rfl
theorem tf34_0 : fOff Tryz.prog 34 0 = some (0, 31) := by kernel_rfl
theorem tf34_1 : fOff Tryz.prog 34 1 = some (33, 32) := by kernel_rfl
theorem tu35 : Tryz.prog.underlying 35 = some (.slice 5) := by kernel_rfl
theorem ts35 : (Tryz.prog.info? 35).map (·.size) = some 1 := by kernel_rfl
theorem ta35 : aggB Tryz.prog 35 = some false := by kernel_rfl
theorem tz35 : ((Tryz.prog.info? 35).bind (·.zero)).map (·.cells) = some (List.toArray [.slice none 0 0]) := by kernel_rfl
theorem ty35 : ((Tryz.prog.info? 35).bind (·.zero)).isSome = true := by kernel_rfl
theorem tx35 : (Tryz.prog.info? 35).map (fun i => (i.zero.map (·.cells.size), i.size, i.bytes)) = some (some 1, 1, 24) := by kernel_rfl
theorem ts37 : (Tryz.prog.info? 37).map (·.size) = some 2 := by kernel_rfl
theorem ta37 : aggB Tryz.prog 37 = some true := by kernel_rfl
theorem tz37 : ((Tryz.prog.info? 37).bind (·.zero)).map (·.cells) = some (List.toArray [.int .i64 0, .slice none 0 0]) := by kernel_rfl
theorem ty37 : ((Tryz.prog.info? 37).bind (·.zero)).isSome = true := by kernel_rfl
theorem tx37 : (Tryz.prog.info? 37).map (fun i => (i.zero.map (·.cells.size), i.size, i.bytes)) = some (some 2, 2, 32) := by kernel_rfl
theorem tf37_0 : fOff Tryz.prog 37 0 = some (0, 3) := by kernel_rfl
theorem tf37_1 : fOff Tryz.prog 37 1 = some (1, 35) := by kernel_rfl
theorem ts42 : (Tryz.prog.info? 42).map (·.size) = some 1 := by kernel_rfl
theorem ta42 : aggB Tryz.prog 42 = some false := by kernel_rfl
theorem ts46 : (Tryz.prog.info? 46).map (·.size) = some 1 := by kernel_rfl
theorem ta46 : aggB Tryz.prog 46 = some false := by kernel_rfl
theorem tz46 : ((Tryz.prog.info? 46).bind (·.zero)).map (·.cells) = some (List.toArray [.nilFunc]) := by kernel_rfl
theorem ts85 : (Tryz.prog.info? 85).map (·.size) = some 1 := by kernel_rfl
theorem ta85 : aggB Tryz.prog 85 = some false := by kernel_rfl
theorem tz85 : ((Tryz.prog.info? 85).bind (·.zero)).map (·.cells) = some (List.toArray [.pointer none]) := by kernel_rfl
theorem tu104 : Tryz.prog.underlying 104 = some (.int .u64) := by kernel_rfl
theorem ts104 : (Tryz.prog.info? 104).map (·.size) = some 1 := by kernel_rfl
theorem ta104 : aggB Tryz.prog 104 = some false := by kernel_rfl
theorem tz104 : ((Tryz.prog.info? 104).bind (·.zero)).map (·.cells) = some (List.toArray [.int .u64 0]) := by kernel_rfl
theorem ts106 : (Tryz.prog.info? 106).map (·.size) = some 3 := by kernel_rfl
theorem ta106 : aggB Tryz.prog 106 = some true := by kernel_rfl
theorem tz106 : ((Tryz.prog.info? 106).bind (·.zero)).map (·.cells) = some (List.toArray [.int .u8 0, .int .i64 0, .int .u64 0]) := by kernel_rfl
theorem tf106_0 : fOff Tryz.prog 106 0 = some (0, 5) := by kernel_rfl
theorem tf106_1 : fOff Tryz.prog 106 1 = some (1, 3) := by kernel_rfl
theorem tf106_2 : fOff Tryz.prog 106 2 = some (2, 104) := by kernel_rfl
theorem tu107 : Tryz.prog.underlying 107 = some (.array 3 106) := by kernel_rfl
theorem tu109 : Tryz.prog.underlying 109 = some (.slice 106) := by kernel_rfl
theorem tf117_0 : fOff Tryz.prog 117 0 = some (0, 35) := by kernel_rfl
theorem tf117_1 : fOff Tryz.prog 117 1 = some (1, 42) := by kernel_rfl
theorem tf124_0 : fOff Tryz.prog 124 0 = some (0, 35) := by kernel_rfl
theorem tf124_1 : fOff Tryz.prog 124 1 = some (1, 3) := by kernel_rfl
theorem tf124_2 : fOff Tryz.prog 124 2 = some (2, 42) := by kernel_rfl
theorem ts129 : (Tryz.prog.info? 129).map (·.size) = some 1 := by kernel_rfl
theorem tz129 : ((Tryz.prog.info? 129).bind (·.zero)).map (·.cells) = some (List.toArray [.int .i64 0]) := by kernel_rfl
theorem tf129_0 : fOff Tryz.prog 129 0 = some (0, 42) := by kernel_rfl
end Go.Proofs.YteakkflhndifbaaGreatDoor

namespace Go.Proofs.YteakkflhndifbaaGreatDoor
open Go Go.RowKit
attribute [local irreducible] wpList

theorem copyBytes {S : Nat → Prop} (v : Value) (l : List UInt8) (w : World) (ha : Bs w S v l) (hl : l.length ≤ 1000000000000) :
  Calls Tryz.prog 10 [v].toArray w (Ret (NewB 5 w l)) := by
 obtain ⟨A, c, rfl, hc, hc2, ha⟩ := ha.op
 refine k_enter (l := [_]) Tryz.func10 rfl rfl ?_
 have H := St.start nT w
 refine k_seq (k_region (sAs rfl rfl rfl rfl (l_nil (k_seq (k_region (sAs rfl rfl rfl rfl (l_nil ?_)))))))
 replace H := H.nilrow 5 1
 refine k_seq (k_seq (k_region (sAi rfl rfl rfl rfl (l_nil (k_block (k_loop 3 [] (fun mm sl W => ∃ k : Nat, ∃ B : Option Addr, ∃ d : Nat, l.length - k = mm ∧ sl = [(4, .int .i64 (k : Int)), (3, .slice B k d)] ∧ (k ≤ l.length) ∧ (k ≤ d ∧ d ≤ 9223372036854775807) ∧ St nT w W [Fact.row 5 1 (.slice B k d) k ((l.take k).map u8v)]) _ _ ⟨0, none, 0, rfl, rfl, Nat.zero_le _, ⟨Nat.le_refl _, by omega⟩, H⟩ ⟨rfl, rfl, trivial⟩ (fun mm sl ρv W hJ => ?_)))))))
 clear H; obtain ⟨k, B, d, rfl, rfl, hk, hd, H⟩ := hJ
 refine k_one (k_seq (k_seq (k_region (sMi rfl rfl rfl rfl (sMs rfl rfl rfl rfl (sR rfl rfl (d_len rfl rfl tu35) (sR rfl rfl (d_lt rfl rfl rfl) (l_nil (k_cond rfl (fun hc8 => ?_) (fun hc8 => ?_))))))))))
 ·first | (replace hc8 := of_decide_eq_true hc8) | simp at hc8
  refine k_skip (k_seq (k_block ?_))
  have hlt : k + 1 ≤ l.length := by omega
  refine k_region (sMs rfl rfl rfl rfl (sMs rfl rfl rfl rfl (sMi rfl rfl rfl rfl (sR rfl rfl (d_iaB rfl (H.rd ha) rfl rfl rfl (by omega) tu35 ts5) (sR rfl rfl (d_ldB rfl (H.rd ha) (l_get (by omega)) rfl ta5) (s_eff (e_bsl (xs := [.tmp 15]) (vals := [.int .u8 _]) (vs := [.int .u8 _]) (w_none rfl) rfl rfl rfl rfl rfl rfl tu35 ts5 ty5 rfl rfl rfl H ?_)))))))
  clear H; intro g5_5 W H
  refine s_eff (e_app (w_none rfl) rfl rfl tu35 tx5 rfl rfl rfl H (rd_blk H.blk rfl) (rfl) (by omega) rfl ?_)
  clear H; intro A1 c1 W hc1 hd1 H
  replace H := H.drop
  refine sAs rfl rfl rfl rfl (l_nil (k_nil (b_end (k_region (sMi rfl rfl rfl rfl (sR rfl rfl (d_add rfl rfl rfl (by omega)) (sAi rfl rfl rfl rfl (l_nil (k_nil (k_next ?_))))))))))
  refine ⟨_, _, _, ?_, rfl, ?_, ?_, ⟨k + 1, A1, c1, rfl, rfl, hlt, ⟨hc1, hd1⟩, by rw [take_u8 hlt]; exact H⟩⟩
  ·omega
  ·repeat (first | (with_reducible refine .updl _ .ovr ?_); exact rfl | (with_reducible refine .updl _ (.ovr2 ?_ ?_) ?_); rotate_left; exact rfl; exact rfl | (with_reducible refine .upd ?_ ?_); rotate_left; exact rfl)
  ·refine ⟨?_, ?_, trivial⟩
   ·exact vi (by omega)
   ·exact rfl
 ·first | (replace hc8 := of_decide_eq_false hc8) | simp at hc8
  refine k_exit (x_then (x_then ?_))
  refine x_hit (k_seq ?_)
  obtain rfl : k = l.length := by omega
  rw [List.take_length] at H
  refine k_region (sMs rfl rfl rfl rfl (sAs rfl rfl rfl rfl (l_nil (k_ret ?_))))
  repeat (first | refine r_then ?_ | refine r_blk ?_)
  refine q_ret (v := .slice _ _ _) rfl rfl ⟨_, rfl, B, d, rfl, hd.1, hd.2, ?_⟩
  exact H.give

theorem u8_eq {z : Int} {n : Nat} (h : z = n) : IntKind.u8.wrap z = ((UInt8.ofNat n).toNat : Int) := by subst h; rw [IntKind.wrap_u8]; simp
theorem eqb {a b : UInt8} : ((a.toNat : Int) == (b.toNat : Int)) = (a == b) := by
 rw [Bool.eq_iff_iff, beq_iff_eq, beq_iff_eq, Int.ofNat_inj, UInt8.toNat_inj]

theorem markBytes (i : Nat) (z : Int) (w : World) (hz : z = (i : Int)) (h1 : i ≤ 1000000000000000) :
  Calls Tryz.prog 61 [.int .i64 z].toArray w (Ret (Is w (u8v (UInt8.ofNat (201 + 7 * i))))) := by
 subst hz
 refine k_enter (l := [_]) Tryz.func61 rfl rfl ?_
 have H := St.start nT w
 refine k_seq (k_region (sAi rfl rfl rfl rfl (l_nil (k_seq (k_region (sMi rfl rfl rfl rfl (sR rfl rfl (d_mul rfl rfl rfl (by omega)) (sR rfl rfl (d_add rfl rfl rfl (by omega)) (sR rfl rfl (d_conv rfl rfl (by rw [tu3]; rfl) tu5 (u8_eq (n := 201 + 7 * i) (by omega))) ?_)))))))))
 refine sAi rfl rfl rfl rfl (l_nil (k_ret ?_))
 repeat (first | refine r_then ?_ | refine r_blk ?_)
 exact q_ret (v := .int _ _) rfl rfl ⟨_, rfl, rfl, Below.refl _ _⟩

/-- The first k marks. -/
def marks (k : Nat) : List UInt8 := (List.range k).map fun i => UInt8.ofNat (201 + 7 * i)
theorem marks_succ (k : Nat) : marks (k + 1) = marks k ++ [UInt8.ofNat (201 + 7 * k)] := by simp [marks, List.range_succ]
theorem marks_len (k : Nat) : (marks k).length = k := by simp [marks]
theorem map_snoc (a b : List UInt8) (x : UInt8) : (a ++ (b ++ [x])).map u8v = (a ++ b).map u8v ++ [u8v x] := by simp

theorem lentBytes {S : Nat → Prop} (v : Value) (l : List UInt8) (w : World) (ha : Bs w S v l) (hl : l.length ≤ 1000000000000) :
  Calls Tryz.prog 34 [v].toArray w (Ret (NewB 5 w (l ++ marks 5))) := by
 have ha0 := ha
 obtain ⟨A, c, rfl, _, _, _⟩ := ha.op
 refine k_enter (l := [_]) Tryz.func34 rfl rfl ?_
 have H := St.start nT w
 refine k_seq (k_region (sAs rfl rfl rfl rfl (l_nil (k_seq (k_region (sMs rfl rfl rfl rfl (sC rfl rfl rfl Tryz.func10 rfl rfl rfl (copyBytes _ l _ (H.bs ha0) hl) ?_)))))))
 rintro _ W ⟨A1, c1, rfl, hc1, hd1, hn⟩
 replace H := H.new hn
 clear hn
 refine sAs rfl rfl rfl rfl (l_nil (k_seq (k_seq (k_region (sAi rfl rfl rfl rfl (l_nil (k_block (k_loop 7 [3, 4] (fun mm sl W => ∃ k : Nat, ∃ B : Option Addr, ∃ d : Nat, 5 - k = mm ∧ sl = [(4, .int .i64 (k : Int)), (3, .slice B (l.length + k) d)] ∧ (k ≤ 5) ∧ (l.length + k ≤ d ∧ d ≤ 9223372036854775807) ∧ St nT w W [Fact.row 5 1 (.slice B (l.length + k) d) (l.length + k) ((l ++ marks k).map u8v)]) _ _ ⟨0, A1, c1, rfl, rfl, by omega, ⟨hc1, hd1⟩, by rw [show marks 0 = [] from rfl, List.append_nil]; exact H⟩ ⟨rfl, rfl, trivial⟩ (fun mm sl ρv W hJ => ?_)))))))))
 clear H; obtain ⟨k, B, d, rfl, rfl, hk, hd, H⟩ := hJ
 refine k_one (k_seq (k_seq (k_region (sMi rfl rfl rfl rfl (sR rfl rfl (d_lt rfl rfl rfl) (l_nil (k_cond rfl (fun hc8 => ?_) (fun hc8 => ?_))))))))
 ·first | (replace hc8 := of_decide_eq_true hc8) | simp at hc8
  refine k_skip (k_seq (k_block (k_region (sMs rfl rfl rfl rfl (sMi rfl rfl rfl rfl (sC rfl rfl rfl Tryz.func61 rfl rfl rfl (markBytes k _ _ rfl (by omega)) ?_))))))
  rintro _ W ⟨rfl, hb⟩
  replace H := H.below hb
  clear hb
  refine s_eff (e_bsl (xs := [.tmp 13]) (vals := [.int .u8 _]) (vs := [.int .u8 _]) (w_none rfl) rfl rfl rfl rfl rfl rfl tu35 ts5 ty5 rfl rfl rfl H ?_)
  clear H; intro g5_3 W H
  refine s_eff (e_app (w_none rfl) rfl rfl tu35 tx5 rfl rfl rfl H (rd_blk H.blk rfl) (rfl) (by omega) rfl ?_)
  clear H; intro A2 c2 W hc2 hd2 H
  replace H := H.drop
  refine sAs rfl rfl rfl rfl (l_nil (k_nil (b_end (k_region (sMi rfl rfl rfl rfl (sR rfl rfl (d_add rfl rfl rfl (by omega)) (sAi rfl rfl rfl rfl (l_nil (k_nil (k_next ?_))))))))))
  refine ⟨_, _, _, ?_, rfl, ?_, ?_, ⟨k + 1, A2, c2, rfl, rfl, by omega, ⟨hc2, hd2⟩, by rw [marks_succ, map_snoc]; exact H⟩⟩
  ·omega
  ·repeat (first | (with_reducible refine .updl _ .ovr ?_); exact rfl | (with_reducible refine .updl _ (.ovr2 ?_ ?_) ?_); rotate_left; exact rfl; exact rfl | (with_reducible refine .upd ?_ ?_); rotate_left; exact rfl)
  ·refine ⟨?_, ?_, trivial⟩
   ·exact vi (by omega)
   ·exact rfl
 ·first | (replace hc8 := of_decide_eq_false hc8) | simp at hc8
  refine k_exit (x_then (x_then ?_))
  refine x_hit (k_seq ?_)
  obtain rfl : k = 5 := by omega
  refine k_region (sMs rfl rfl rfl rfl (sAs rfl rfl rfl rfl (l_nil (k_ret ?_))))
  repeat (first | refine r_then ?_ | refine r_blk ?_)
  refine q_ret (v := .slice _ _ _) rfl rfl ⟨_, rfl, B, d, ?_⟩
  have e : (l ++ marks 5).length = l.length + 5 := by rw [List.length_append, marks_len]
  rw [e]
  exact ⟨rfl, hd.1, hd.2, H.give⟩

theorem sameBytes {S S' : Nat → Prop} (v u : Value) (l r : List UInt8) (w : World) (ha : Bs w S v l) (hb : Bs w S' u r) :
  Calls Tryz.prog 20 [v, u].toArray w (Ret (Is w (.bool (decide (l = r))))) := by
 have hn := ha.len
 have hm := hb.len
 obtain ⟨A, c, rfl, _, _, ha⟩ := ha.op
 obtain ⟨B, d, rfl, _, _, hb⟩ := hb.op
 refine k_enter (l := [_, _]) Tryz.func20 rfl rfl ?_
 have H := St.start nT w
 refine k_seq (k_region (sAb rfl rfl rfl rfl (l_nil (k_seq (k_seq (k_region (sMs rfl rfl rfl rfl (sR rfl rfl (d_len rfl rfl tu35) (sMs rfl rfl rfl rfl (sR rfl rfl (d_len rfl rfl tu35) ?_))))))))))
 refine sR rfl rfl (d_ne rfl rfl rfl) (l_nil (k_cond rfl (fun hc10 => ?_) (fun hc10 => ?_)))
 ·simp at hc10
  refine k_seq (k_region (sAb rfl rfl rfl rfl (l_nil (k_ret ?_))))
  repeat (first | refine r_then ?_ | refine r_blk ?_)
  refine q_ret (v := .bool _) rfl rfl ⟨_, rfl, vb ?_, H.under⟩
  exact (decide_eq_false fun h => hc10 (by rw [h])).symm
 ·simp at hc10
  refine k_skip (k_seq (k_seq (k_region (sAi rfl rfl rfl rfl (l_nil (k_block (k_loop 11 [4, 5] (fun mm sl W => ∃ k : Nat, l.length - k = mm ∧ sl = [(5, .int .i64 (k : Int))] ∧ (k ≤ l.length) ∧ (l.take k = r.take k) ∧ St nT w W []) _ _ ⟨0, rfl, rfl, Nat.zero_le _, rfl, H⟩ ⟨rfl, trivial⟩ (fun mm sl ρv W hJ => ?_))))))))
  clear H; obtain ⟨k, rfl, rfl, hk, ht, H⟩ := hJ
  refine k_one (k_seq (k_seq (k_region (sMi rfl rfl rfl rfl (sMs rfl rfl rfl rfl (sR rfl rfl (d_len rfl rfl tu35) (sR rfl rfl (d_lt rfl rfl rfl) (l_nil (k_cond rfl (fun hc14 => ?_) (fun hc14 => ?_))))))))))
  ·first | (replace hc14 := of_decide_eq_true hc14) | simp at hc14
   refine k_skip (k_seq (k_block (k_seq (k_draw [(0, true), (1, true), (2, true), (3, true), (4, true), (5, true), (6, true), (7, true), (8, true), (9, true)] _ (by kernel_rfl) (by kernel_rfl) H (.refl _) ?_))))
   clear H; intro W H
   refine cR rfl rfl rfl (fun W H => mv_s rfl rfl) (cR rfl rfl rfl (fun W H => mv_i rfl rfl) (cR rfl rfl rfl (fun W H => d_iaB rfl (H.rd ha) rfl rfl rfl (by omega) tu35 ts5) (cR rfl rfl rfl (fun W H => d_ldB rfl (H.rd ha) (l_get (by omega)) rfl ta5) (cR rfl rfl rfl (fun W H => mv_s rfl rfl) (cR rfl rfl rfl (fun W H => mv_i rfl rfl) (cR rfl rfl rfl (fun W H => d_iaB rfl (H.rd hb) rfl rfl rfl (by omega) tu35 ts5) (cR rfl rfl rfl (fun W H => d_ldB rfl (H.rd hb) (l_get (by omega)) rfl ta5) (cR rfl rfl rfl (fun W H => d_eq rfl rfl rfl) (cR rfl rfl rfl (fun W H => d_not rfl rfl) (c_nil ?_))))))))))
   refine k_cond rfl (fun hc26 => ?_) (fun hc26 => ?_)
   ·rw [eqb, Bool.not_eq_true', beq_eq_false_iff_ne] at hc26
    refine k_seq (k_region (sAb rfl rfl rfl rfl (l_nil (k_ret ?_))))
    repeat (first | refine r_then ?_ | refine r_blk ?_)
    refine q_ret (v := .bool _) rfl rfl ⟨_, rfl, vb ?_, H.under⟩
    exact (decide_eq_false fun h => hc26 (by rw [h])).symm
   ·rw [eqb, Bool.not_eq_false', beq_iff_eq] at hc26
    refine k_skip (k_nil (b_end (k_region (sMi rfl rfl rfl rfl (sR rfl rfl (d_add rfl rfl rfl (by omega)) (sAi rfl rfl rfl rfl (l_nil (k_nil (k_next ?_)))))))))
    refine ⟨_, _, _, ?_, rfl, ?_, ?_, ⟨k + 1, rfl, rfl, by omega, by rw [List.take_add_one, List.take_add_one, ht, l_get (by omega), l_get (by omega), hc26], H⟩⟩
    ·omega
    ·repeat (first | (with_reducible refine .updl _ .ovr ?_); exact rfl | (with_reducible refine .updl _ (.ovr2 ?_ ?_) ?_); rotate_left; exact rfl; exact rfl | (with_reducible refine .upd ?_ ?_); rotate_left; exact rfl)
    ·refine ⟨?_, trivial⟩
     ·exact vi (by omega)
  ·first | (replace hc14 := of_decide_eq_false hc14) | simp at hc14
   refine k_exit (x_then (x_then ?_))
   refine x_hit (k_seq (k_region (sAb rfl rfl rfl rfl (l_nil (k_ret ?_)))))
   repeat (first | refine r_then ?_ | refine r_blk ?_)
   refine q_ret (v := .bool _) rfl rfl ⟨_, rfl, vb ?_, H.under⟩
   rw [List.take_of_length_le (by omega), List.take_of_length_le (by omega)] at ht
   simp [ht]

def rowL (k : Nat) : List UInt8 := (List.range k).map fun i => UInt8.ofNat ((7 + i) % 251)
theorem rowL_succ (k : Nat) : rowL (k + 1) = rowL k ++ [UInt8.ofNat ((7 + k) % 251)] := by simp [rowL, List.range_succ]
theorem rowL_len (k : Nat) : (rowL k).length = k := by simp [rowL]
theorem row_any (n : Nat) (z : Int) (w : World) (hz : z = (n : Int)) (hn : n ≤ 1000000000) : Calls Tryz.prog 8 [.int .i64 z].toArray w (Ret (NewB 5 w (rowL n))) := by
 subst hz
 refine k_enter (l := [_]) Tryz.func8 rfl rfl ?_
 have H := St.start nT w
 refine k_seq (k_region (sAs rfl rfl rfl rfl (l_nil (k_seq (k_region (sAs rfl rfl rfl rfl (l_nil ?_)))))))
 replace H := H.nilrow 5 1
 refine k_seq (k_seq (k_region (sAi rfl rfl rfl rfl (l_nil (k_block (k_loop 3 [] (fun mm sl W => ∃ k : Nat, ∃ B : Option Addr, ∃ d : Nat, n - k = mm ∧ sl = [(4, .int .i64 (k : Int)), (3, .slice B k d)] ∧ (k ≤ n) ∧ (k ≤ d ∧ d ≤ 9223372036854775807) ∧ St nT w W [Fact.row 5 1 (.slice B k d) k ((rowL k).map u8v)]) _ _ ⟨0, none, 0, rfl, rfl, Nat.zero_le _, ⟨Nat.le_refl _, by omega⟩, H⟩ ⟨rfl, rfl, trivial⟩ (fun mm sl ρv W hJ => ?_)))))))
 clear H; obtain ⟨k, B, d, rfl, rfl, hk, hd, H⟩ := hJ
 refine k_one (k_seq (k_seq (k_region (sMi rfl rfl rfl rfl (sMi rfl rfl rfl rfl (sR rfl rfl (d_lt rfl rfl rfl) (l_nil (k_cond rfl (fun hc7 => ?_) (fun hc7 => ?_)))))))))
 ·first | (replace hc7 := of_decide_eq_true hc7) | simp at hc7
  refine k_skip (k_seq (k_block (k_region (sMs rfl rfl rfl rfl (sMi rfl rfl rfl rfl (sR rfl rfl (d_add rfl rfl rfl (by omega)) (sR rfl rfl (d_rem rfl rfl rfl (by omega)) (sR rfl rfl (d_conv rfl rfl (by rw [tu3]; rfl) tu5 (u8_eq (n := (7 + k) % 251) (by omega))) ?_))))))))
  refine s_eff (e_bsl (xs := [.tmp 14]) (vals := [.int .u8 _]) (vs := [.int .u8 _]) (w_none rfl) rfl rfl rfl rfl rfl rfl tu35 ts5 ty5 rfl rfl rfl H ?_)
  clear H; intro g5_5 W H
  refine s_eff (e_app (w_none rfl) rfl rfl tu35 tx5 rfl rfl rfl H (rd_blk H.blk rfl) (rfl) (by omega) rfl ?_)
  clear H; intro A1 c1 W hc1 hd1 H
  replace H := H.drop
  refine sAs rfl rfl rfl rfl (l_nil (k_nil (b_end (k_region (sMi rfl rfl rfl rfl (sR rfl rfl (d_add rfl rfl rfl (by omega)) (sAi rfl rfl rfl rfl (l_nil (k_nil (k_next ?_))))))))))
  refine ⟨_, _, _, ?_, rfl, ?_, ?_, ⟨k + 1, A1, c1, rfl, rfl, by omega, ⟨hc1, hd1⟩, by rw [rowL_succ, List.map_append]; exact H⟩⟩
  ·omega
  ·repeat (first | (with_reducible refine .updl _ .ovr ?_); exact rfl | (with_reducible refine .updl _ (.ovr2 ?_ ?_) ?_); rotate_left; exact rfl; exact rfl | (with_reducible refine .upd ?_ ?_); rotate_left; exact rfl)
  ·refine ⟨?_, ?_, trivial⟩
   ·exact vi (by omega)
   ·exact rfl
 ·first | (replace hc7 := of_decide_eq_false hc7) | simp at hc7
  refine k_exit (x_then (x_then ?_))
  refine x_hit (k_seq ?_)
  obtain rfl : k = n := by omega
  refine k_region (sMs rfl rfl rfl rfl (sAs rfl rfl rfl rfl (l_nil (k_ret ?_))))
  repeat (first | refine r_then ?_ | refine r_blk ?_)
  refine q_ret (v := .slice _ _ _) rfl rfl ⟨_, rfl, B, d, ?_⟩
  rw [rowL_len]
  exact ⟨rfl, hd.1, hd.2, H.give⟩

def pick (v n : Int) : Int := if n < 1 then 0 else v % n
theorem tmod_bd (v n : Int) (hn : 1 ≤ n) : -n < v.tmod n ∧ v.tmod n < n ∧ (v.tmod n < 0 → v.tmod n + n = v % n) ∧ (0 ≤ v.tmod n → v.tmod n = v % n) := by
 have h1 := Int.mul_tdiv_add_tmod v n
 have h2 : v.tmod n < n := Int.tmod_lt_of_pos v (by omega)
 have h3 : -n < v.tmod n := by
  have := Int.tmod_lt_of_pos (-v) (show (0 : Int) < n by omega)
  rw [Int.neg_tmod] at this; omega
 have h4 : v % n = (v.tmod n) % n := by
  conv => lhs; rw [← h1]
  rw [Int.add_comm, Int.add_mul_emod_self_left]
 refine ⟨h3, h2, fun h => ?_, fun h => ?_⟩
 ·rw [h4, ← Int.add_emod_right, Int.emod_eq_of_lt (by omega) (by omega)]
 ·rw [h4, Int.emod_eq_of_lt h h2]
theorem pick_any (v n : Int) (w : World) (hn : -9223372036854775808 ≤ n ∧ n ≤ 9223372036854775807) : Calls Tryz.prog 30 [.int .i64 v, .int .i64 n].toArray w (Ret (Is w (.int .i64 (pick v n)))) := by
 refine k_enter (l := [_, _]) Tryz.func30 rfl rfl ?_
 have H := St.start nT w
 refine k_seq (k_region (sAi rfl rfl rfl rfl (l_nil (k_seq (k_seq (k_region (sMi rfl rfl rfl rfl (sR rfl rfl (d_lt rfl rfl rfl) (l_nil (k_cond rfl (fun hc6 => ?_) (fun hc6 => ?_)))))))))))
 ·replace hc6 := of_decide_eq_true hc6
  refine k_seq (k_region (sAi rfl rfl rfl rfl (l_nil (k_ret ?_))))
  repeat (first | refine r_then ?_ | refine r_blk ?_)
  refine q_ret (v := .int _ _) rfl rfl ⟨_, rfl, vi ?_, H.under⟩
  rw [pick, if_pos hc6]
 ·replace hc6 := of_decide_eq_false hc6
  refine k_skip (k_seq (k_region (sMi rfl rfl rfl rfl (sMi rfl rfl rfl rfl (sR rfl rfl (d_remT rfl rfl rfl (by omega)) (sAi rfl rfl rfl rfl (l_nil ?_)))))))
  have htm := tmod_bd v n (by omega)
  refine k_seq (k_seq (k_region (sMi rfl rfl rfl rfl (sR rfl rfl (d_lt rfl rfl rfl) (l_nil (k_cond rfl (fun hc11 => ?_) (fun hc11 => ?_)))))))
  ·replace hc11 := of_decide_eq_true hc11
   refine k_region (sMi rfl rfl rfl rfl (sMi rfl rfl rfl rfl (sR rfl rfl (d_add rfl rfl rfl (by omega)) (sAi rfl rfl rfl rfl (l_nil (k_seq (k_region (sMi rfl rfl rfl rfl (sAi rfl rfl rfl rfl (l_nil ?_))))))))))
   refine k_ret ?_
   repeat (first | refine r_then ?_ | refine r_blk ?_)
   refine q_ret (v := .int _ _) rfl rfl ⟨_, rfl, vi ?_, H.under⟩
   rw [pick, if_neg hc6]
   exact htm.2.2.1 hc11
  ·replace hc11 := of_decide_eq_false hc11
   refine k_skip (k_seq (k_region (sMi rfl rfl rfl rfl (sAi rfl rfl rfl rfl (l_nil (k_ret ?_))))))
   repeat (first | refine r_then ?_ | refine r_blk ?_)
   refine q_ret (v := .int _ _) rfl rfl ⟨_, rfl, vi ?_, H.under⟩
   rw [pick, if_neg hc6]
   exact htm.2.2.2 (by omega)
end Go.Proofs.YteakkflhndifbaaGreatDoor

namespace Go.Proofs.YteakkflhndifbaaGreatDoor
open Go Go.RowKit
attribute [local irreducible] wpList

theorem sl_eq {A : Option Addr} {m n c : Nat} (h : m = n) : Value.slice A m c = .slice A n c := by rw [h]
/-- pack's forms, as they lie. -/
def formsC : List Value := [.int .u8 253, .int .i64 2, .int .u64 253, .int .u8 254, .int .i64 4, .int .u64 65536, .int .u8 255, .int .i64 8, .int .u64 4294967296]

theorem grow_nil (q : Nat) (z : Int) (w : World) (hz : z = (q : Int)) (hq : q ≤ 1099511627776) :
  Calls Tryz.prog 126 [.slice none 0 0, .int .i64 z].toArray w (Ret fun v w' => ∃ A c, v = .slice A 0 c ∧ c ≤ 9223372036854775807 ∧ New w w' (Fact.row 5 1 (.slice A 0 c) 0 [])) := by
 subst hz
 refine k_enter (l := [_, _]) Tryz.func126 rfl rfl ?_
 have H := St.start nT w
 refine k_seq (k_region (sAs rfl rfl rfl rfl (l_nil (k_seq (k_seq (k_region (sMi rfl rfl rfl rfl (sR rfl rfl (d_lt rfl rfl rfl) (l_nil (k_condF rfl (by first | (simp; done) | (simp; omega)) ?_))))))))))
 refine k_skip (k_seq (k_seq (k_region (sMi rfl rfl rfl rfl (sMs rfl rfl rfl rfl (sR rfl rfl (d_cap rfl rfl tu35) (sMs rfl rfl rfl rfl (sR rfl rfl (d_len rfl rfl tu35) (sR rfl rfl (d_sub rfl rfl rfl (by omega)) (sR rfl rfl (d_sub rfl rfl rfl (by omega)) ?_))))))))))
 refine sAi rfl rfl rfl rfl (l_nil (k_seq (k_region (sMi rfl rfl rfl rfl (sR rfl rfl (d_gt rfl rfl rfl) (l_nil (k_cond rfl (fun hc16 => ?_) (fun hc16 => ?_))))))))
 ·first | (replace hc16 := of_decide_eq_true hc16) | simp at hc16
  refine k_region (sMs rfl rfl rfl rfl (sMs rfl rfl rfl rfl (sR rfl rfl (d_cap rfl rfl tu35) (sR rfl rfl (d_cutP rfl rfl (h := 0) rfl (by omega) rfl tu35 ts5) (sMi rfl rfl rfl rfl (s_eff (e_appz (w_none rfl) rfl rfl tu35 tu3 (by kernel_rfl) rfl rfl (q := q) (by omega) (by omega) (by omega) H ?_)))))))
  clear H; intro A1 c1 W hc1 hd1 H
  refine sMs rfl rfl rfl rfl (sR rfl rfl (d_len rfl rfl tu35) ?_)
  have hs : A1.isSome = true := row_some (H.rowrd (A := A1)) (by omega)
  replace H := H.rowcut (q := 0) (Nat.zero_le _) hs
  rw [Nat.zero_mul, List.take_zero] at H
  refine sR rfl rfl (d_cutP rfl rfl (h := 0) rfl (by omega) rfl tu35 ts5) (sAs rfl rfl rfl rfl (l_nil (k_seq (k_region (sMs rfl rfl rfl rfl (sAs rfl rfl rfl rfl (l_nil (k_ret ?_))))))))
  repeat (first | refine r_then ?_ | refine r_blk ?_)
  exact q_ret (v := .slice _ _ _) rfl rfl ⟨_, rfl, _, _, rfl, hd1, H.give⟩
 ·first | (replace hc16 := of_decide_eq_false hc16) | simp at hc16
  refine k_skip (k_seq (k_region (sMs rfl rfl rfl rfl (sAs rfl rfl rfl rfl (l_nil (k_ret ?_))))))
  repeat (first | refine r_then ?_ | refine r_blk ?_)
  replace H := H.nilrow 5 1
  exact q_ret (v := .slice _ _ _) rfl rfl ⟨_, rfl, _, _, rfl, by omega, H.give⟩

theorem concat2 {S S1 S2 : Nat → Prop} {A B C : Option Addr} {n m c d e : Nat} {l r : List UInt8} (w : World) (hs : Rd w S 1 C 2 [.slice A n c, .slice B m d]) (ha : Rd w S1 1 A n (l.map u8v)) (hb : Rd w S2 1 B m (r.map u8v)) (hl : n + m ≤ 1000000000000) :
  Calls Tryz.prog 114 [.slice C 2 e].toArray w (Ret (NewB 5 w (l ++ r))) := by
 have hn : l.length = n := by simpa using ha.1
 have hm : r.length = m := by simpa using hb.1
 refine k_enter (l := [_]) Tryz.func114 rfl rfl ?_
 have H := St.start nT w
 refine k_seq (k_region (sAs rfl rfl rfl rfl (l_nil (k_seq (k_region (sAi rfl rfl rfl rfl (l_nil (k_seq (k_seq (k_region ?_))))))))))
 refine sMs rfl rfl rfl rfl (sR rfl rfl (d_len rfl rfl tu32) (sMi rfl rfl rfl rfl (l_nil (k_block (k_unr (k_one ?_))))))
 refine k_seq (k_region (sR rfl rfl (d_lt rfl rfl rfl) (l_nil (k_seq (k_condT rfl (by first | (simp; done) | (simp; omega)) ?_)))))
 refine k_skip (k_seq (k_block (k_seq (k_region (sR rfl rfl (d_iaS rfl (H.rd hs) rfl rfl (q := 0) rfl (by omega) tu32 ts35) (sR rfl rfl (d_ldR0 rfl (H.rd hs) rfl ta35 rfl) (sAs rfl rfl rfl rfl (l_nil (k_seq (k_region ?_))))))))))
 refine sMi rfl rfl rfl rfl (sMs rfl rfl rfl rfl (sR rfl rfl (d_len rfl rfl tu35) (sR rfl rfl (d_add rfl rfl rfl (by omega)) (sAi rfl rfl rfl rfl (l_nil (k_seq (k_region (sMi rfl rfl rfl rfl (sR rfl rfl (d_lt rfl rfl rfl) (l_nil ?_))))))))))
 refine k_condF rfl (by first | (simp; done) | (simp; omega)) ?_
 refine k_skip (k_nil (b_end (k_region (sR rfl rfl (d_add rfl rfl rfl (by omega)) (sMi rfl rfl rfl rfl (l_nil (k_nil (k_next (hd_of (k_one ?_))))))))))
 refine k_seq (k_region (sR rfl rfl (d_lt rfl rfl rfl) (l_nil (k_seq (k_condT rfl (by first | (simp; done) | (simp; omega)) ?_)))))
 refine k_skip (k_seq (k_block (k_seq (k_region (sR rfl rfl (d_iaS rfl (H.rd hs) rfl rfl (q := 1) rfl (by omega) tu32 ts35) (sR rfl rfl (d_ldR0 rfl (H.rd hs) rfl ta35 rfl) (sAs rfl rfl rfl rfl (l_nil (k_seq (k_region ?_))))))))))
 refine sMi rfl rfl rfl rfl (sMs rfl rfl rfl rfl (sR rfl rfl (d_len rfl rfl tu35) (sR rfl rfl (d_add rfl rfl rfl (by omega)) (sAi rfl rfl rfl rfl (l_nil (k_seq (k_region (sMi rfl rfl rfl rfl (sR rfl rfl (d_lt rfl rfl rfl) (l_nil ?_))))))))))
 refine k_condF rfl (by first | (simp; done) | (simp; omega)) ?_
 refine k_skip (k_nil (b_end (k_region (sR rfl rfl (d_add rfl rfl rfl (by omega)) (sMi rfl rfl rfl rfl (l_nil (k_nil (k_next (hd_of (k_one ?_))))))))))
 refine k_seq (k_region (sR rfl rfl (d_lt rfl rfl rfl) (l_nil (k_seq (k_condF rfl (by first | (simp; done) | (simp; omega)) ?_)))))
 refine k_exit (x_then (x_then ?_))
 refine x_hit (k_seq (k_region (sMi rfl rfl rfl rfl (sC rfl rfl rfl Tryz.func126 rfl rfl rfl (grow_nil (n + m) _ _ (by omega) (by omega)) ?_))))
 rintro _ W ⟨A1, c1, rfl, hd1, hn1⟩
 replace H := H.new hn1
 clear hn1
 refine sAs rfl rfl rfl rfl (l_nil (k_seq (k_seq (k_region (sMs rfl rfl rfl rfl (sR rfl rfl (d_len rfl rfl tu32) (sMi rfl rfl rfl rfl (l_nil (k_block (k_unr (k_one ?_)))))))))))
 refine k_seq (k_region (sR rfl rfl (d_lt rfl rfl rfl) (l_nil (k_seq (k_condT rfl (by first | (simp; done) | (simp; omega)) ?_)))))
 refine k_skip (k_seq (k_block (k_seq (k_region (sR rfl rfl (d_iaS rfl (H.rd hs) rfl rfl (q := 0) rfl (by omega) tu32 ts35) (sR rfl rfl (d_ldR0 rfl (H.rd hs) rfl ta35 rfl) (sAs rfl rfl rfl rfl (l_nil (k_region (sMs rfl rfl rfl rfl ?_))))))))))
 refine sMs rfl rfl rfl rfl (s_eff (e_app (w_none rfl) rfl rfl tu35 tx5 rfl rfl rfl H (H.rd ha) (all_u8L _) (by omega) rfl ?_))
 clear H; intro A2 c2 W hc2 hd2 H
 refine sAs rfl rfl rfl rfl (l_nil (k_nil (b_end (k_region (sR rfl rfl (d_add rfl rfl rfl (by omega)) (sMi rfl rfl rfl rfl (l_nil (k_nil (k_next (hd_of (k_one ?_)))))))))))
 refine k_seq (k_region (sR rfl rfl (d_lt rfl rfl rfl) (l_nil (k_seq (k_condT rfl (by first | (simp; done) | (simp; omega)) ?_)))))
 refine k_skip (k_seq (k_block (k_seq (k_region (sR rfl rfl (d_iaS rfl (H.rd hs) rfl rfl (q := 1) rfl (by omega) tu32 ts35) (sR rfl rfl (d_ldR0 rfl (H.rd hs) rfl ta35 rfl) (sAs rfl rfl rfl rfl (l_nil (k_region (sMs rfl rfl rfl rfl ?_))))))))))
 refine sMs rfl rfl rfl rfl (s_eff (e_app (w_none rfl) rfl rfl tu35 tx5 rfl rfl rfl H (H.rd hb) (all_u8L _) (by omega) rfl ?_))
 clear H; intro A3 c3 W hc3 hd3 H
 refine sAs rfl rfl rfl rfl (l_nil (k_nil (b_end (k_region (sR rfl rfl (d_add rfl rfl rfl (by omega)) (sMi rfl rfl rfl rfl (l_nil (k_nil (k_next (hd_of (k_one ?_)))))))))))
 refine k_seq (k_region (sR rfl rfl (d_lt rfl rfl rfl) (l_nil (k_seq (k_condF rfl (by first | (simp; done) | (simp; omega)) ?_)))))
 refine k_exit (x_then (x_then ?_))
 refine x_hit (k_seq (k_region (sMs rfl rfl rfl rfl (sAs rfl rfl rfl rfl (l_nil (k_ret ?_))))))
 repeat (first | refine r_then ?_ | refine r_blk ?_)
 exact q_ret (v := .slice _ _ _) rfl rfl ⟨_, rfl, H.newB (by simp; omega) (by simp) hc3 hd3⟩

theorem behind {S1 S2 : Nat → Prop} {v u : Value} {l r : List UInt8} (w : World) (ha : Bs w S1 v l) (hb : Bs w S2 u r) (hl : l.length + r.length ≤ 1000000000000) :
  Calls Tryz.prog 85 [v, u].toArray w (Ret (NewB 5 w (l ++ r))) := by
 obtain ⟨A, c, rfl, _, _, ha⟩ := ha.op
 obtain ⟨B, d, rfl, _, _, hb⟩ := hb.op
 refine k_enter (l := [_, _]) Tryz.func85 rfl rfl ?_
 have H := St.start nT w
 refine k_seq (k_region (sAs rfl rfl rfl rfl (l_nil (k_seq (k_region (sMs rfl rfl rfl rfl (sMs rfl rfl rfl rfl (s_eff (e_bsl (xs := [.tmp 5, .tmp 6]) (vals := [.slice _ _ _, .slice _ _ _]) (vs := [.slice _ _ _, .slice _ _ _]) (w_none rfl) rfl rfl rfl rfl rfl rfl tu32 ts35 ty35 rfl rfl rfl H ?_)))))))))
 clear H; intro g1_2 W H
 refine sC rfl rfl rfl Tryz.func114 rfl rfl rfl (concat2 _ (rd_blk H.blk rfl) (H.rd ha) (H.rd hb) hl) ?_
 rintro _ W ⟨A1, c1, rfl, hc1, hd1, hn⟩
 replace H := H.new hn
 clear hn
 refine sAs rfl rfl rfl rfl (l_nil (k_ret ?_))
 repeat (first | refine r_then ?_ | refine r_blk ?_)
 exact q_ret (v := .slice _ _ _) rfl rfl ⟨_, rfl, H.newB rfl rfl hc1 hd1⟩

theorem packInt1 {S : Nat → Prop} {v : Value} {b : List UInt8} (n : Int) (w : World) (hG : Gat w 0 formsC) (hb : Bs w S v b) (hn : -9223372036854775808 ≤ n ∧ n ≤ 9223372036854775807) (hl : b.length ≤ 500000000000) (hu : Pk.toU n < 253) :
  Calls Tryz.prog 43 [v, .int .i64 n].toArray w (Ret (NewB 5 w (b ++ Pk.int (Pk.toU n)))) := by
 have hc := u64_wrap n
 have hcast := Pk.toU_cast n
 have hlt := Pk.toU_lt n
 generalize Pk.toU n = u at *
 have hb0 := hb
 obtain ⟨A, c, rfl, _, _, _⟩ := hb.op
 refine k_enter (l := [_, _]) Tryz.func43 rfl rfl ?_
 have H := St.start nT w
 refine k_seq (k_region (sAs rfl rfl rfl rfl (l_nil (k_seq (k_region (sMi rfl rfl rfl rfl (sR rfl rfl (d_conv rfl rfl (by rw [tu3]; rfl) tu104 hc) ?_)))))))
 refine sAi rfl rfl rfl rfl (l_nil (k_seq (k_seq (k_region (sMi rfl rfl rfl rfl (sR rfl rfl (d_iaA rfl rfl rfl (q := 0) rfl tu107 (by omega) ts106) (sR rfl rfl (d_fa rfl rfl tf106_2) (sR rfl rfl (d_ldG rfl (H.gat hG) rfl ta104 rfl) (sR rfl rfl (d_lt rfl rfl rfl) (l_nil ?_))))))))))
 refine k_condT rfl (by first | (simp; done) | (simp; omega)) ?_
 refine k_seq (k_region (sMs rfl rfl rfl rfl (sMi rfl rfl rfl rfl (sR rfl rfl (d_conv rfl rfl (by rw [tu3]; rfl) tu5 (u8_eq (n := u) (by omega))) ?_))))
 refine s_eff (e_bsl (xs := [.tmp 20]) (vals := [.int .u8 _]) (vs := [.int .u8 _]) (w_none rfl) rfl rfl rfl rfl rfl rfl tu35 ts5 ty5 rfl rfl rfl H ?_)
 clear H; intro g3_3 W H
 refine sC rfl rfl rfl Tryz.func85 rfl rfl rfl (behind _ (H.bs hb0) (Bs.mk (l := [UInt8.ofNat u]) (rd_blk H.blk rfl) (by omega) (by omega)) (by simp; omega)) ?_
 rintro _ W ⟨A1, c1, rfl, hc1, hd1, hn⟩
 replace H := H.new hn
 clear hn
 refine sAs rfl rfl rfl rfl (l_nil (k_ret ?_))
 repeat (first | refine r_then ?_ | refine r_blk ?_)
 exact q_ret (v := .slice _ _ _) rfl rfl ⟨_, rfl, H.newB (by rw [Pk.int_1 hu]) (by rw [Pk.int_1 hu]) hc1 hd1⟩

theorem packInt2 {S : Nat → Prop} {v : Value} {b : List UInt8} (n : Int) (w : World) (hG : Gat w 0 formsC) (hb : Bs w S v b) (hl : b.length ≤ 500000000000) (hu : 253 ≤ Pk.toU n ∧ Pk.toU n < 65536) :
  Calls Tryz.prog 43 [v, .int .i64 n].toArray w (Ret (NewB 5 w (b ++ Pk.int (Pk.toU n)))) := by
 have hc := u64_wrap n
 have hcast := Pk.toU_cast n
 have hlt := Pk.toU_lt n
 generalize Pk.toU n = u at *
 have hb0 := hb
 obtain ⟨A, c, rfl, _, _, _⟩ := hb.op
 refine k_enter (l := [_, _]) Tryz.func43 rfl rfl ?_
 have H := St.start nT w
 refine k_seq (k_region (sAs rfl rfl rfl rfl (l_nil (k_seq (k_region (sMi rfl rfl rfl rfl (sR rfl rfl (d_conv rfl rfl (by rw [tu3]; rfl) tu104 hc) ?_)))))))
 refine sAi rfl rfl rfl rfl (l_nil (k_seq (k_seq (k_region (sMi rfl rfl rfl rfl (sR rfl rfl (d_iaA rfl rfl rfl (q := 0) rfl tu107 (by omega) ts106) (sR rfl rfl (d_fa rfl rfl tf106_2) (sR rfl rfl (d_ldG rfl (H.gat hG) rfl ta104 rfl) (sR rfl rfl (d_lt rfl rfl rfl) (l_nil ?_))))))))))
 refine k_condF rfl (by first | (simp; done) | (simp; omega)) ?_
 refine k_skip (k_seq (k_region (sR rfl rfl (d_iaA rfl rfl rfl (q := 0) rfl tu107 (by omega) ts106) (sR rfl rfl (d_ldmG rfl (H.gat hG) rfl ta106 ts106 rfl) (s_eff (e_alloc (w_none rfl) rfl rfl [.int .u8 0, .int .i64 0, .int .u64 0] tz106 H ?_))))))
 clear H; intro g4_2 W H
 refine s_eff (e_sto (w_none rfl) rfl rfl rfl rfl rfl ts106 rfl H rfl ?_)
 clear H; intro W H
 refine l_nil (k_seq (k_seq (k_region (sR rfl rfl (d_arrS rfl rfl rfl (l := 1) rfl tu107 (by omega) ts106) (sR rfl rfl (d_len rfl rfl tu109) (sMi rfl rfl rfl rfl (l_nil (k_block (k_unr (k_one ?_))))))))))
 refine k_seq (k_region (sR rfl rfl (d_lt rfl rfl rfl) (l_nil (k_seq (k_condT rfl (by first | (simp; done) | (simp; omega)) ?_)))))
 refine k_skip (k_seq (k_block (k_seq (k_region (sR rfl rfl (d_iaS rfl ((H.gat hG).rd (i := 3) (s := 3) (q := 2) rfl) rfl rfl (q := 0) rfl (by decide) tu109 ts106) ?_)))))
 refine sR rfl rfl (d_ldmR (q := 0) rfl ((H.gat hG).rd (i := 3) (s := 3) (q := 2) rfl) rfl ta106 ts106 (by decide) (by decide)) ?_
 refine s_eff (e_alloc (w_none rfl) rfl rfl [.int .u8 0, .int .i64 0, .int .u64 0] tz106 H ?_)
 clear H; intro g7_2 W H
 refine s_eff (e_sto (w_none rfl) rfl rfl rfl rfl rfl ts106 rfl H rfl ?_)
 clear H; intro W H
 refine l_nil (k_seq (k_region (sMi rfl rfl rfl rfl (sR rfl rfl (d_fa rfl rfl tf106_2) (sR rfl rfl (d_ld rfl H rfl ta104 rfl) (sR rfl rfl (d_ge rfl rfl rfl) (l_nil (k_condF rfl (by first | (simp; done) | (simp; omega)) ?_))))))))
 refine k_skip (k_nil (b_end (k_region (sR rfl rfl (d_add rfl rfl rfl (by omega)) (sMi rfl rfl rfl rfl (l_nil (k_nil (k_next (hd_of (k_one ?_))))))))))
 refine k_seq (k_region (sR rfl rfl (d_lt rfl rfl rfl) (l_nil (k_seq (k_condT rfl (by first | (simp; done) | (simp; omega)) ?_)))))
 refine k_skip (k_seq (k_block (k_seq (k_region (sR rfl rfl (d_iaS rfl ((H.gat hG).rd (i := 3) (s := 3) (q := 2) rfl) rfl rfl (q := 1) (by omega) (by decide) tu109 ts106) ?_)))))
 refine sR rfl rfl (d_ldmR (q := 1) rfl ((H.gat hG).rd (i := 3) (s := 3) (q := 2) rfl) rfl ta106 ts106 (by decide) (by decide)) ?_
 refine s_eff (e_alloc (w_none rfl) rfl rfl [.int .u8 0, .int .i64 0, .int .u64 0] tz106 H ?_)
 clear H; intro g7_2 W H
 refine s_eff (e_sto (w_none rfl) rfl rfl rfl rfl rfl ts106 rfl H rfl ?_)
 clear H; intro W H
 refine l_nil (k_seq (k_region (sMi rfl rfl rfl rfl (sR rfl rfl (d_fa rfl rfl tf106_2) (sR rfl rfl (d_ld rfl H rfl ta104 rfl) (sR rfl rfl (d_ge rfl rfl rfl) (l_nil (k_condF rfl (by first | (simp; done) | (simp; omega)) ?_))))))))
 refine k_skip (k_nil (b_end (k_region (sR rfl rfl (d_add rfl rfl rfl (by omega)) (sMi rfl rfl rfl rfl (l_nil (k_nil (k_next (hd_of (k_one ?_))))))))))
 refine k_seq (k_region (sR rfl rfl (d_lt rfl rfl rfl) (l_nil (k_seq (k_condF rfl (by first | (simp; done) | (simp; omega)) ?_)))))
 refine k_exit (x_then (x_then ?_))
 refine x_hit (k_seq (k_region (sMs rfl rfl rfl rfl (sR rfl rfl (d_fa rfl rfl tf106_0) (sR rfl rfl (d_ld rfl H rfl ta5 rfl) (s_eff (e_bsl (xs := [.tmp 39]) (vals := [.int .u8 _]) (vs := [.int .u8 _]) (w_none rfl) rfl rfl rfl rfl rfl rfl tu35 ts5 ty5 rfl rfl rfl H ?_)))))))
 clear H; intro g11_3 W H
 refine sC rfl rfl rfl Tryz.func85 rfl rfl rfl (behind _ (H.bs hb0) (Bs.mk (l := [253]) (rd_blk H.blk rfl) (by omega) (by omega)) (by simp; omega)) ?_
 rintro _ W ⟨A1, c1, rfl, hc1, hd1, hn⟩
 replace H := H.new hn
 clear hn
 refine sAs rfl rfl rfl rfl (l_nil (k_seq (k_seq (k_region (sR rfl rfl (d_fa rfl rfl tf106_1) (sR rfl rfl (d_ld rfl H rfl ta3 rfl) (sMi rfl rfl rfl rfl (l_nil ?_))))))))
 replace H := H.sub (L' := [_]) (.cons_cons _ (List.nil_sublist _))
 refine k_block (k_loop 44 [9, 10] (fun mm sl W => ∃ k : Nat, ∃ B : Option Addr, ∃ d : Nat, 2 - k = mm ∧ sl = [(44, .int .i64 (k : Int)), (9, .slice B (b.length + 1 + k) d)] ∧ (k ≤ 2) ∧ (b.length + 1 + k ≤ d ∧ d ≤ 9223372036854775807) ∧ St nT w W [Fact.row 5 1 (.slice B (b.length + 1 + k) d) (b.length + 1 + k) ((b ++ 253 :: Pk.le u k).map u8v)]) _ _ ⟨0, A1, c1, rfl, rfl, by omega, ⟨by simpa using hc1, hd1⟩, by simpa [Pk.le] using H⟩ ⟨rfl, sl_eq (by simp), trivial⟩ (fun mm sl ρv W hJ => ?_))
 clear H; obtain ⟨k, B, d, rfl, rfl, hk, hd, H⟩ := hJ
 refine k_one (k_seq (k_region (sR rfl rfl (d_lt rfl rfl rfl) (l_nil (k_seq (k_cond rfl (fun hc45 => ?_) (fun hc45 => ?_)))))))
 ·first | (replace hc45 := of_decide_eq_true hc45) | simp at hc45
  refine k_skip (k_seq (k_block (k_seq (k_region (sMi rfl rfl rfl rfl (sAi rfl rfl rfl rfl (l_nil (k_region (sMs rfl rfl rfl rfl (sMi rfl rfl rfl rfl ?_))))))))))
  refine sMi rfl rfl rfl rfl (sR rfl rfl (d_mul rfl rfl rfl (by omega)) (sR rfl rfl (d_shr rfl rfl rfl (m := 8 * k) rfl (by show 8 * k ≤ 64; omega)) ?_))
  refine sR rfl rfl (d_conv rfl rfl (by rw [tu104]; rfl) tu5 (u8_eq (shr_le u k))) ?_
  refine s_eff (e_bsl (xs := [.tmp 52]) (vals := [.int .u8 _]) (vs := [.int .u8 _]) (w_none rfl) rfl rfl rfl rfl rfl rfl tu35 ts5 ty5 rfl rfl rfl H ?_)
  clear H; intro g15_6 W H
  refine s_eff (e_app (w_none rfl) rfl rfl tu35 tx5 rfl rfl rfl H (rd_blk H.blk rfl) (rfl) (by omega) rfl ?_)
  clear H; intro A2 c2 W hc2 hd2 H
  replace H := H.drop
  refine sAs rfl rfl rfl rfl (l_nil (k_nil (b_end (k_region (sR rfl rfl (d_add rfl rfl rfl (by omega)) (sMi rfl rfl rfl rfl (l_nil (k_nil (k_next ?_)))))))))
  refine ⟨_, _, _, ?_, rfl, ?_, ?_, ⟨k + 1, A2, c2, rfl, rfl, by omega, ⟨by omega, hd2⟩, by rw [Pk.le_succ, ← List.cons_append, map_snoc]; exact H⟩⟩
  ·omega
  ·repeat (first | (with_reducible refine .updl _ .ovr ?_); exact rfl | (with_reducible refine .updl _ (.ovr2 ?_ ?_) ?_); rotate_left; exact rfl; exact rfl | (with_reducible refine .upd ?_ ?_); rotate_left; exact rfl)
  ·refine ⟨?_, ?_, trivial⟩
   ·exact vi (by omega)
   ·exact rfl
 ·first | (replace hc45 := of_decide_eq_false hc45) | simp at hc45
  refine k_exit (x_then (x_then ?_))
  refine x_hit (k_seq ?_)
  obtain rfl : k = 2 := by omega
  refine k_region (sMs rfl rfl rfl rfl (sAs rfl rfl rfl rfl (l_nil (k_ret ?_))))
  repeat (first | refine r_then ?_ | refine r_blk ?_)
  exact q_ret (v := .slice _ _ _) rfl rfl ⟨_, rfl, H.newB (by rw [Pk.int_2 hu.1 hu.2]; simp [Pk.len_le]) (by rw [Pk.int_2 hu.1 hu.2]) hd.1 hd.2⟩

theorem packInt4 {S : Nat → Prop} {v : Value} {b : List UInt8} (n : Int) (w : World) (hG : Gat w 0 formsC) (hb : Bs w S v b) (hl : b.length ≤ 500000000000) (hu : 65536 ≤ Pk.toU n ∧ Pk.toU n < 4294967296) :
  Calls Tryz.prog 43 [v, .int .i64 n].toArray w (Ret (NewB 5 w (b ++ Pk.int (Pk.toU n)))) := by
 have hc := u64_wrap n
 have hcast := Pk.toU_cast n
 have hlt := Pk.toU_lt n
 generalize Pk.toU n = u at *
 have hb0 := hb
 obtain ⟨A, c, rfl, _, _, _⟩ := hb.op
 refine k_enter (l := [_, _]) Tryz.func43 rfl rfl ?_
 have H := St.start nT w
 refine k_seq (k_region (sAs rfl rfl rfl rfl (l_nil (k_seq (k_region (sMi rfl rfl rfl rfl (sR rfl rfl (d_conv rfl rfl (by rw [tu3]; rfl) tu104 hc) ?_)))))))
 refine sAi rfl rfl rfl rfl (l_nil (k_seq (k_seq (k_region (sMi rfl rfl rfl rfl (sR rfl rfl (d_iaA rfl rfl rfl (q := 0) rfl tu107 (by omega) ts106) (sR rfl rfl (d_fa rfl rfl tf106_2) (sR rfl rfl (d_ldG rfl (H.gat hG) rfl ta104 rfl) (sR rfl rfl (d_lt rfl rfl rfl) (l_nil ?_))))))))))
 refine k_condF rfl (by first | (simp; done) | (simp; omega)) ?_
 refine k_skip (k_seq (k_region (sR rfl rfl (d_iaA rfl rfl rfl (q := 0) rfl tu107 (by omega) ts106) (sR rfl rfl (d_ldmG rfl (H.gat hG) rfl ta106 ts106 rfl) (s_eff (e_alloc (w_none rfl) rfl rfl [.int .u8 0, .int .i64 0, .int .u64 0] tz106 H ?_))))))
 clear H; intro g4_2 W H
 refine s_eff (e_sto (w_none rfl) rfl rfl rfl rfl rfl ts106 rfl H rfl ?_)
 clear H; intro W H
 refine l_nil (k_seq (k_seq (k_region (sR rfl rfl (d_arrS rfl rfl rfl (l := 1) rfl tu107 (by omega) ts106) (sR rfl rfl (d_len rfl rfl tu109) (sMi rfl rfl rfl rfl (l_nil (k_block (k_unr (k_one ?_))))))))))
 refine k_seq (k_region (sR rfl rfl (d_lt rfl rfl rfl) (l_nil (k_seq (k_condT rfl (by first | (simp; done) | (simp; omega)) ?_)))))
 refine k_skip (k_seq (k_block (k_seq (k_region (sR rfl rfl (d_iaS rfl ((H.gat hG).rd (i := 3) (s := 3) (q := 2) rfl) rfl rfl (q := 0) rfl (by decide) tu109 ts106) ?_)))))
 refine sR rfl rfl (d_ldmR (q := 0) rfl ((H.gat hG).rd (i := 3) (s := 3) (q := 2) rfl) rfl ta106 ts106 (by decide) (by decide)) ?_
 refine s_eff (e_alloc (w_none rfl) rfl rfl [.int .u8 0, .int .i64 0, .int .u64 0] tz106 H ?_)
 clear H; intro g7_2 W H
 refine s_eff (e_sto (w_none rfl) rfl rfl rfl rfl rfl ts106 rfl H rfl ?_)
 clear H; intro W H
 refine l_nil (k_seq (k_region (sMi rfl rfl rfl rfl (sR rfl rfl (d_fa rfl rfl tf106_2) (sR rfl rfl (d_ld rfl H rfl ta104 rfl) (sR rfl rfl (d_ge rfl rfl rfl) (l_nil (k_condT rfl (by first | (simp; done) | (simp; omega)) ?_))))))))
 refine k_region (sR rfl rfl (d_ldm rfl H rfl ta106 ts106 rfl) (s_eff (e_sto (w_none rfl) rfl rfl rfl rfl rfl ts106 rfl H rfl ?_)))
 clear H; intro W H
 refine l_nil (k_nil (b_end (k_region (sR rfl rfl (d_add rfl rfl rfl (by omega)) (sMi rfl rfl rfl rfl (l_nil (k_nil (k_next (hd_of (k_one ?_))))))))))
 refine k_seq (k_region (sR rfl rfl (d_lt rfl rfl rfl) (l_nil (k_seq (k_condT rfl (by first | (simp; done) | (simp; omega)) ?_)))))
 refine k_skip (k_seq (k_block (k_seq (k_region (sR rfl rfl (d_iaS rfl ((H.gat hG).rd (i := 3) (s := 3) (q := 2) rfl) rfl rfl (q := 1) (by omega) (by decide) tu109 ts106) ?_)))))
 refine sR rfl rfl (d_ldmR (q := 1) rfl ((H.gat hG).rd (i := 3) (s := 3) (q := 2) rfl) rfl ta106 ts106 (by decide) (by decide)) ?_
 refine s_eff (e_alloc (w_none rfl) rfl rfl [.int .u8 0, .int .i64 0, .int .u64 0] tz106 H ?_)
 clear H; intro g7_2 W H
 refine s_eff (e_sto (w_none rfl) rfl rfl rfl rfl rfl ts106 rfl H rfl ?_)
 clear H; intro W H
 refine l_nil (k_seq (k_region (sMi rfl rfl rfl rfl (sR rfl rfl (d_fa rfl rfl tf106_2) (sR rfl rfl (d_ld rfl H rfl ta104 rfl) (sR rfl rfl (d_ge rfl rfl rfl) (l_nil (k_condF rfl (by first | (simp; done) | (simp; omega)) ?_))))))))
 refine k_skip (k_nil (b_end (k_region (sR rfl rfl (d_add rfl rfl rfl (by omega)) (sMi rfl rfl rfl rfl (l_nil (k_nil (k_next (hd_of (k_one ?_))))))))))
 refine k_seq (k_region (sR rfl rfl (d_lt rfl rfl rfl) (l_nil (k_seq (k_condF rfl (by first | (simp; done) | (simp; omega)) ?_)))))
 refine k_exit (x_then (x_then ?_))
 refine x_hit (k_seq (k_region (sMs rfl rfl rfl rfl (sR rfl rfl (d_fa rfl rfl tf106_0) (sR rfl rfl (d_ld rfl H rfl ta5 rfl) (s_eff (e_bsl (xs := [.tmp 39]) (vals := [.int .u8 _]) (vs := [.int .u8 _]) (w_none rfl) rfl rfl rfl rfl rfl rfl tu35 ts5 ty5 rfl rfl rfl H ?_)))))))
 clear H; intro g11_3 W H
 refine sC rfl rfl rfl Tryz.func85 rfl rfl rfl (behind _ (H.bs hb0) (Bs.mk (l := [254]) (rd_blk H.blk rfl) (by omega) (by omega)) (by simp; omega)) ?_
 rintro _ W ⟨A1, c1, rfl, hc1, hd1, hn⟩
 replace H := H.new hn
 clear hn
 refine sAs rfl rfl rfl rfl (l_nil (k_seq (k_seq (k_region (sR rfl rfl (d_fa rfl rfl tf106_1) (sR rfl rfl (d_ld rfl H rfl ta3 rfl) (sMi rfl rfl rfl rfl (l_nil ?_))))))))
 replace H := H.sub (L' := [_]) (.cons_cons _ (List.nil_sublist _))
 refine k_block (k_loop 44 [9, 10] (fun mm sl W => ∃ k : Nat, ∃ B : Option Addr, ∃ d : Nat, 4 - k = mm ∧ sl = [(44, .int .i64 (k : Int)), (9, .slice B (b.length + 1 + k) d)] ∧ (k ≤ 4) ∧ (b.length + 1 + k ≤ d ∧ d ≤ 9223372036854775807) ∧ St nT w W [Fact.row 5 1 (.slice B (b.length + 1 + k) d) (b.length + 1 + k) ((b ++ 254 :: Pk.le u k).map u8v)]) _ _ ⟨0, A1, c1, rfl, rfl, by omega, ⟨by simpa using hc1, hd1⟩, by simpa [Pk.le] using H⟩ ⟨rfl, sl_eq (by simp), trivial⟩ (fun mm sl ρv W hJ => ?_))
 clear H; obtain ⟨k, B, d, rfl, rfl, hk, hd, H⟩ := hJ
 refine k_one (k_seq (k_region (sR rfl rfl (d_lt rfl rfl rfl) (l_nil (k_seq (k_cond rfl (fun hc45 => ?_) (fun hc45 => ?_)))))))
 ·first | (replace hc45 := of_decide_eq_true hc45) | simp at hc45
  refine k_skip (k_seq (k_block (k_seq (k_region (sMi rfl rfl rfl rfl (sAi rfl rfl rfl rfl (l_nil (k_region (sMs rfl rfl rfl rfl (sMi rfl rfl rfl rfl ?_))))))))))
  refine sMi rfl rfl rfl rfl (sR rfl rfl (d_mul rfl rfl rfl (by omega)) (sR rfl rfl (d_shr rfl rfl rfl (m := 8 * k) rfl (by show 8 * k ≤ 64; omega)) ?_))
  refine sR rfl rfl (d_conv rfl rfl (by rw [tu104]; rfl) tu5 (u8_eq (shr_le u k))) ?_
  refine s_eff (e_bsl (xs := [.tmp 52]) (vals := [.int .u8 _]) (vs := [.int .u8 _]) (w_none rfl) rfl rfl rfl rfl rfl rfl tu35 ts5 ty5 rfl rfl rfl H ?_)
  clear H; intro g15_6 W H
  refine s_eff (e_app (w_none rfl) rfl rfl tu35 tx5 rfl rfl rfl H (rd_blk H.blk rfl) (rfl) (by omega) rfl ?_)
  clear H; intro A2 c2 W hc2 hd2 H
  replace H := H.drop
  refine sAs rfl rfl rfl rfl (l_nil (k_nil (b_end (k_region (sR rfl rfl (d_add rfl rfl rfl (by omega)) (sMi rfl rfl rfl rfl (l_nil (k_nil (k_next ?_)))))))))
  refine ⟨_, _, _, ?_, rfl, ?_, ?_, ⟨k + 1, A2, c2, rfl, rfl, by omega, ⟨by omega, hd2⟩, by rw [Pk.le_succ, ← List.cons_append, map_snoc]; exact H⟩⟩
  ·omega
  ·repeat (first | (with_reducible refine .updl _ .ovr ?_); exact rfl | (with_reducible refine .updl _ (.ovr2 ?_ ?_) ?_); rotate_left; exact rfl; exact rfl | (with_reducible refine .upd ?_ ?_); rotate_left; exact rfl)
  ·refine ⟨?_, ?_, trivial⟩
   ·exact vi (by omega)
   ·exact rfl
 ·first | (replace hc45 := of_decide_eq_false hc45) | simp at hc45
  refine k_exit (x_then (x_then ?_))
  refine x_hit (k_seq ?_)
  obtain rfl : k = 4 := by omega
  refine k_region (sMs rfl rfl rfl rfl (sAs rfl rfl rfl rfl (l_nil (k_ret ?_))))
  repeat (first | refine r_then ?_ | refine r_blk ?_)
  exact q_ret (v := .slice _ _ _) rfl rfl ⟨_, rfl, H.newB (by rw [Pk.int_4 hu.1 hu.2]; simp [Pk.len_le]) (by rw [Pk.int_4 hu.1 hu.2]) hd.1 hd.2⟩

theorem packInt8 {S : Nat → Prop} {v : Value} {b : List UInt8} (n : Int) (w : World) (hG : Gat w 0 formsC) (hb : Bs w S v b) (hl : b.length ≤ 500000000000) (hu : 4294967296 ≤ Pk.toU n) :
  Calls Tryz.prog 43 [v, .int .i64 n].toArray w (Ret (NewB 5 w (b ++ Pk.int (Pk.toU n)))) := by
 have hc := u64_wrap n
 have hcast := Pk.toU_cast n
 have hlt := Pk.toU_lt n
 generalize Pk.toU n = u at *
 have hb0 := hb
 obtain ⟨A, c, rfl, _, _, _⟩ := hb.op
 refine k_enter (l := [_, _]) Tryz.func43 rfl rfl ?_
 have H := St.start nT w
 refine k_seq (k_region (sAs rfl rfl rfl rfl (l_nil (k_seq (k_region (sMi rfl rfl rfl rfl (sR rfl rfl (d_conv rfl rfl (by rw [tu3]; rfl) tu104 hc) ?_)))))))
 refine sAi rfl rfl rfl rfl (l_nil (k_seq (k_seq (k_region (sMi rfl rfl rfl rfl (sR rfl rfl (d_iaA rfl rfl rfl (q := 0) rfl tu107 (by omega) ts106) (sR rfl rfl (d_fa rfl rfl tf106_2) (sR rfl rfl (d_ldG rfl (H.gat hG) rfl ta104 rfl) (sR rfl rfl (d_lt rfl rfl rfl) (l_nil ?_))))))))))
 refine k_condF rfl (by first | (simp; done) | (simp; omega)) ?_
 refine k_skip (k_seq (k_region (sR rfl rfl (d_iaA rfl rfl rfl (q := 0) rfl tu107 (by omega) ts106) (sR rfl rfl (d_ldmG rfl (H.gat hG) rfl ta106 ts106 rfl) (s_eff (e_alloc (w_none rfl) rfl rfl [.int .u8 0, .int .i64 0, .int .u64 0] tz106 H ?_))))))
 clear H; intro g4_2 W H
 refine s_eff (e_sto (w_none rfl) rfl rfl rfl rfl rfl ts106 rfl H rfl ?_)
 clear H; intro W H
 refine l_nil (k_seq (k_seq (k_region (sR rfl rfl (d_arrS rfl rfl rfl (l := 1) rfl tu107 (by omega) ts106) (sR rfl rfl (d_len rfl rfl tu109) (sMi rfl rfl rfl rfl (l_nil (k_block (k_unr (k_one ?_))))))))))
 refine k_seq (k_region (sR rfl rfl (d_lt rfl rfl rfl) (l_nil (k_seq (k_condT rfl (by first | (simp; done) | (simp; omega)) ?_)))))
 refine k_skip (k_seq (k_block (k_seq (k_region (sR rfl rfl (d_iaS rfl ((H.gat hG).rd (i := 3) (s := 3) (q := 2) rfl) rfl rfl (q := 0) rfl (by decide) tu109 ts106) ?_)))))
 refine sR rfl rfl (d_ldmR (q := 0) rfl ((H.gat hG).rd (i := 3) (s := 3) (q := 2) rfl) rfl ta106 ts106 (by decide) (by decide)) ?_
 refine s_eff (e_alloc (w_none rfl) rfl rfl [.int .u8 0, .int .i64 0, .int .u64 0] tz106 H ?_)
 clear H; intro g7_2 W H
 refine s_eff (e_sto (w_none rfl) rfl rfl rfl rfl rfl ts106 rfl H rfl ?_)
 clear H; intro W H
 refine l_nil (k_seq (k_region (sMi rfl rfl rfl rfl (sR rfl rfl (d_fa rfl rfl tf106_2) (sR rfl rfl (d_ld rfl H rfl ta104 rfl) (sR rfl rfl (d_ge rfl rfl rfl) (l_nil (k_condT rfl (by first | (simp; done) | (simp; omega)) ?_))))))))
 refine k_region (sR rfl rfl (d_ldm rfl H rfl ta106 ts106 rfl) (s_eff (e_sto (w_none rfl) rfl rfl rfl rfl rfl ts106 rfl H rfl ?_)))
 clear H; intro W H
 refine l_nil (k_nil (b_end (k_region (sR rfl rfl (d_add rfl rfl rfl (by omega)) (sMi rfl rfl rfl rfl (l_nil (k_nil (k_next (hd_of (k_one ?_))))))))))
 refine k_seq (k_region (sR rfl rfl (d_lt rfl rfl rfl) (l_nil (k_seq (k_condT rfl (by first | (simp; done) | (simp; omega)) ?_)))))
 refine k_skip (k_seq (k_block (k_seq (k_region (sR rfl rfl (d_iaS rfl ((H.gat hG).rd (i := 3) (s := 3) (q := 2) rfl) rfl rfl (q := 1) (by omega) (by decide) tu109 ts106) ?_)))))
 refine sR rfl rfl (d_ldmR (q := 1) rfl ((H.gat hG).rd (i := 3) (s := 3) (q := 2) rfl) rfl ta106 ts106 (by decide) (by decide)) ?_
 refine s_eff (e_alloc (w_none rfl) rfl rfl [.int .u8 0, .int .i64 0, .int .u64 0] tz106 H ?_)
 clear H; intro g7_2 W H
 refine s_eff (e_sto (w_none rfl) rfl rfl rfl rfl rfl ts106 rfl H rfl ?_)
 clear H; intro W H
 refine l_nil (k_seq (k_region (sMi rfl rfl rfl rfl (sR rfl rfl (d_fa rfl rfl tf106_2) (sR rfl rfl (d_ld rfl H rfl ta104 rfl) (sR rfl rfl (d_ge rfl rfl rfl) (l_nil (k_condT rfl (by first | (simp; done) | (simp; omega)) ?_))))))))
 refine k_region (sR rfl rfl (d_ldm rfl H rfl ta106 ts106 rfl) (s_eff (e_sto (w_none rfl) rfl rfl rfl rfl rfl ts106 rfl H rfl ?_)))
 clear H; intro W H
 refine l_nil (k_nil (b_end (k_region (sR rfl rfl (d_add rfl rfl rfl (by omega)) (sMi rfl rfl rfl rfl (l_nil (k_nil (k_next (hd_of (k_one ?_))))))))))
 refine k_seq (k_region (sR rfl rfl (d_lt rfl rfl rfl) (l_nil (k_seq (k_condF rfl (by first | (simp; done) | (simp; omega)) ?_)))))
 refine k_exit (x_then (x_then ?_))
 refine x_hit (k_seq (k_region (sMs rfl rfl rfl rfl (sR rfl rfl (d_fa rfl rfl tf106_0) (sR rfl rfl (d_ld rfl H rfl ta5 rfl) (s_eff (e_bsl (xs := [.tmp 39]) (vals := [.int .u8 _]) (vs := [.int .u8 _]) (w_none rfl) rfl rfl rfl rfl rfl rfl tu35 ts5 ty5 rfl rfl rfl H ?_)))))))
 clear H; intro g11_3 W H
 refine sC rfl rfl rfl Tryz.func85 rfl rfl rfl (behind _ (H.bs hb0) (Bs.mk (l := [255]) (rd_blk H.blk rfl) (by omega) (by omega)) (by simp; omega)) ?_
 rintro _ W ⟨A1, c1, rfl, hc1, hd1, hn⟩
 replace H := H.new hn
 clear hn
 refine sAs rfl rfl rfl rfl (l_nil (k_seq (k_seq (k_region (sR rfl rfl (d_fa rfl rfl tf106_1) (sR rfl rfl (d_ld rfl H rfl ta3 rfl) (sMi rfl rfl rfl rfl (l_nil ?_))))))))
 replace H := H.sub (L' := [_]) (.cons_cons _ (List.nil_sublist _))
 refine k_block (k_loop 44 [9, 10] (fun mm sl W => ∃ k : Nat, ∃ B : Option Addr, ∃ d : Nat, 8 - k = mm ∧ sl = [(44, .int .i64 (k : Int)), (9, .slice B (b.length + 1 + k) d)] ∧ (k ≤ 8) ∧ (b.length + 1 + k ≤ d ∧ d ≤ 9223372036854775807) ∧ St nT w W [Fact.row 5 1 (.slice B (b.length + 1 + k) d) (b.length + 1 + k) ((b ++ 255 :: Pk.le u k).map u8v)]) _ _ ⟨0, A1, c1, rfl, rfl, by omega, ⟨by simpa using hc1, hd1⟩, by simpa [Pk.le] using H⟩ ⟨rfl, sl_eq (by simp), trivial⟩ (fun mm sl ρv W hJ => ?_))
 clear H; obtain ⟨k, B, d, rfl, rfl, hk, hd, H⟩ := hJ
 refine k_one (k_seq (k_region (sR rfl rfl (d_lt rfl rfl rfl) (l_nil (k_seq (k_cond rfl (fun hc45 => ?_) (fun hc45 => ?_)))))))
 ·first | (replace hc45 := of_decide_eq_true hc45) | simp at hc45
  refine k_skip (k_seq (k_block (k_seq (k_region (sMi rfl rfl rfl rfl (sAi rfl rfl rfl rfl (l_nil (k_region (sMs rfl rfl rfl rfl (sMi rfl rfl rfl rfl ?_))))))))))
  refine sMi rfl rfl rfl rfl (sR rfl rfl (d_mul rfl rfl rfl (by omega)) (sR rfl rfl (d_shr rfl rfl rfl (m := 8 * k) rfl (by show 8 * k ≤ 64; omega)) ?_))
  refine sR rfl rfl (d_conv rfl rfl (by rw [tu104]; rfl) tu5 (u8_eq (shr_le u k))) ?_
  refine s_eff (e_bsl (xs := [.tmp 52]) (vals := [.int .u8 _]) (vs := [.int .u8 _]) (w_none rfl) rfl rfl rfl rfl rfl rfl tu35 ts5 ty5 rfl rfl rfl H ?_)
  clear H; intro g15_6 W H
  refine s_eff (e_app (w_none rfl) rfl rfl tu35 tx5 rfl rfl rfl H (rd_blk H.blk rfl) (rfl) (by omega) rfl ?_)
  clear H; intro A2 c2 W hc2 hd2 H
  replace H := H.drop
  refine sAs rfl rfl rfl rfl (l_nil (k_nil (b_end (k_region (sR rfl rfl (d_add rfl rfl rfl (by omega)) (sMi rfl rfl rfl rfl (l_nil (k_nil (k_next ?_)))))))))
  refine ⟨_, _, _, ?_, rfl, ?_, ?_, ⟨k + 1, A2, c2, rfl, rfl, by omega, ⟨by omega, hd2⟩, by rw [Pk.le_succ, ← List.cons_append, map_snoc]; exact H⟩⟩
  ·omega
  ·repeat (first | (with_reducible refine .updl _ .ovr ?_); exact rfl | (with_reducible refine .updl _ (.ovr2 ?_ ?_) ?_); rotate_left; exact rfl; exact rfl | (with_reducible refine .upd ?_ ?_); rotate_left; exact rfl)
  ·refine ⟨?_, ?_, trivial⟩
   ·exact vi (by omega)
   ·exact rfl
 ·first | (replace hc45 := of_decide_eq_false hc45) | simp at hc45
  refine k_exit (x_then (x_then ?_))
  refine x_hit (k_seq ?_)
  obtain rfl : k = 8 := by omega
  refine k_region (sMs rfl rfl rfl rfl (sAs rfl rfl rfl rfl (l_nil (k_ret ?_))))
  repeat (first | refine r_then ?_ | refine r_blk ?_)
  exact q_ret (v := .slice _ _ _) rfl rfl ⟨_, rfl, H.newB (by rw [Pk.int_8 hu]; simp [Pk.len_le]) (by rw [Pk.int_8 hu]) hd.1 hd.2⟩

theorem packInt {S : Nat → Prop} {v : Value} {b : List UInt8} (n : Int) (w : World) (hG : Gat w 0 formsC) (hb : Bs w S v b) (hn : -9223372036854775808 ≤ n ∧ n ≤ 9223372036854775807) (hl : b.length ≤ 500000000000) :
  Calls Tryz.prog 43 [v, .int .i64 n].toArray w (Ret (NewB 5 w (b ++ Pk.int (Pk.toU n)))) := by
 rcases Nat.lt_or_ge (Pk.toU n) 253 with h | h
 ·exact packInt1 n w hG hb hn hl h
 rcases Nat.lt_or_ge (Pk.toU n) 65536 with h2 | h2
 ·exact packInt2 n w hG hb hl ⟨h, h2⟩
 rcases Nat.lt_or_ge (Pk.toU n) 4294967296 with h4 | h4
 ·exact packInt4 n w hG hb hl ⟨h2, h4⟩
 ·exact packInt8 n w hG hb hl h4

theorem packBlob {S S1 : Nat → Prop} {v u : Value} {b p : List UInt8} (w : World) (hG : Gat w 0 formsC) (hb : Bs w S v b) (hl : b.length ≤ 400000000000) (hp : Bs w S1 u p) (hl2 : p.length ≤ 400000000000) :
  Calls Tryz.prog 33 [v, u].toArray w (Ret (NewB 5 w (b ++ (Pk.int p.length ++ p)))) := by
 have hb0 := hb
 obtain ⟨A, c, rfl, _, _, hb⟩ := hb.op
 have hp0 := hp
 obtain ⟨B, d, rfl, _, _, hp⟩ := hp.op
 have hi := Pk.len_int p.length
 refine k_enter (l := [_, _]) Tryz.func33 rfl rfl ?_
 have H := St.start nT w
 refine k_seq (k_region (sAs rfl rfl rfl rfl (l_nil (k_seq (k_region (sMs rfl rfl rfl rfl (sMs rfl rfl rfl rfl (sR rfl rfl (d_len rfl rfl tu35) (sC rfl rfl rfl Tryz.func43 rfl rfl rfl (packInt _ _ (H.gat hG) (H.bs hb0) (by omega) (by omega)) ?_)))))))))
 rw [Pk.toU_pos _ (by omega) (by omega), Int.toNat_natCast]
 rintro _ W ⟨A1, c1, rfl, hc1, hd1, hn⟩
 replace H := H.new hn
 clear hn
 refine sMs rfl rfl rfl rfl (s_eff (e_app (w_none rfl) rfl rfl tu35 tx5 rfl rfl rfl H (H.rd hp) (all_u8L _) (by rw [List.length_append]; omega) rfl ?_))
 clear H; intro A2 c2 W hc2 hd2 H
 refine sAs rfl rfl rfl rfl (l_nil (k_ret ?_))
 repeat (first | refine r_then ?_ | refine r_blk ?_)
 exact q_ret (v := .slice _ _ _) rfl rfl ⟨_, rfl, H.newB (by simp; omega) (by simp) hc2 hd2⟩

theorem packHash {S : Nat → Prop} {v : Value} {b h : List UInt8} (w : World) (hb : Bs w S v b) (hl : b.length ≤ 400000000000) (hh : h.length = 32) :
  Calls Tryz.prog 44 [v, .agg (h.map u8v).toArray].toArray w (Ret (NewB 5 w (b ++ h))) := by
 have hb0 := hb
 obtain ⟨A, c, rfl, _, _, hb⟩ := hb.op
 refine k_enter (l := [_, _]) Tryz.func44 rfl rfl ?_
 have H := St.start nT w
 refine k_seq (k_region (s_eff (e_box (w_none rfl) rfl rfl rfl rfl H ?_)))
 clear H; intro g0_0 W H
 refine sAs rfl rfl rfl rfl (l_nil (k_seq (k_region (sMs rfl rfl rfl rfl (sR rfl rfl (d_arrA rfl rfl tu29 ts5) (sC rfl rfl rfl Tryz.func85 rfl rfl rfl (behind _ (H.bs hb0) (Bs.mk (l := h) (rd_blk H.blk (by simp; omega)) (by omega) (by omega)) (by omega)) ?_))))))
 rintro _ W ⟨A1, c1, rfl, hc1, hd1, hn⟩
 replace H := H.new hn
 clear hn
 refine sAs rfl rfl rfl rfl (l_nil (k_ret ?_))
 repeat (first | refine r_then ?_ | refine r_blk ?_)
 exact q_ret (v := .slice _ _ _) rfl rfl ⟨_, rfl, H.newB rfl rfl hc1 hd1⟩

theorem refLow (n : Int) (m : Nat) (z : Int) (w : World) (hz : z = (m : Int)) (hm : m ≤ 8) :
  Calls Tryz.prog 86 [.int .i64 n, .int .i64 z].toArray w (Ret (NewB 5 w (Pk.le (Pk.toU n) m))) := by
 subst hz
 have hc := u64_wrap n
 have hlt := Pk.toU_lt n
 generalize Pk.toU n = u at *
 refine k_enter (l := [_, _]) Tryz.func86 rfl rfl ?_
 have H := St.start nT w
 refine k_seq (k_region (sAs rfl rfl rfl rfl (l_nil (k_seq (k_region (sMi rfl rfl rfl rfl (sR rfl rfl (d_conv rfl rfl (by rw [tu3]; rfl) tu104 hc) ?_)))))))
 refine sAi rfl rfl rfl rfl (l_nil (k_seq (k_region (sAs rfl rfl rfl rfl (l_nil ?_)))))
 replace H := H.nilrow 5 1
 refine k_seq (k_seq (k_region (sAi rfl rfl rfl rfl (l_nil (k_block (k_loop 10 [5, 6, 7] (fun mm sl W => ∃ k : Nat, ∃ B : Option Addr, ∃ d : Nat, m - k = mm ∧ sl = [(7, .int .i64 (k : Int)), (6, .slice B k d), (5, .int .u64 ((u / 256 ^ k : Nat) : Int))] ∧ (k ≤ m) ∧ (k ≤ d ∧ d ≤ 9223372036854775807) ∧ St nT w W [Fact.row 5 1 (.slice B k d) k ((Pk.le u k).map u8v)]) _ _ ⟨0, none, 0, rfl, rfl, Nat.zero_le _, ⟨Nat.le_refl _, by omega⟩, H⟩ ⟨rfl, rfl, vi (by simp), trivial⟩ (fun mm sl ρv W hJ => ?_)))))))
 clear H; obtain ⟨k, B, d, rfl, rfl, hk, hd, H⟩ := hJ
 refine k_one (k_seq (k_seq (k_region (sMi rfl rfl rfl rfl (sMi rfl rfl rfl rfl (sR rfl rfl (d_lt rfl rfl rfl) (l_nil (k_cond rfl (fun hc12 => ?_) (fun hc12 => ?_)))))))))
 ·first | (replace hc12 := of_decide_eq_true hc12) | simp at hc12
  refine k_skip (k_seq (k_block (k_seq (k_region (sMs rfl rfl rfl rfl (sMi rfl rfl rfl rfl (sR rfl rfl (d_remU rfl rfl rfl ⟨Int.natCast_nonneg _, by decide⟩) ?_)))))))
  refine sR rfl rfl (d_conv rfl rfl (by rw [tu104]; rfl) tu5 (u8_eq2 _)) ?_
  refine s_eff (e_bsl (xs := [.tmp 18]) (vals := [.int .u8 _]) (vs := [.int .u8 _]) (w_none rfl) rfl rfl rfl rfl rfl rfl tu35 ts5 ty5 rfl rfl rfl H ?_)
  clear H; intro g6_4 W H
  refine s_eff (e_app (w_none rfl) rfl rfl tu35 tx5 rfl rfl rfl H (rd_blk H.blk rfl) (rfl) (by omega) rfl ?_)
  clear H; intro A1 c1 W hc1 hd1 H
  replace H := H.drop
  refine sAs rfl rfl rfl rfl (l_nil (k_region (sMi rfl rfl rfl rfl (sR rfl rfl (d_quo rfl rfl rfl ⟨Int.natCast_nonneg _, by decide⟩ (u64_div u k hlt)) ?_))))
  refine sAi rfl rfl rfl rfl (l_nil (k_nil (b_end (k_region (sMi rfl rfl rfl rfl (sR rfl rfl (d_add rfl rfl rfl (by omega)) (sAi rfl rfl rfl rfl (l_nil (k_nil (k_next ?_))))))))))
  refine ⟨_, _, _, ?_, rfl, ?_, ?_, ⟨k + 1, A1, c1, rfl, rfl, by omega, ⟨hc1, hd1⟩, by rw [Pk.le_succ, List.map_append]; exact H⟩⟩
  ·omega
  ·repeat (first | (with_reducible refine .updl _ .ovr ?_); exact rfl | (with_reducible refine .updl _ (.ovr2 ?_ ?_) ?_); rotate_left; exact rfl; exact rfl | (with_reducible refine .upd ?_ ?_); rotate_left; exact rfl)
  ·refine ⟨?_, ?_, ?_, trivial⟩
   ·exact vi (by omega)
   ·exact rfl
   ·exact rfl
 ·first | (replace hc12 := of_decide_eq_false hc12) | simp at hc12
  refine k_exit (x_then (x_then ?_))
  refine x_hit (k_seq ?_)
  obtain rfl : k = m := by omega
  refine k_region (sMs rfl rfl rfl rfl (sAs rfl rfl rfl rfl (l_nil (k_ret ?_))))
  repeat (first | refine r_then ?_ | refine r_blk ?_)
  exact q_ret (v := .slice _ _ _) rfl rfl ⟨_, rfl, H.newB (by rw [Pk.len_le]) rfl hd.1 hd.2⟩

theorem refInt1 {S : Nat → Prop} {v : Value} {b : List UInt8} (n : Int) (w : World) (hb : Bs w S v b) (hn : -9223372036854775808 ≤ n ∧ n ≤ 9223372036854775807) (hl : b.length ≤ 500000000000) (hu : 0 ≤ n ∧ n < 253) :
  Calls Tryz.prog 47 [v, .int .i64 n].toArray w (Ret (NewB 5 w (b ++ Pk.int (Pk.toU n)))) := by
 have hcast := Pk.toU_cast n
 have hb0 := hb
 obtain ⟨A, c, rfl, _, _, _⟩ := hb.op
 refine k_enter (l := [_, _]) Tryz.func47 rfl rfl ?_
 have H := St.start nT w
 refine k_seq (k_region (sAs rfl rfl rfl rfl (l_nil (k_seq (k_region (sMs rfl rfl rfl rfl (sC rfl rfl rfl Tryz.func10 rfl rfl rfl (copyBytes _ b _ (H.bs hb0) (by omega)) ?_)))))))
 rintro _ W ⟨A0, c0, rfl, hc0, hd0, hn⟩
 replace H := H.new hn
 clear hn
 refine sAs rfl rfl rfl rfl (l_nil (k_seq (k_seq (k_region (sMi rfl rfl rfl rfl (sR rfl rfl (d_ge rfl rfl rfl) (sR rfl rfl (mv_bx (c := true) rfl rfl ((by first | (simp; done) | (simp; omega)))) ?_)))))))
 refine s_run (w_g rfl rfl rfl rfl) rfl (mv_i rfl rfl) (s_run (w_g rfl rfl rfl rfl) rfl (d_lt rfl rfl rfl) (sR rfl rfl (d_pickT rfl rfl rfl) (l_nil (k_condT rfl (by first | (simp; done) | (simp; omega)) ?_))))
 refine k_seq (k_region (sMs rfl rfl rfl rfl (sMi rfl rfl rfl rfl (sR rfl rfl (d_conv rfl rfl (by rw [tu3]; rfl) tu5 (u8_eq (n := Pk.toU n) (by omega))) ?_))))
 refine s_eff (e_bsl (xs := [.tmp 16]) (vals := [.int .u8 _]) (vs := [.int .u8 _]) (w_none rfl) rfl rfl rfl rfl rfl rfl tu35 ts5 ty5 rfl rfl rfl H ?_)
 clear H; intro g3_3 W H
 refine s_eff (e_app (w_none rfl) rfl rfl tu35 tx5 rfl rfl rfl H (rd_blk H.blk rfl) (rfl) (by omega) rfl ?_)
 clear H; intro A1 c1 W hc1 hd1 H
 replace H := H.drop
 refine sAs rfl rfl rfl rfl (l_nil (k_ret ?_))
 repeat (first | refine r_then ?_ | refine r_blk ?_)
 exact q_ret (v := .slice _ _ _) rfl rfl ⟨_, rfl, H.newB (by rw [Pk.int_1 (by omega)]; simp) (by rw [Pk.int_1 (by omega)]; simp) hc1 hd1⟩

theorem refInt2 {S : Nat → Prop} {v : Value} {b : List UInt8} (n : Int) (w : World) (hb : Bs w S v b) (hn : -9223372036854775808 ≤ n ∧ n ≤ 9223372036854775807) (hl : b.length ≤ 500000000000) (hu : 253 ≤ n ∧ n < 65536) :
  Calls Tryz.prog 47 [v, .int .i64 n].toArray w (Ret (NewB 5 w (b ++ Pk.int (Pk.toU n)))) := by
 have hcast := Pk.toU_cast n
 have hb0 := hb
 obtain ⟨A, c, rfl, _, _, _⟩ := hb.op
 refine k_enter (l := [_, _]) Tryz.func47 rfl rfl ?_
 have H := St.start nT w
 refine k_seq (k_region (sAs rfl rfl rfl rfl (l_nil (k_seq (k_region (sMs rfl rfl rfl rfl (sC rfl rfl rfl Tryz.func10 rfl rfl rfl (copyBytes _ b _ (H.bs hb0) (by omega)) ?_)))))))
 rintro _ W ⟨A0, c0, rfl, hc0, hd0, hn⟩
 replace H := H.new hn
 clear hn
 refine sAs rfl rfl rfl rfl (l_nil (k_seq (k_seq (k_region (sMi rfl rfl rfl rfl (sR rfl rfl (d_ge rfl rfl rfl) (sR rfl rfl (mv_bx (c := true) rfl rfl ((by first | (simp; done) | (simp; omega)))) ?_)))))))
 refine s_run (w_g rfl rfl rfl rfl) rfl (mv_i rfl rfl) (s_run (w_g rfl rfl rfl rfl) rfl (d_lt rfl rfl rfl) (sR rfl rfl (d_pickT rfl rfl rfl) (l_nil (k_condF rfl (by first | (simp; done) | (simp; omega)) ?_))))
 refine k_skip (k_seq (k_seq (k_region (sMi rfl rfl rfl rfl (sR rfl rfl (d_ge rfl rfl rfl) (sR rfl rfl (mv_bx (c := true) rfl rfl ((by first | (simp; done) | (simp; omega)))) ?_))))))
 refine s_run (w_g rfl rfl rfl rfl) rfl (mv_i rfl rfl) (s_run (w_g rfl rfl rfl rfl) rfl (d_lt rfl rfl rfl) (sR rfl rfl (d_pickT rfl rfl rfl) (l_nil (k_condT rfl (by first | (simp; done) | (simp; omega)) ?_))))
 refine k_seq (k_region (sMs rfl rfl rfl rfl (s_eff (e_bsl (xs := [.const (.int .u8 253)]) (vals := [.int .u8 _]) (vs := [.int .u8 _]) (w_none rfl) rfl rfl rfl rfl rfl rfl tu35 ts5 ty5 rfl rfl rfl H ?_))))
 clear H; intro g5_1 W H
 refine s_eff (e_app (w_none rfl) rfl rfl tu35 tx5 rfl rfl rfl H (rd_blk H.blk rfl) (rfl) (by omega) rfl ?_)
 clear H; intro A1 c1 W hc1 hd1 H
 replace H := H.drop
 refine sMi rfl rfl rfl rfl (sC rfl rfl rfl Tryz.func86 rfl rfl rfl (refLow n 2 _ _ rfl (by omega)) ?_)
 rintro _ W ⟨A2, c2, rfl, hc2, hd2, hn⟩
 replace H := H.new hn
 clear hn
 refine s_eff (e_app (w_none rfl) rfl rfl tu35 tx5 rfl rfl rfl H (H.rowrd (A := A2)) (all_u8L _) (by simp [Pk.len_le]; omega) rfl ?_)
 clear H; intro A3 c3 W hc3 hd3 H
 refine sAs rfl rfl rfl rfl (l_nil (k_ret ?_))
 repeat (first | refine r_then ?_ | refine r_blk ?_)
 exact q_ret (v := .slice _ _ _) rfl rfl ⟨_, rfl, H.newB (by rw [Pk.int_2 (by omega) (by omega)]; simp [Pk.len_le]) (by rw [Pk.int_2 (by omega) (by omega)]; simp) hc3 hd3⟩

theorem refInt4 {S : Nat → Prop} {v : Value} {b : List UInt8} (n : Int) (w : World) (hb : Bs w S v b) (hn : -9223372036854775808 ≤ n ∧ n ≤ 9223372036854775807) (hl : b.length ≤ 500000000000) (hu : 65536 ≤ n ∧ n < 4294967296) :
  Calls Tryz.prog 47 [v, .int .i64 n].toArray w (Ret (NewB 5 w (b ++ Pk.int (Pk.toU n)))) := by
 have hcast := Pk.toU_cast n
 have hb0 := hb
 obtain ⟨A, c, rfl, _, _, _⟩ := hb.op
 refine k_enter (l := [_, _]) Tryz.func47 rfl rfl ?_
 have H := St.start nT w
 refine k_seq (k_region (sAs rfl rfl rfl rfl (l_nil (k_seq (k_region (sMs rfl rfl rfl rfl (sC rfl rfl rfl Tryz.func10 rfl rfl rfl (copyBytes _ b _ (H.bs hb0) (by omega)) ?_)))))))
 rintro _ W ⟨A0, c0, rfl, hc0, hd0, hn⟩
 replace H := H.new hn
 clear hn
 refine sAs rfl rfl rfl rfl (l_nil (k_seq (k_seq (k_region (sMi rfl rfl rfl rfl (sR rfl rfl (d_ge rfl rfl rfl) (sR rfl rfl (mv_bx (c := true) rfl rfl ((by first | (simp; done) | (simp; omega)))) ?_)))))))
 refine s_run (w_g rfl rfl rfl rfl) rfl (mv_i rfl rfl) (s_run (w_g rfl rfl rfl rfl) rfl (d_lt rfl rfl rfl) (sR rfl rfl (d_pickT rfl rfl rfl) (l_nil (k_condF rfl (by first | (simp; done) | (simp; omega)) ?_))))
 refine k_skip (k_seq (k_seq (k_region (sMi rfl rfl rfl rfl (sR rfl rfl (d_ge rfl rfl rfl) (sR rfl rfl (mv_bx (c := true) rfl rfl ((by first | (simp; done) | (simp; omega)))) ?_))))))
 refine s_run (w_g rfl rfl rfl rfl) rfl (mv_i rfl rfl) (s_run (w_g rfl rfl rfl rfl) rfl (d_lt rfl rfl rfl) (sR rfl rfl (d_pickT rfl rfl rfl) (l_nil (k_condF rfl (by first | (simp; done) | (simp; omega)) ?_))))
 refine k_skip (k_seq (k_seq (k_region (sMi rfl rfl rfl rfl (sR rfl rfl (d_ge rfl rfl rfl) (sR rfl rfl (mv_bx (c := true) rfl rfl ((by first | (simp; done) | (simp; omega)))) ?_))))))
 refine s_run (w_g rfl rfl rfl rfl) rfl (mv_i rfl rfl) (s_run (w_g rfl rfl rfl rfl) rfl (d_lt rfl rfl rfl) (sR rfl rfl (d_pickT rfl rfl rfl) (l_nil (k_condT rfl (by first | (simp; done) | (simp; omega)) ?_))))
 refine k_seq (k_region (sMs rfl rfl rfl rfl (s_eff (e_bsl (xs := [.const (.int .u8 254)]) (vals := [.int .u8 _]) (vs := [.int .u8 _]) (w_none rfl) rfl rfl rfl rfl rfl rfl tu35 ts5 ty5 rfl rfl rfl H ?_))))
 clear H; intro g7_1 W H
 refine s_eff (e_app (w_none rfl) rfl rfl tu35 tx5 rfl rfl rfl H (rd_blk H.blk rfl) (rfl) (by omega) rfl ?_)
 clear H; intro A1 c1 W hc1 hd1 H
 replace H := H.drop
 refine sMi rfl rfl rfl rfl (sC rfl rfl rfl Tryz.func86 rfl rfl rfl (refLow n 4 _ _ rfl (by omega)) ?_)
 rintro _ W ⟨A2, c2, rfl, hc2, hd2, hn⟩
 replace H := H.new hn
 clear hn
 refine s_eff (e_app (w_none rfl) rfl rfl tu35 tx5 rfl rfl rfl H (H.rowrd (A := A2)) (all_u8L _) (by simp [Pk.len_le]; omega) rfl ?_)
 clear H; intro A3 c3 W hc3 hd3 H
 refine sAs rfl rfl rfl rfl (l_nil (k_ret ?_))
 repeat (first | refine r_then ?_ | refine r_blk ?_)
 exact q_ret (v := .slice _ _ _) rfl rfl ⟨_, rfl, H.newB (by rw [Pk.int_4 (by omega) (by omega)]; simp [Pk.len_le]) (by rw [Pk.int_4 (by omega) (by omega)]; simp) hc3 hd3⟩

theorem refInt8 {S : Nat → Prop} {v : Value} {b : List UInt8} (n : Int) (w : World) (hb : Bs w S v b) (hn : -9223372036854775808 ≤ n ∧ n ≤ 9223372036854775807) (hl : b.length ≤ 500000000000) (hu : 4294967296 ≤ n) :
  Calls Tryz.prog 47 [v, .int .i64 n].toArray w (Ret (NewB 5 w (b ++ Pk.int (Pk.toU n)))) := by
 have hcast := Pk.toU_cast n
 have hb0 := hb
 obtain ⟨A, c, rfl, _, _, _⟩ := hb.op
 refine k_enter (l := [_, _]) Tryz.func47 rfl rfl ?_
 have H := St.start nT w
 refine k_seq (k_region (sAs rfl rfl rfl rfl (l_nil (k_seq (k_region (sMs rfl rfl rfl rfl (sC rfl rfl rfl Tryz.func10 rfl rfl rfl (copyBytes _ b _ (H.bs hb0) (by omega)) ?_)))))))
 rintro _ W ⟨A0, c0, rfl, hc0, hd0, hn⟩
 replace H := H.new hn
 clear hn
 refine sAs rfl rfl rfl rfl (l_nil (k_seq (k_seq (k_region (sMi rfl rfl rfl rfl (sR rfl rfl (d_ge rfl rfl rfl) (sR rfl rfl (mv_bx (c := true) rfl rfl ((by first | (simp; done) | (simp; omega)))) ?_)))))))
 refine s_run (w_g rfl rfl rfl rfl) rfl (mv_i rfl rfl) (s_run (w_g rfl rfl rfl rfl) rfl (d_lt rfl rfl rfl) (sR rfl rfl (d_pickT rfl rfl rfl) (l_nil (k_condF rfl (by first | (simp; done) | (simp; omega)) ?_))))
 refine k_skip (k_seq (k_seq (k_region (sMi rfl rfl rfl rfl (sR rfl rfl (d_ge rfl rfl rfl) (sR rfl rfl (mv_bx (c := true) rfl rfl ((by first | (simp; done) | (simp; omega)))) ?_))))))
 refine s_run (w_g rfl rfl rfl rfl) rfl (mv_i rfl rfl) (s_run (w_g rfl rfl rfl rfl) rfl (d_lt rfl rfl rfl) (sR rfl rfl (d_pickT rfl rfl rfl) (l_nil (k_condF rfl (by first | (simp; done) | (simp; omega)) ?_))))
 refine k_skip (k_seq (k_seq (k_region (sMi rfl rfl rfl rfl (sR rfl rfl (d_ge rfl rfl rfl) (sR rfl rfl (mv_bx (c := true) rfl rfl ((by first | (simp; done) | (simp; omega)))) ?_))))))
 refine s_run (w_g rfl rfl rfl rfl) rfl (mv_i rfl rfl) (s_run (w_g rfl rfl rfl rfl) rfl (d_lt rfl rfl rfl) (sR rfl rfl (d_pickT rfl rfl rfl) (l_nil (k_condF rfl (by first | (simp; done) | (simp; omega)) ?_))))
 refine k_skip (k_seq (k_region (sMs rfl rfl rfl rfl (s_eff (e_bsl (xs := [.const (.int .u8 255)]) (vals := [.int .u8 _]) (vs := [.int .u8 _]) (w_none rfl) rfl rfl rfl rfl rfl rfl tu35 ts5 ty5 rfl rfl rfl H ?_)))))
 clear H; intro g8_1 W H
 refine s_eff (e_app (w_none rfl) rfl rfl tu35 tx5 rfl rfl rfl H (rd_blk H.blk rfl) (rfl) (by omega) rfl ?_)
 clear H; intro A1 c1 W hc1 hd1 H
 replace H := H.drop
 refine sMi rfl rfl rfl rfl (sC rfl rfl rfl Tryz.func86 rfl rfl rfl (refLow n 8 _ _ rfl (by omega)) ?_)
 rintro _ W ⟨A2, c2, rfl, hc2, hd2, hn⟩
 replace H := H.new hn
 clear hn
 refine s_eff (e_app (w_none rfl) rfl rfl tu35 tx5 rfl rfl rfl H (H.rowrd (A := A2)) (all_u8L _) (by simp [Pk.len_le]; omega) rfl ?_)
 clear H; intro A3 c3 W hc3 hd3 H
 refine sAs rfl rfl rfl rfl (l_nil (k_ret ?_))
 repeat (first | refine r_then ?_ | refine r_blk ?_)
 exact q_ret (v := .slice _ _ _) rfl rfl ⟨_, rfl, H.newB (by rw [Pk.int_8 (by omega)]; simp [Pk.len_le]) (by rw [Pk.int_8 (by omega)]; simp) hc3 hd3⟩

theorem refIntN {S : Nat → Prop} {v : Value} {b : List UInt8} (n : Int) (w : World) (hb : Bs w S v b) (hn : -9223372036854775808 ≤ n ∧ n ≤ 9223372036854775807) (hl : b.length ≤ 500000000000) (hu : n < 0) :
  Calls Tryz.prog 47 [v, .int .i64 n].toArray w (Ret (NewB 5 w (b ++ Pk.int (Pk.toU n)))) := by
 have hcast := Pk.toU_cast n
 have hb0 := hb
 obtain ⟨A, c, rfl, _, _, _⟩ := hb.op
 refine k_enter (l := [_, _]) Tryz.func47 rfl rfl ?_
 have H := St.start nT w
 refine k_seq (k_region (sAs rfl rfl rfl rfl (l_nil (k_seq (k_region (sMs rfl rfl rfl rfl (sC rfl rfl rfl Tryz.func10 rfl rfl rfl (copyBytes _ b _ (H.bs hb0) (by omega)) ?_)))))))
 rintro _ W ⟨A0, c0, rfl, hc0, hd0, hn⟩
 replace H := H.new hn
 clear hn
 refine sAs rfl rfl rfl rfl (l_nil (k_seq (k_seq (k_region (sMi rfl rfl rfl rfl (sR rfl rfl (d_ge rfl rfl rfl) (sR rfl rfl (mv_bx (c := false) rfl rfl ((by first | (simp; done) | (simp; omega)))) ?_)))))))
 refine s_skip (w_gno rfl rfl rfl rfl rfl) rfl (s_skip (w_gno rfl rfl rfl rfl rfl) rfl (sR rfl rfl (d_pickF rfl rfl rfl) (l_nil (k_condF rfl (by first | (simp; done) | (simp; omega)) ?_))))
 refine k_skip (k_seq (k_seq (k_region (sMi rfl rfl rfl rfl (sR rfl rfl (d_ge rfl rfl rfl) (sR rfl rfl (mv_bx (c := false) rfl rfl ((by first | (simp; done) | (simp; omega)))) ?_))))))
 refine s_skip (w_gno rfl rfl rfl rfl rfl) rfl (s_skip (w_gno rfl rfl rfl rfl rfl) rfl (sR rfl rfl (d_pickF rfl rfl rfl) (l_nil (k_condF rfl (by first | (simp; done) | (simp; omega)) ?_))))
 refine k_skip (k_seq (k_seq (k_region (sMi rfl rfl rfl rfl (sR rfl rfl (d_ge rfl rfl rfl) (sR rfl rfl (mv_bx (c := false) rfl rfl ((by first | (simp; done) | (simp; omega)))) ?_))))))
 refine s_skip (w_gno rfl rfl rfl rfl rfl) rfl (s_skip (w_gno rfl rfl rfl rfl rfl) rfl (sR rfl rfl (d_pickF rfl rfl rfl) (l_nil (k_condF rfl (by first | (simp; done) | (simp; omega)) ?_))))
 refine k_skip (k_seq (k_region (sMs rfl rfl rfl rfl (s_eff (e_bsl (xs := [.const (.int .u8 255)]) (vals := [.int .u8 _]) (vs := [.int .u8 _]) (w_none rfl) rfl rfl rfl rfl rfl rfl tu35 ts5 ty5 rfl rfl rfl H ?_)))))
 clear H; intro g8_1 W H
 refine s_eff (e_app (w_none rfl) rfl rfl tu35 tx5 rfl rfl rfl H (rd_blk H.blk rfl) (rfl) (by omega) rfl ?_)
 clear H; intro A1 c1 W hc1 hd1 H
 replace H := H.drop
 refine sMi rfl rfl rfl rfl (sC rfl rfl rfl Tryz.func86 rfl rfl rfl (refLow n 8 _ _ rfl (by omega)) ?_)
 rintro _ W ⟨A2, c2, rfl, hc2, hd2, hn⟩
 replace H := H.new hn
 clear hn
 refine s_eff (e_app (w_none rfl) rfl rfl tu35 tx5 rfl rfl rfl H (H.rowrd (A := A2)) (all_u8L _) (by simp [Pk.len_le]; omega) rfl ?_)
 clear H; intro A3 c3 W hc3 hd3 H
 refine sAs rfl rfl rfl rfl (l_nil (k_ret ?_))
 repeat (first | refine r_then ?_ | refine r_blk ?_)
 exact q_ret (v := .slice _ _ _) rfl rfl ⟨_, rfl, H.newB (by rw [Pk.int_8 (by omega)]; simp [Pk.len_le]) (by rw [Pk.int_8 (by omega)]; simp) hc3 hd3⟩

theorem refInt {S : Nat → Prop} {v : Value} {b : List UInt8} (n : Int) (w : World) (hb : Bs w S v b) (hn : -9223372036854775808 ≤ n ∧ n ≤ 9223372036854775807) (hl : b.length ≤ 500000000000) :
  Calls Tryz.prog 47 [v, .int .i64 n].toArray w (Ret (NewB 5 w (b ++ Pk.int (Pk.toU n)))) := by
 rcases Int.lt_or_le n 0 with h | h
 ·exact refIntN n w hb hn hl h
 rcases Int.lt_or_le n 253 with h1 | h1
 ·exact refInt1 n w hb hn hl ⟨h, h1⟩
 rcases Int.lt_or_le n 65536 with h2 | h2
 ·exact refInt2 n w hb hn hl ⟨h1, h2⟩
 rcases Int.lt_or_le n 4294967296 with h4 | h4
 ·exact refInt4 n w hb hn hl ⟨h2, h4⟩
 ·exact refInt8 n w hb hn hl h4

theorem refBlob {S S1 : Nat → Prop} {v u : Value} {b p : List UInt8} (w : World) (hb : Bs w S v b) (hl : b.length ≤ 400000000000) (hp : Bs w S1 u p) (hl2 : p.length ≤ 400000000000) :
  Calls Tryz.prog 48 [v, u].toArray w (Ret (NewB 5 w (b ++ (Pk.int p.length ++ p)))) := by
 have hb0 := hb
 obtain ⟨A, c, rfl, _, _, hb⟩ := hb.op
 have hp0 := hp
 obtain ⟨B, d, rfl, _, _, hp⟩ := hp.op
 have hi := Pk.len_int p.length
 refine k_enter (l := [_, _]) Tryz.func48 rfl rfl ?_
 have H := St.start nT w
 refine k_seq (k_region (sAs rfl rfl rfl rfl (l_nil (k_seq (k_region (sMs rfl rfl rfl rfl (sMs rfl rfl rfl rfl (sR rfl rfl (d_len rfl rfl tu35) (sC rfl rfl rfl Tryz.func47 rfl rfl rfl (refInt _ _ (H.bs hb0) (by omega) (by omega)) ?_)))))))))
 rw [Pk.toU_pos _ (by omega) (by omega), Int.toNat_natCast]
 rintro _ W ⟨A1, c1, rfl, hc1, hd1, hn⟩
 replace H := H.new hn
 clear hn
 refine sMs rfl rfl rfl rfl (s_eff (e_app (w_none rfl) rfl rfl tu35 tx5 rfl rfl rfl H (H.rd hp) (all_u8L _) (by rw [List.length_append]; omega) rfl ?_))
 clear H; intro A2 c2 W hc2 hd2 H
 refine sAs rfl rfl rfl rfl (l_nil (k_ret ?_))
 repeat (first | refine r_then ?_ | refine r_blk ?_)
 exact q_ret (v := .slice _ _ _) rfl rfl ⟨_, rfl, H.newB (by simp; omega) (by simp) hc2 hd2⟩

theorem refHash {S : Nat → Prop} {v : Value} {b h : List UInt8} (w : World) (hb : Bs w S v b) (hl : b.length ≤ 400000000000) (hh : h.length = 32) :
  Calls Tryz.prog 50 [v, .agg (h.map u8v).toArray].toArray w (Ret (NewB 5 w (b ++ h))) := by
 have hb0 := hb
 obtain ⟨A, c, rfl, _, _, hb⟩ := hb.op
 refine k_enter (l := [_, _]) Tryz.func50 rfl rfl ?_
 have H := St.start nT w
 refine k_seq (k_region (s_eff (e_box (w_none rfl) rfl rfl rfl rfl H ?_)))
 clear H; intro g0_0 W H
 refine sAs rfl rfl rfl rfl (l_nil (k_seq (k_draw [(0, true), (2, true), (1, false), (3, false), (4, true)] _ (by kernel_rfl) (by kernel_rfl) H (.refl _) ?_)))
 clear H; intro W H
 refine cR rfl rfl rfl (fun W H => mv_s rfl rfl) (cR rfl rfl rfl (fun W H => d_arrA rfl rfl tu29 ts5) (c_eff rfl (e_call (w_none rfl) rfl rfl Tryz.func10 rfl rfl rfl (copyBytes _ b _ (H.bs hb0) (by omega)) ?_)))
 rintro _ W ⟨A1, c1, rfl, hc1, hd1, hn⟩
 replace H := H.new hn
 clear hn
 refine ⟨H.sub (by repeat (first | exact .refl _ | exact List.nil_sublist _ | refine .cons_cons _ ?_ | refine .cons _ ?_)), ?_⟩
 refine c_eff rfl (e_app (w_none rfl) rfl rfl tu35 tx5 rfl rfl rfl H (rd_blk H.blk (by simp; omega)) (all_u8L _) (by omega) rfl ?_)
 clear H; intro A2 c2 W hc2 hd2 H
 refine ⟨H.sub (by repeat (first | exact .refl _ | exact List.nil_sublist _ | refine .cons_cons _ ?_ | refine .cons _ ?_)), ?_⟩
 refine cR rfl rfl rfl (fun W H => as_s rfl rfl) (c_nil (k_ret ?_))
 repeat (first | refine r_then ?_ | refine r_blk ?_)
 exact q_ret (v := .slice _ _ _) rfl rfl ⟨_, rfl, H.newB (by simp; omega) (by simp) hc2 hd2⟩

end Go.Proofs.YteakkflhndifbaaGreatDoor
