/- Contracts of the small helpers over lists of bytes. -/
import Derived.Test.YtdlbighnmbjofaaDoorProg
import Derived.Test.YtdlbighnmbjofaaDoorBase
namespace Go.Proofs.YtdlbighnmbjofaaDoor
open Go Go.RowKit

theorem info_u8 : (Tryd.prog.info? 5).map (fun i => (i.zero, i.size, i.bytes)) = some (some (.int .u8 0), 1, 1) := by kernel_rfl

/-- A row of bytes of the call's own. -/
def OwnB (w : World) (base : Nat) (v : Value) (l : List UInt8) : Prop := w.ownsRow base 5 1 v l.length (l.map u8v)

section
variable {w w' : World} {base : Nat} {v : Value} {l : List UInt8}
theorem OwnB.nil (w : World) (base : Nat) : OwnB w base (.slice none 0 0) [] := World.ownsRow_nil _ _ _ _
theorem OwnB.form (h : OwnB w base v l) : ∃ A c, v = .slice A l.length c ∧ l.length ≤ c ∧ c ≤ maxLen := by
  rcases h.2 with ⟨rfl, h0⟩ | ⟨g, cap, cur, hv, _, _, h1, h2, _⟩
  · exact ⟨none, 0, by rw [h0], by omega, by simp [maxLen]⟩
  · exact ⟨_, cap, hv, h1, h2⟩
theorem OwnB.bs (h : OwnB w base v l) : Bs w (base ≤ ·) v l := by
  obtain ⟨A, c, rfl, h1, h2⟩ := h.form
  exact ⟨A, c, rfl, h1, h2, Rd.of_own h⟩
theorem OwnB.keep (h : OwnB w base v l) (hk : ∀ g, v.ownBlock = some g → w'.heap[g]? = w.heap[g]?) : OwnB w' base v l := ownsRow_keep h hk
theorem OwnB.lt (h : OwnB w base v l) : ∀ g, v.ownBlock = some g → base ≤ g ∧ g < w.heap.size := World.ownsRow.lt h
theorem OwnB.fr {T : Nat → Prop} (h : OwnB w base v l) (hg : Fr T w w') (hne : ∀ g, v.ownBlock = some g → ¬ T g) : OwnB w' base v l :=
  h.keep fun g e => hg.block g (h.lt g e).2 (hne g e)
theorem OwnB.below {B : Nat} (h : OwnB w base v l) (hb : Below B w w') (hB : w.heap.size ≤ B) : OwnB w' base v l :=
  h.keep fun g e => hb.block g (by have := (h.lt g e).2; omega)
theorem OwnB.alloc (h : OwnB w base v l) (o : Obj) : OwnB (w.alloc o) base v l := World.ownsRow.alloc h o
theorem OwnB.low {base' : Nat} (h : OwnB w base v l) (hk : base' ≤ base) : OwnB w base' v l := ownsRow_base h hk
end

/-- append onto a row of bytes of the call's own. -/
theorem app_b {w : World} {ops : Array Oper} {rest : List Oper} {o : Oper} {a : Act} {Q : Exit → Act → World → Prop} (hgd : o.guard = none) (s x : Operand)
    (ho : o.op = .call { callee := .builtin .append, args := #[s, x], argTypes := #[22, 22] })
    (base : Nat) (v : Value) (l : List UInt8) (hs : a.eval s = v) (hown : OwnB w base v l)
    (S : Nat → Prop) (A : Option Addr) (m c : Nat) (r : List UInt8) (hx : a.eval x = .slice A m c) (hr : Rd w S 1 A m (r.map u8v))
    (hlen : l.length + m ≤ 1099511627776) (hbase : base ≤ w.heap.size)
    (h : ∀ v' w', OwnB w' base v' (l ++ r) → w.grownBy w' v.ownBlock → (v'.ownBlock = v.ownBlock ∨ v'.ownBlock = some w.heap.size) → wpList Tryd.prog ops Q rest (a.put o.dst v') w') :
    wpList Tryd.prog ops Q (o :: rest) a w := by
  obtain ⟨i0, hi, hz0, hz1, hz2⟩ := info_parts info_u8
  refine wpList_plain hgd fun _ hK => wp_app w s x _ ho base _ i0 _ 1 1 Tryd.underlying22 hi hz0 hz1 hz2 rfl (by omega) v l.length _ hs hown S A m c (r.map u8v) hx hr (one_u8 r) (by simp only [maxLen]; omega) (by omega) hbase fun v' w' h2 h3 h4 => hK _ _ (h v' w' ?_ h3 h4)
  have hm : r.length = m := by simpa using hr.1
  subst hm
  unfold OwnB
  simpa using h2

/-- One byte in a new block. -/
theorem Rd.one {w : World} (b : UInt8) (t : TypeId) : Rd (w.alloc (.cells #[.int .u8 (b.toNat : Int)] t)) (w.heap.size ≤ ·) 1 (some ⟨w.heap.size, 0, none⟩) 1 ([b].map u8v) := by
  refine ⟨rfl, fun _ => ⟨_, 0, rfl, ⟨by simp, Nat.le_refl _⟩, fun j u hu => ?_⟩⟩
  rw [cell_of_row _ _ _ _ _ _ (heap_alloc_new w _)]
  rcases j with _ | j
  · simpa using hu
  · simp at hu

/-- What a function gives that hands a new row of bytes back. -/
def RetB (w : World) (l : List UInt8) (e : Ending) (w' : World) : Prop := ∃ v, e = .returned v ∧ OwnB w' w.heap.size v l ∧ Below w.heap.size w w'
/-- A bool, nothing written. -/
def RetBool (w : World) (b : Bool) (e : Ending) (w' : World) : Prop := e = .returned (.bool b) ∧ ∃ k, w' = w.drewN k

theorem ret_bool {a b : Bool} (h : a = b) : Ending.returned (.bool a) = .returned (.bool b) := by rw [h]

set_option maxHeartbeats 400000 in
theorem sameBytes {S S' : Nat → Prop} (v u : Value) (l r : List UInt8) (w : World) (ha : Bs w S v l) (hb : Bs w S' u r) :
    Calls Tryd.prog 23 #[v, u] w (RetBool w (decide (l = r))) := by
  have hn := ha.len
  have hm := hb.len
  obtain ⟨A, c, rfl, _, _, ha⟩ := ha
  obtain ⟨B, d, rfl, _, _, hb⟩ := hb
  have HA := Lib.hid ha
  have HB := Lib.hid hb
  clear ha hb
  by_cases hnm : l.length = r.length
  · have HL := Lib.hid hnm
    rw [← hnm] at HB ⊢
    clear hnm hm
    generalize hN : l.length = n at *
    have HN := Lib.hid hN
    clear hN
    go_enter Tryd.func23, Tryd.ntmps23
    go_wp2
    go_loopw [5] (fun i wr => ∃ k : Nat, ∃ q : Nat, k ≤ n ∧ i = .int .i64 k ∧ wr = w.drewN q ∧ l.take k = r.take k) (fun i _ => n - (intOf i).toNat)
    case atStart => exact ⟨0, 0, Nat.zero_le _, rfl, rfl, rfl⟩
    case round =>
      obtain ⟨k, q, hk, rfl, rfl, ht⟩ := hrel
      have HT := Lib.hid ht
      clear ht
      by_cases hlt : k < n
      · obtain ⟨g, o, x, rfl, _, hx, hca⟩ := HA.out.byte hlt
        obtain ⟨g', o', y, rfl, _, hy, hcb⟩ := HB.out.byte hlt
        have HX := Lib.hid hx
        have HY := Lib.hid hy
        clear hx hy
        by_cases hxy : x = y
        · have hb1 : ((x.toNat : Int) == (y.toNat : Int)) = true := by rw [hxy]; simp
          have HXY := Lib.hid hxy
          clear hxy
          go_wp2
          go_quiet (fail)
          go_wp2
          go_roundw
          case rel =>
            refine ⟨k + 1, _, by omega, by go_num, rfl, ?_⟩
            rw [List.take_add_one, List.take_add_one, HT.out, HX.out, HY.out, HXY.out]
          case measure => simp [intOf]; omega
        · have hb1 : ((x.toNat : Int) == (y.toNat : Int)) = false := by
            rw [beq_eq_false_iff_ne]
            intro h
            exact hxy (UInt8.toNat_inj.1 (by omega))
          have HD : Hid (l ≠ r) := fun h => hxy (by have h1 := HX.out; rw [h, HY.out] at h1; exact (Option.some.inj h1).symm)
          clear hxy
          go_wp2
          go_quiet (fail)
          go_wp2
          go_ret
          exact ⟨ret_bool (by have := HD.out; simp [this]), _, World.drewN_drewN ..⟩
      · have hlb : decide ((k : Int) < n) = false := by simp; omega
        have HD : Hid (l = r) := by
          have h1 := HT.out
          have e1 : l.length ≤ k := by have := HN.out; omega
          have e2 : r.length ≤ k := by have := HL.out; omega
          rwa [List.take_of_length_le e1, List.take_of_length_le e2] at h1
        go_wp2
        go_ret
        exact ⟨ret_bool (by have := HD.out; simp [this]), _, rfl⟩
  · have hnb : ((l.length : Int) == (r.length : Int)) = false := by simp; omega
    have hne : ((l.length : Int) != (r.length : Int)) = true := by simp; omega
    have HD : Hid (l ≠ r) := fun h => hnm (by rw [h])
    clear hnm
    go_enter Tryd.func23, Tryd.ntmps23
    go_wp2
    go_ret
    exact ⟨ret_bool (by have := HD.out; simp [this]), 0, rfl⟩

theorem markBytes (i : Int) (w : World) (h0 : 0 ≤ i) (h1 : i ≤ 1000000000000000) :
    Calls Tryd.prog 20 #[.int .i64 i] w fun e w' => e = .returned (u8v (UInt8.ofNat (201 + 7 * i.toNat))) ∧ w = w' := by
  go_enter Tryd.func20, Tryd.ntmps20
  go_wp2
  go_ret
  exact ⟨ret_int (u8_of (by omega)), rfl⟩

set_option maxHeartbeats 400000 in
theorem copyBytes {S : Nat → Prop} (v : Value) (l : List UInt8) (w : World) (ha : Bs w S v l) (hl : l.length ≤ 1000000000000) :
    Calls Tryd.prog 16 #[v] w (RetB w l) := by
  obtain ⟨A, c, rfl, _, _, ha⟩ := ha
  have HA := Lib.hid ha
  clear ha
  generalize hN : l.length = n at *
  have HN := Lib.hid hN
  clear hN
  go_enter Tryd.func16, Tryd.ntmps16
  go_wp2
  go_loopw [3, 4] (fun v i wr => ∃ k : Nat, k ≤ n ∧ i = .int .i64 k ∧ OwnB wr w.heap.size v (l.take k) ∧ Below w.heap.size w wr) (fun _ i _ => n - (intOf i).toNat)
  case atStart => exact ⟨0, Nat.zero_le _, rfl, OwnB.nil _ _, Below.refl _ _⟩
  case round =>
    obtain ⟨k, hk, rfl, hown, hb⟩ := hrel
    by_cases hlt : k < n
    · obtain ⟨g, o, x, rfl, _, hx, hca⟩ := (HA.out.below hb (Nat.le_refl _)).byte hlt
      have HX := Lib.hid hx
      clear hx
      have hlen : (l.take k).length + 1 ≤ 1099511627776 := by rw [List.length_take]; omega
      have hsz := hb.size
      go_wp2_with (at_builtin; go_must (refine app_b rfl (.tmp 11) (.tmp 16) rfl w.heap.size _ (l.take k) rfl (hown.alloc _) (wr.heap.size ≤ ·) (some ⟨wr.heap.size, 0, none⟩) 1 1 [x] rfl (Rd.one x _) hlen (by simp; omega) ?_); intro v' w1 hown' hgrow hat)
      have hb1 : Below w.heap.size w w1 := by
        refine (hb.alloc hsz _).grown hgrow (by simp; omega) (fun g hg => (hown.lt g hg).1)
      go_roundw
      case rel =>
        refine ⟨k + 1, by omega, by go_num, ?_, hb1⟩
        rw [List.take_add_one, HX.out]
        exact hown'
      case measure => simp [intOf]; omega
    · have hlb : decide ((k : Int) < n) = false := by simp; omega
      have HE : Hid (l.take k = l) := List.take_of_length_le (by have := HN.out; omega)
      go_wp2
      go_ret
      exact ⟨_, rfl, by rw [HE.out] at hown; exact hown, hb⟩

/-- The first k marks. -/
def marks (k : Nat) : List UInt8 := (List.range k).map fun i => UInt8.ofNat (201 + 7 * i)
theorem marks_succ (k : Nat) : marks (k + 1) = marks k ++ [UInt8.ofNat (201 + 7 * k)] := by simp [marks, List.range_succ]
theorem marks_len (k : Nat) : (marks k).length = k := by simp [marks]

set_option maxHeartbeats 400000 in
theorem lentBytes {S : Nat → Prop} (v : Value) (l : List UInt8) (w : World) (ha : Bs w S v l) (hl : l.length ≤ 1000000000000) :
    Calls Tryd.prog 10 #[v] w (RetB w (l ++ marks 5)) := by
  go_enter Tryd.func10, Tryd.ntmps10
  go_wp2_with fail
  refine (copyBytes _ l _ ha hl).mono ?_
  rintro e w1 ⟨v1, rfl, ho1, hb1⟩
  go_wp2_with fail
  go_loopw [3, 4] (fun v i wr => ∃ k : Nat, k ≤ 5 ∧ i = .int .i64 k ∧ OwnB wr w.heap.size v (l ++ marks k) ∧ Below w.heap.size w wr) (fun _ i _ => 5 - (intOf i).toNat)
  case atStart => exact ⟨0, by omega, rfl, by simpa [marks] using ho1, hb1⟩
  case round =>
    clear ho1 hb1
    obtain ⟨k, hk, rfl, hown, hb⟩ := hrel
    by_cases hlt : k < 5
    · have hsz := hb.size
      have hlen : (l ++ marks k).length + 1 ≤ 1099511627776 := by rw [List.length_append, marks_len]; omega
      go_wp2_with fail
      refine (markBytes _ _ (by omega) (by omega)).mono ?_
      rintro e w2 ⟨rfl, rfl⟩
      rw [Int.toNat_natCast]
      generalize hx : UInt8.ofNat (201 + 7 * k) = x
      have HX := Lib.hid hx
      clear hx
      go_wp2_with (at_builtin; go_must (refine app_b rfl (.tmp 11) (.tmp 14) rfl w.heap.size _ (l ++ marks k) rfl (hown.alloc _) (wr.heap.size ≤ ·) (some ⟨wr.heap.size, 0, none⟩) 1 1 [x] rfl (Rd.one x _) hlen (by simp; omega) ?_); intro v' w1 hown' hgrow hat)
      have hb1 : Below w.heap.size w w1 := (hb.alloc hsz _).grown hgrow (by simp; omega) (fun g hg => (hown.lt g hg).1)
      go_roundw
      case rel =>
        refine ⟨k + 1, by omega, by go_num, ?_, hb1⟩
        rw [marks_succ, HX.out, ← List.append_assoc]
        exact hown'
      case measure => simp [intOf]; omega
    · obtain rfl : k = 5 := by omega
      go_wp2
      go_ret
      exact ⟨_, rfl, hown, hb⟩

theorem Rd.blen {w : World} {S : Nat → Prop} {A : Option Addr} {n : Nat} {l : List UInt8} (h : Rd w S 1 A n (l.map u8v)) : l.length = n := by simpa using h.1

set_option maxHeartbeats 800000 in
theorem keptBytes {S S' : Nat → Prop} (v u : Value) (a l : List UInt8) (w : World) (ha : Bs w S v a) (hb : Bs w S' u l) (hl : l.length ≤ 1000000000000) :
    Calls Tryd.prog 15 #[v, u] w fun e w' => e = .returned (.bool (decide (a = l ++ marks 5))) ∧ Below w.heap.size w w' := by
  have hn := ha.len
  obtain ⟨A, c, rfl, hc, hc2, ha⟩ := ha.op
  obtain ⟨B, d, rfl, hd, hd2, hb⟩ := hb.op
  have HA := Lib.hid ha
  have HB := Lib.hid hb
  clear ha hb
  by_cases hnm : a.length = l.length + 5
  · have hbn : ((a.length : Int) != (l.length : Int) + 5) = false := by simp; omega
    have hla : l.length ≤ a.length := by omega
    have hlc : l.length ≤ c := by omega
    have hcn : ¬ c = l.length := by omega
    have hs1 : Bs w S (.slice A l.length c) (a.take l.length) := Bs.mk (by
      have := HA.out.cutv (a := 0) (m := l.length) (by omega) (A' := A) (fun _ => by cases A <;> simp [Addr.add])
      simpa using this) (by omega) hc2
    have hs2 : Bs w S' (.slice B l.length d) l := Bs.mk HB.out hd hd2
    have HN := Lib.hid hnm
    clear hnm
    by_cases ht : a.take l.length = l
    · have hdt : decide (a.take l.length = l) = true := by simp [ht]
      have HT := Lib.hid ht
      clear ht
      go_enter Tryd.func15, Tryd.ntmps15
      go_wp2_with fail
      refine (sameBytes _ _ _ _ _ hs1 hs2).mono ?_
      rintro e w' ⟨rfl, q, rfl⟩
      go_wp2_with fail
      clear hs1 hs2
      go_loopw [5, 6] (fun v i wr => ∃ k : Nat, k ≤ 5 ∧ i = .int .i64 k ∧ OwnB wr w.heap.size v (marks k) ∧ Below w.heap.size w wr) (fun _ i _ => 5 - (intOf i).toNat)
      case atStart => exact ⟨0, by omega, rfl, OwnB.nil _ _, below_drewN' (Below.refl _ _) _⟩
      case round =>
        obtain ⟨k, hk, rfl, hown, hb⟩ := hrel
        by_cases hlt : k < 5
        · have hsz := hb.size
          have hlen : (marks k).length + 1 ≤ 1099511627776 := by rw [marks_len]; omega
          go_wp2_with fail
          refine (markBytes _ _ (by omega) (by omega)).mono ?_
          rintro e w2 ⟨rfl, rfl⟩
          rw [Int.toNat_natCast]
          generalize hx : UInt8.ofNat (201 + 7 * k) = x
          have HX := Lib.hid hx
          clear hx
          go_wp2_with (at_builtin; go_must (refine app_b rfl (.tmp 26) (.tmp 29) rfl w.heap.size _ (marks k) rfl (hown.alloc _) (wr.heap.size ≤ ·) (some ⟨wr.heap.size, 0, none⟩) 1 1 [x] rfl (Rd.one x _) hlen (by simp; omega) ?_); intro v' w1 hown' hgrow hat)
          have hb1 : Below w.heap.size w w1 := (hb.alloc hsz _).grown hgrow (by simp; omega) (fun g hg => (hown.lt g hg).1)
          go_roundw
          case rel =>
            refine ⟨k + 1, by omega, by go_num, ?_, hb1⟩
            rw [marks_succ, HX.out]
            exact hown'
          case measure => simp [intOf]; omega
        · obtain rfl : k = 5 := by omega
          have HR := (HA.out.below hb (Nat.le_refl _))
          have HR2 := Lib.hid HR
          clear HR
          go_wp2_with fail
          have hs1 : ∀ A', (0 < a.length - l.length → A' = A.map (·.add l.length)) → Bs wr S (.slice A' (a.length - l.length) (c - l.length)) (a.drop l.length) := fun A' h => Bs.mk (by
            have := HR2.out.cutv (a := l.length) (m := a.length - l.length) (by omega) h
            rwa [List.take_of_length_le (by simp)] at this) (by omega) (by omega)
          refine (sameBytes _ _ _ _ _ (hs1 _ (fun _ => rfl)) hown.bs).mono ?_
          rintro e w' ⟨rfl, q, rfl⟩
          go_wp2_with fail
          go_ret
          refine ⟨ret_bool ?_, below_drewN' hb _⟩
          rw [decide_eq_decide]
          have e := List.take_append_drop l.length a
          rw [HT.out] at e
          constructor
          · intro h
            rw [h] at e
            exact e.symm
          · intro h
            rw [h, List.drop_left]
    · have hdt : decide (a.take l.length = l) = false := by simp [ht]
      have HT := Lib.hid ht
      clear ht
      go_enter Tryd.func15, Tryd.ntmps15
      go_wp2_with fail
      refine (sameBytes _ _ _ _ _ hs1 hs2).mono ?_
      rintro e w' ⟨rfl, q, rfl⟩
      go_wp2_with fail
      go_ret
      refine ⟨ret_bool ?_, below_drewN' (Below.refl _ _) _⟩
      rw [eq_comm, decide_eq_false_iff_not]
      intro h
      exact HT.out (by rw [h]; simp)
  · have hbn : ((a.length : Int) != (l.length : Int) + 5) = true := by simp; omega
    have HN := Lib.hid hnm
    clear hnm
    go_enter Tryd.func15, Tryd.ntmps15
    go_wp2_with fail
    go_ret
    refine ⟨ret_bool ?_, Below.refl _ _⟩
    rw [eq_comm, decide_eq_false_iff_not]
    intro h
    exact HN.out (by rw [h]; simp [marks_len])
end Go.Proofs.YtdlbighnmbjofaaDoor
