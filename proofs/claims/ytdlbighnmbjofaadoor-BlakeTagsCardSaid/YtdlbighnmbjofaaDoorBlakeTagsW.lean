/- The statement BlakeTags, walked. -/
import Derived.Test.YtdlbighnmbjofaaDoorBlakeE
import Derived.Test.YtdlbighnmbjofaaDoorBlakeF
import Derived.Test.YtdlbighnmbjofaaDoorBlakeKeysW
import Derived.WalkLawsBesides
namespace Go.Proofs.YtdlbighnmbjofaaDoor
open Go Go.RowKit
attribute [local go_sem ↓] Go.wp_at_zero Go.wp_at_succ

/-- append onto a row of the call's own, at a step of a region that draws its order. -/
theorem step_app_b {w : World} {ops : Array Oper} {o : Oper} {a : Act} {K : Act → World → Prop} {Q : Exit → Act → World → Prop} {E : Prop} (hgd : o.guard = none) (s x : Operand)
    (ho : o.op = .call { callee := .builtin .append, args := #[s, x], argTypes := #[22, 22] })
    (base : Nat) (v : Value) (l : List UInt8) (hs : a.eval s = v) (hown : OwnB w base v l)
    (S : Nat → Prop) (A : Option Addr) (m c : Nat) (r : List UInt8) (hx : a.eval x = .slice A m c) (hr : Rd w S 1 A m (r.map u8v))
    (hlen : l.length + m ≤ 1099511627776) (hbase : base ≤ w.heap.size)
    (h : ∀ v' w', OwnB w' base v' (l ++ r) → w.grownBy w' v.ownBlock → (v'.ownBlock = v.ownBlock ∨ v'.ownBlock = some w.heap.size) → K (a.put o.dst v') w') :
    if Region.wanted o (yielded ops a.tmps) = true then Oper.wp Tryd.prog o a w K Q else E := by
  have hw : Region.wanted o (yielded ops a.tmps) = true := by simp [Region.wanted, hgd]
  rw [if_pos hw]
  obtain ⟨i0, hi, hz0, hz1, hz2⟩ := info_parts info_u8
  refine wp_app w s x _ ho base _ i0 _ 1 1 Tryd.underlying22 hi hz0 hz1 hz2 rfl (by omega) v l.length _ hs hown S A m c (r.map u8v) hx hr (one_u8 r) (by simp only [maxLen]; omega) (by omega) hbase fun v' w' h2 h3 h4 => h v' w' ?_ h3 h4
  have hm : r.length = m := by simpa using hr.1
  subst hm
  unfold OwnB
  simpa using h2

theorem SS.grown {wc W W' : World} {g : Nat} {s : List UInt8} {row : Option Nat} (h : SS wc g s W) (hg : g < wc.heap.size) (hgr : W.grownBy W' row) (hr : ∀ k, row = some k → wc.heap.size ≤ k) : SS wc g s W' :=
  ⟨h.1.grown hgr h.1.size hr, h.2.keep ((h.1.grown hgr h.1.size hr).block g hg |>.trans (h.1.block g hg).symm)⟩

/-- What lies in memory as the call begins, in every later world. -/
def LiesC (w : World) (S : Nat → Prop) (cv : Value) (c : List UInt8) : Prop := ∀ W, Below w.heap.size w W → Bs W S cv c ∧ Gl W

set_option maxRecDepth 100000 in
set_option maxHeartbeats 4000000 in
theorem tags_any {S : Nat → Prop} (a b : ByteArray) (cv : Value) (c : List UInt8) (w : World) (hc : Bs w S cv c) (hG : Gl w) :
    Calls Tryd.prog 5 #[.string a, .string b, cv] w (RetT w) := by
  have HL : Hid (LiesC w S cv c) := fun W hW => ⟨hc.below hW (Nat.le_refl _), hG.below hW (Nat.le_refl _)⟩
  have hcl := hc.len
  obtain ⟨Ac, cc, rfl, hcc, hcc2, hrc⟩ := hc.op
  have HRC := Lib.hid hrc
  have HG := Lib.hid hG
  clear hc hG hrc
  by_cases hbig : 4096 < max (max a.size b.size) c.length
  · have hb1 : (4096 : Int) < max (max (a.size : Int) (b.size : Int)) (c.length : Int) := by omega
    obtain ⟨m, hm, hm4⟩ : ∃ m : Int, (if (c.length : Int) > (if (b.size : Int) > (a.size : Int) then (b.size : Int) else (a.size : Int)) then (c.length : Int) else (if (b.size : Int) > (a.size : Int) then (b.size : Int) else (a.size : Int))) = m ∧ 4096 < m := ⟨_, rfl, by split <;> (try split) <;> omega⟩
    clear hbig
    go_enter Tryd.func5, Tryd.ntmps5
    go_wp2_with (first
      | (go_at_call 7; refine (works_any _ HG.out).mono ?_; rintro e w1 ⟨rfl, hb1⟩; have HB1 := Lib.hid hb1; clear hb1))
    all_goals
      go_ret
      exact ⟨rfl, HB1.out⟩
  · have hb1 : ¬ (4096 : Int) < max (max (a.size : Int) (b.size : Int)) (c.length : Int) := by omega
    have ha1 : a.size ≤ 4096 := by omega
    have hb2 : b.size ≤ 4096 := by omega
    have hc2 : c.length ≤ 4096 := by omega
    have HSA := Lib.hid (Bl.len_sum a.data.toList)
    have HSB := Lib.hid (Bl.len_sum b.data.toList)
    have kca := fun (W : World) => Lib.run_convert_string_bytes (P := Tryd.prog) W 9 22 5 a Tryd.underlying9 Tryd.underlying22 Tryd.underlying5
    have kcb := fun (W : World) => Lib.run_convert_string_bytes (P := Tryd.prog) W 9 22 5 b Tryd.underlying9 Tryd.underlying22 Tryd.underlying5
    have hsla : a.data.toList.length ≤ 1000000000000 := by simp; omega
    have hslb : b.data.toList.length ≤ 1000000000000 := by simp; omega
    go_enter Tryd.func5, Tryd.ntmps5
    go_upto_region 1 with (fail)
    go_cut [16] (fun v wx => v = .bool false ∧ wx = w)
    case first =>
      obtain ⟨m, hm, hm4⟩ : ∃ m : Int, (if (c.length : Int) > (if (b.size : Int) > (a.size : Int) then (b.size : Int) else (a.size : Int)) then (c.length : Int) else (if (b.size : Int) > (a.size : Int) then (b.size : Int) else (a.size : Int))) = m ∧ ¬ 4096 < m := ⟨_, rfl, by split <;> (try split) <;> omega⟩
      clear hbig
      go_wp2_with fail
      all_goals
        go_meet
        exact ⟨congrArg Value.bool (decide_eq_false (by omega)), rfl⟩
    case rest =>
      obtain ⟨rfl, rfl⟩ := hcut
      obtain ⟨w, rfl⟩ : ∃ w, w = wc := ⟨_, rfl⟩
      have HCA := Lib.hid (bytes_bs w a (by omega))
      go_upto_region 4 with (first
        | (go_at_call 8; refine (sum_any _ a.data.toList _ HCA.out hsla (HG.out.below (bytes_below w a) (Nat.le_refl _))).mono ?_; rintro e w1 ⟨rfl, hb1⟩; have HB1 := Lib.hid ((bytes_below w a).trans (hb1.mono (bytes_below w a).size)); clear hb1 HCA)
        | (refine wpList_store_row rfl _ (.tmp 7) (.tmp 20) rfl w1.heap.size ((Bl.sum a.data.toList).map u8v).toArray rfl rfl _ _ (heap_alloc_new w1 _) (info_hash_of HSA.out) (by simp [HSA.out]) (all_u8 _) ?_))
      have hw2 : W8 ((w1.alloc (.cells #[.int .u8 0, .int .u8 0, .int .u8 0, .int .u8 0, .int .u8 0, .int .u8 0, .int .u8 0, .int .u8 0, .int .u8 0, .int .u8 0, .int .u8 0, .int .u8 0, .int .u8 0, .int .u8 0, .int .u8 0, .int .u8 0, .int .u8 0, .int .u8 0, .int .u8 0, .int .u8 0, .int .u8 0, .int .u8 0, .int .u8 0, .int .u8 0, .int .u8 0, .int .u8 0, .int .u8 0, .int .u8 0, .int .u8 0, .int .u8 0, .int .u8 0, .int .u8 0] 25)).setRow w1.heap.size ((Bl.sum a.data.toList).map u8v).toArray) w1.heap.size 25 (Bl.sum a.data.toList) := setRow_heap _ _ _ _ _ _ (heap_alloc_new w1 _)
      have hb2 : Below w.heap.size w ((w1.alloc (.cells #[.int .u8 0, .int .u8 0, .int .u8 0, .int .u8 0, .int .u8 0, .int .u8 0, .int .u8 0, .int .u8 0, .int .u8 0, .int .u8 0, .int .u8 0, .int .u8 0, .int .u8 0, .int .u8 0, .int .u8 0, .int .u8 0, .int .u8 0, .int .u8 0, .int .u8 0, .int .u8 0, .int .u8 0, .int .u8 0, .int .u8 0, .int .u8 0, .int .u8 0, .int .u8 0, .int .u8 0, .int .u8 0, .int .u8 0, .int .u8 0, .int .u8 0, .int .u8 0] 25)).setRow w1.heap.size ((Bl.sum a.data.toList).map u8v).toArray) := below_setRow (HB1.out.alloc HB1.out.size _) HB1.out.size _
      generalize (w1.alloc (.cells #[.int .u8 0, .int .u8 0, .int .u8 0, .int .u8 0, .int .u8 0, .int .u8 0, .int .u8 0, .int .u8 0, .int .u8 0, .int .u8 0, .int .u8 0, .int .u8 0, .int .u8 0, .int .u8 0, .int .u8 0, .int .u8 0, .int .u8 0, .int .u8 0, .int .u8 0, .int .u8 0, .int .u8 0, .int .u8 0, .int .u8 0, .int .u8 0, .int .u8 0, .int .u8 0, .int .u8 0, .int .u8 0, .int .u8 0, .int .u8 0, .int .u8 0, .int .u8 0] 25)).setRow w1.heap.size ((Bl.sum a.data.toList).map u8v).toArray = w2 at hw2 hb2 ⊢
      generalize w1.heap.size = g at hw2 ⊢
      have HW2 := Lib.hid hw2
      have HB2 := Lib.hid hb2
      clear hw2 hb2 HB1
      have HCB := Lib.hid (bytes_bs w2 b (by omega))
      have HBB := Lib.hid (HB2.out.trans ((bytes_below w2 b).mono HB2.out.size))
      have HW3 := Lib.hid (HW2.out.keep ((bytes_below w2 b).block _ HW2.out.lt))
      go_frame
      go_upto_region 5 with (first
        | (go_at_call 8; refine (sum_any _ b.data.toList _ HCB.out hslb (HL.out _ HBB.out).2).mono ?_; rintro e w3 ⟨rfl, hb3⟩; have HB3 := Lib.hid (HBB.out.trans (hb3.mono HBB.out.size)); have HW4 := Lib.hid (HW3.out.keep (hb3.block _ HW3.out.lt)); clear hb3 HCB HBB HW3)
        | (refine wpList_store_row rfl _ (.tmp 8) (.tmp 23) rfl w3.heap.size ((Bl.sum b.data.toList).map u8v).toArray rfl rfl _ _ (heap_alloc_new w3 _) (info_hash_of HSB.out) (by simp [HSB.out]) (all_u8 _) ?_))
      have hw2 : W8 ((w3.alloc (.cells #[.int .u8 0, .int .u8 0, .int .u8 0, .int .u8 0, .int .u8 0, .int .u8 0, .int .u8 0, .int .u8 0, .int .u8 0, .int .u8 0, .int .u8 0, .int .u8 0, .int .u8 0, .int .u8 0, .int .u8 0, .int .u8 0, .int .u8 0, .int .u8 0, .int .u8 0, .int .u8 0, .int .u8 0, .int .u8 0, .int .u8 0, .int .u8 0, .int .u8 0, .int .u8 0, .int .u8 0, .int .u8 0, .int .u8 0, .int .u8 0, .int .u8 0, .int .u8 0] 25)).setRow w3.heap.size ((Bl.sum b.data.toList).map u8v).toArray) w3.heap.size 25 (Bl.sum b.data.toList) := setRow_heap _ _ _ _ _ _ (heap_alloc_new w3 _)
      have hb3 : Below w3.heap.size w3 ((w3.alloc (.cells #[.int .u8 0, .int .u8 0, .int .u8 0, .int .u8 0, .int .u8 0, .int .u8 0, .int .u8 0, .int .u8 0, .int .u8 0, .int .u8 0, .int .u8 0, .int .u8 0, .int .u8 0, .int .u8 0, .int .u8 0, .int .u8 0, .int .u8 0, .int .u8 0, .int .u8 0, .int .u8 0, .int .u8 0, .int .u8 0, .int .u8 0, .int .u8 0, .int .u8 0, .int .u8 0, .int .u8 0, .int .u8 0, .int .u8 0, .int .u8 0, .int .u8 0, .int .u8 0] 25)).setRow w3.heap.size ((Bl.sum b.data.toList).map u8v).toArray) := below_setRow ((Below.refl _ _).alloc (Nat.le_refl _) _) (Nat.le_refl _) _
      generalize (w3.alloc (.cells #[.int .u8 0, .int .u8 0, .int .u8 0, .int .u8 0, .int .u8 0, .int .u8 0, .int .u8 0, .int .u8 0, .int .u8 0, .int .u8 0, .int .u8 0, .int .u8 0, .int .u8 0, .int .u8 0, .int .u8 0, .int .u8 0, .int .u8 0, .int .u8 0, .int .u8 0, .int .u8 0, .int .u8 0, .int .u8 0, .int .u8 0, .int .u8 0, .int .u8 0, .int .u8 0, .int .u8 0, .int .u8 0, .int .u8 0, .int .u8 0, .int .u8 0, .int .u8 0] 25)).setRow w3.heap.size ((Bl.sum b.data.toList).map u8v).toArray = w4 at hw2 hb3 ⊢
      generalize w3.heap.size = gb at hw2 ⊢
      have HB4 := Lib.hid (HB3.out.trans (hb3.mono HB3.out.size))
      have HWA := Lib.hid (HW4.out.keep (hb3.block _ HW4.out.lt))
      have HWB := Lib.hid hw2
      clear hw2 hb3 HB3 HW4 HW2 HB2
      go_frame
      go_cut [35] (fun v wx => v = .bool false ∧ Below w.heap.size w wx ∧ W8 wx g 25 (Bl.sum a.data.toList))
      case first =>
        by_cases hxy : Bl.sum a.data.toList = Bl.sum b.data.toList
        · have heq : ∀ W, (Op.equalIn 10000 25 (.agg ((Bl.sum a.data.toList).map u8v).toArray) (.agg ((Bl.sum b.data.toList).map u8v).toArray)).run Tryd.prog W = .ok true W := fun W => by
            rw [eq_hash _ _ HSA.out HSB.out, hxy]; simp
          have heq2 : ∀ W, (Op.equalIn 10000 25 (.agg ((Bl.tagged a.data.toList c).map u8v).toArray) (.agg ((Bl.tagged b.data.toList c).map u8v).toArray)).run Tryd.prog W = .ok true W := fun W => by
            rw [eq_hash _ _ (Bl.len_tagged _ _) (Bl.len_tagged _ _)]; simp [Bl.tagged, hxy]
          clear hxy
          go_wp2_with (first
            | (refine wpList_load_row rfl _ (.tmp 7) rfl g rfl _ _ (0, 0) _ HWA.out Tryd.underlying25 rfl (info_hash_of HSA.out) ?_)
            | (refine wpList_load_row rfl _ (.tmp 8) rfl gb rfl _ _ (0, 0) _ HWB.out Tryd.underlying25 rfl (info_hash_of HSB.out) ?_)
            | (go_at_call_of 13 (Value.string a); refine (tagged_any a _ c _ (HL.out _ HB4.out).1 (by omega) (by omega) (HL.out _ HB4.out).2).mono ?_; rintro e w5 ⟨rfl, hb5⟩; have HB5 := Lib.hid (HB4.out.trans (hb5.mono HB4.out.size)); have HW5 := Lib.hid (HWA.out.keep (hb5.block _ HWA.out.lt)); clear hb5)
            | (go_at_call 13; refine (tagged_any b _ c _ (HL.out _ HB5.out).1 (by omega) (by omega) (HL.out _ HB5.out).2).mono ?_; rintro e w6 ⟨rfl, hb6⟩; have HB6 := Lib.hid (HB5.out.trans (hb6.mono HB5.out.size)); have HW6 := Lib.hid (HW5.out.keep (hb6.block _ HW5.out.lt)); clear hb6))
          all_goals
            go_meet
            exact ⟨rfl, HB6.out, HW6.out⟩
        · have heq : ∀ W, (Op.equalIn 10000 25 (.agg ((Bl.sum a.data.toList).map u8v).toArray) (.agg ((Bl.sum b.data.toList).map u8v).toArray)).run Tryd.prog W = .ok false W := fun W => by
            rw [eq_hash _ _ HSA.out HSB.out]; simp [hxy]
          clear hxy
          go_wp2_with (first
            | (refine wpList_load_row rfl _ (.tmp 7) rfl g rfl _ _ (0, 0) _ HWA.out Tryd.underlying25 rfl (info_hash_of HSA.out) ?_)
            | (refine wpList_load_row rfl _ (.tmp 8) rfl gb rfl _ _ (0, 0) _ HWB.out Tryd.underlying25 rfl (info_hash_of HSB.out) ?_))
          all_goals
            go_meet
            exact ⟨rfl, HB4.out, HWA.out⟩
      case rest =>
        obtain ⟨rfl, hb5, hw5⟩ := hcut
        clear HB4 HWA HWB
        have heq : ∀ W, (Op.equalIn 10000 25 (.agg ((Bl.tagged a.data.toList c).map u8v).toArray) (.agg ((Bl.sum (Bl.sum a.data.toList ++ c)).map u8v).toArray)).run Tryd.prog W = .ok true W := fun W => by
          rw [eq_hash _ _ (Bl.len_tagged _ _) (Bl.len_sum _)]; simp [Bl.tagged]
        have HB5 := Lib.hid hb5
        have hgl := hw5.lt
        have hs : SS wc g (Bl.sum a.data.toList) wc.drew := ⟨below_drew (Below.refl _ _), hw5⟩
        clear hb5 hw5
        go_wp2_with fail
        go_region_held3 (fun W => SS wc g (Bl.sum a.data.toList) W) (first | exact hs)
          (first
            | (go_at_call 13; refine (tagged_any a _ c _ (HL.out _ (HB5.out.trans (hs.1.mono HB5.out.size))).1 (by omega) (by omega) (HL.out _ (HB5.out.trans (hs.1.mono HB5.out.size))).2).mono ?_; rintro e wt ⟨rfl, hbt⟩; replace hs := hs.step hbt; (try replace ho := OwnB.below ho hbt (Nat.le_refl _)); (try replace ho2 := OwnB.below ho2 hbt (Nat.le_refl _)); clear hbt)
            | (go_at_call 16; refine (copyBytes _ (Bl.sum a.data.toList) _ (hs.2.bs HSA.out (by omega)) (by rw [HSA.out]; omega)).mono ?_; rintro e w1 ⟨v1, rfl, ho, hbc⟩; replace ho := OwnB.low ho hs.1.size; replace hs := hs.step hbc; clear hbc)
            | (refine step_app_b rfl (.tmp 40) (.tmp 41) rfl wc.heap.size _ (Bl.sum a.data.toList) rfl ho _ Ac c.length cc c rfl ((HRC.out.below (HB5.out.trans (hs.1.mono HB5.out.size)) (Nat.le_refl _))) (by rw [HSA.out]; omega) hs.1.size ?_; intro v2 w2 ho2 hgr _; replace hs := hs.grown hgl hgr (fun k hk => (ho.lt k hk).1); clear hgr ho)
            | (go_at_call 8; refine (sum_any _ (Bl.sum a.data.toList ++ c) _ ho2.bs (by rw [List.length_append, HSA.out]; omega) (HL.out _ (HB5.out.trans (hs.1.mono HB5.out.size))).2).mono ?_; rintro e w3 ⟨rfl, hbs⟩; replace hs := hs.step hbs; clear hbs ho2)
            | (go_at_call 7; refine (works_any _ (HL.out _ (HB5.out.trans (hs.1.mono HB5.out.size))).2).mono ?_; rintro e w8 ⟨rfl, hb8⟩; replace hs := hs.step hb8; clear hb8))
        all_goals
          go_wp2_with fail
          go_ret
          exact ⟨rfl, HB5.out.trans (hs.1.mono HB5.out.size)⟩
end Go.Proofs.YtdlbighnmbjofaaDoor
