/- The statement BlakeKeys, walked. -/
import Derived.Test.YtdlbighnmbjofaaDoorBlakeE
import Derived.Deep.RegionHeld3
import Derived.Deep.DrawnRows
namespace Go.Proofs.YtdlbighnmbjofaaDoor
open Go Go.RowKit
attribute [local go_sem ↓] Go.wp_at_zero Go.wp_at_succ

theorem kk_sum (key : List UInt8) (h : 32 < key.length) : kk (Bl.sum key) = kk key := by
  have h1 : ¬ key.length ≤ 32 := by omega
  unfold kk
  rw [if_neg h1, if_pos (by rw [Bl.len_sum]; omega)]
theorem keyed_sum (key b : List UInt8) (h : 32 < key.length) : Bl.keyed key b = Bl.keyed (Bl.sum key) b := by
  rw [keyed_kk, keyed_kk, kk_sum key h]

/-- What lies in memory as the call begins, in every later world. -/
def Lies (w : World) (S S' : Nat → Prop) (kv bv : Value) (key b : List UInt8) : Prop := ∀ W, Below w.heap.size w W → Bs W S kv key ∧ Bs W S' bv b ∧ Gl W

theorem W8.bs {w : World} {g : Nat} {t : TypeId} {l : List UInt8} (h : W8 w g t l) {n : Nat} (hn : l.length = n) (hl : n ≤ 9223372036854775807) : Bs w (fun _ => True) (.slice (some ⟨g, 0, none⟩) n n) l := by
  subst hn
  refine Bs.mk ⟨by simp, fun _ => ⟨g, 0, rfl, ⟨h.lt, trivial⟩, fun j u hu => ?_⟩⟩ (Nat.le_refl _) hl
  rw [Nat.zero_add, cell_of_row _ _ _ _ _ _ h]
  simpa using hu

/-- What the drawn region needs of its worlds. -/
def SS (wc : World) (g : Nat) (s : List UInt8) (W : World) : Prop := Below wc.heap.size wc W ∧ W8 W g 25 s
theorem SS.step {wc W W' : World} {g : Nat} {s : List UInt8} (h : SS wc g s W) (hb : Below W.heap.size W W') : SS wc g s W' :=
  ⟨h.1.trans (hb.mono h.1.size), h.2.keep (hb.block _ h.2.lt)⟩

set_option maxRecDepth 100000 in
set_option maxHeartbeats 2000000 in
theorem keys_any {S S' : Nat → Prop} (kv bv : Value) (key b : List UInt8) (w : World) (hk : Bs w S kv key) (hb : Bs w S' bv b) (hG : Gl w) :
    Calls Tryd.prog 3 #[kv, bv] w (RetT w) := by
  have HL : Hid (Lies w S S' kv bv key b) := fun W hW => ⟨hk.below hW (Nat.le_refl _), hb.below hW (Nat.le_refl _), hG.below hW (Nat.le_refl _)⟩
  have hkl := hk.len
  have hbl := hb.len
  obtain ⟨Ak, ck, rfl, hck, hck2, _⟩ := hk.op
  obtain ⟨Ab, cb, rfl, hcb, hcb2, _⟩ := hb.op
  have HG := Lib.hid hG
  clear hk hb hG
  by_cases hbig : 4096 < max key.length b.length
  · have hb1 : (4096 : Int) < max (key.length : Int) (b.length : Int) := by omega
    go_enter Tryd.func3, Tryd.ntmps3
    go_wp2_with (first
      | (go_at_call 7; refine (works_any _ HG.out).mono ?_; rintro e w1 ⟨rfl, hb1⟩; have HB1 := Lib.hid hb1; clear hb1))
    all_goals
      go_ret
      exact ⟨rfl, HB1.out⟩
  · have hb1 : ¬ (4096 : Int) < max (key.length : Int) (b.length : Int) := by omega
    have hk1 : key.length ≤ 4096 := by omega
    have hb2 : b.length ≤ 4096 := by omega
    have HSL := Lib.hid (Bl.len_sum key)
    go_enter Tryd.func3, Tryd.ntmps3
    go_upto_region 1 with (fail)
    go_cut [11] (fun v wx => v = .bool false ∧ wx = w)
    case first =>
      go_wp2_with fail
      all_goals
        go_meet
        exact ⟨congrArg Value.bool (decide_eq_false (by omega)), rfl⟩
    case rest =>
      obtain ⟨rfl, rfl⟩ := hcut
      obtain ⟨w, rfl⟩ : ∃ w, w = wc := ⟨_, rfl⟩
      go_upto_region 4 with (first
        | (go_at_call 8; refine (sum_any _ key _ (HL.out _ (Below.refl _ _)).1 (by omega) HG.out).mono ?_; rintro e w1 ⟨rfl, hb1⟩; have HB1 := Lib.hid hb1; clear hb1)
        | (refine wpList_store_row rfl _ (.tmp 5) (.tmp 14) rfl w1.heap.size ((Bl.sum key).map u8v).toArray rfl rfl _ _ (heap_alloc_new w1 _) (info_hash_of HSL.out) (by simp [HSL.out]) (all_u8 _) ?_))
      have hw2 : W8 ((w1.alloc (.cells #[.int .u8 0, .int .u8 0, .int .u8 0, .int .u8 0, .int .u8 0, .int .u8 0, .int .u8 0, .int .u8 0, .int .u8 0, .int .u8 0, .int .u8 0, .int .u8 0, .int .u8 0, .int .u8 0, .int .u8 0, .int .u8 0, .int .u8 0, .int .u8 0, .int .u8 0, .int .u8 0, .int .u8 0, .int .u8 0, .int .u8 0, .int .u8 0, .int .u8 0, .int .u8 0, .int .u8 0, .int .u8 0, .int .u8 0, .int .u8 0, .int .u8 0, .int .u8 0] 25)).setRow w1.heap.size ((Bl.sum key).map u8v).toArray) w1.heap.size 25 (Bl.sum key) := setRow_heap _ _ _ _ _ _ (heap_alloc_new w1 _)
      have hb2 : Below w.heap.size w ((w1.alloc (.cells #[.int .u8 0, .int .u8 0, .int .u8 0, .int .u8 0, .int .u8 0, .int .u8 0, .int .u8 0, .int .u8 0, .int .u8 0, .int .u8 0, .int .u8 0, .int .u8 0, .int .u8 0, .int .u8 0, .int .u8 0, .int .u8 0, .int .u8 0, .int .u8 0, .int .u8 0, .int .u8 0, .int .u8 0, .int .u8 0, .int .u8 0, .int .u8 0, .int .u8 0, .int .u8 0, .int .u8 0, .int .u8 0, .int .u8 0, .int .u8 0, .int .u8 0, .int .u8 0] 25)).setRow w1.heap.size ((Bl.sum key).map u8v).toArray) := below_setRow (HB1.out.alloc HB1.out.size _) HB1.out.size _
      generalize (w1.alloc (.cells #[.int .u8 0, .int .u8 0, .int .u8 0, .int .u8 0, .int .u8 0, .int .u8 0, .int .u8 0, .int .u8 0, .int .u8 0, .int .u8 0, .int .u8 0, .int .u8 0, .int .u8 0, .int .u8 0, .int .u8 0, .int .u8 0, .int .u8 0, .int .u8 0, .int .u8 0, .int .u8 0, .int .u8 0, .int .u8 0, .int .u8 0, .int .u8 0, .int .u8 0, .int .u8 0, .int .u8 0, .int .u8 0, .int .u8 0, .int .u8 0, .int .u8 0, .int .u8 0] 25)).setRow w1.heap.size ((Bl.sum key).map u8v).toArray = w2 at hw2 hb2 ⊢
      generalize w1.heap.size = g at hw2 ⊢
      have HW2 := Lib.hid hw2
      have HB2 := Lib.hid hb2
      clear hw2 hb2 HB1
      go_frame
      go_cut [26] (fun v wx => v = .bool false ∧ Below w.heap.size w wx)
      case first =>
        by_cases hlong : 32 < key.length
        · have hd0 : decide (32 < key.length) = true := decide_eq_true hlong
          have hd2 : decide ((32 : Int) < (key.length : Int)) = true := decide_eq_true (by omega)
          have heq : ∀ W, (Op.equalIn 10000 25 (.agg ((Bl.keyed key b).map u8v).toArray) (.agg ((Bl.keyed (Bl.sum key) b).map u8v).toArray)).run Tryd.prog W = .ok true W := fun W => by
            rw [eq_hash _ _ (Bl.len_keyed _ _) (Bl.len_keyed _ _), keyed_sum key b hlong]; simp
          have hs2 : SS w g (Bl.sum key) w2.drew := ⟨below_drew HB2.out, HW2.out⟩
          go_region_held3 (fun W => SS w g (Bl.sum key) W) (first | assumption)
            (first
              | (go_at_call_of 9 (Value.slice Ak key.length ck); refine (keyed_any _ _ key b _ (HL.out _ hs2.1).1 (HL.out _ hs2.1).2.1 (by omega) (by omega) (HL.out _ hs2.1).2.2).mono ?_; rintro e w3 ⟨rfl, hb3⟩; have hs3 := hs2.step hb3; have HB3 := Lib.hid hb3; clear hb3)
              | (go_at_call 9; refine (keyed_any _ _ (Bl.sum key) b _ (hs3.2.bs HSL.out (by omega)) (HL.out _ hs3.1).2.1 (by rw [HSL.out]; omega) (by omega) (HL.out _ hs3.1).2.2).mono ?_; rintro e w4 ⟨rfl, hb4⟩; have hs4 := hs3.step hb4; have HB4 := Lib.hid hb4; clear hb4))
          all_goals
            go_wp2_with fail
            go_meet
            exact ⟨rfl, hs4.1⟩
        · have hd0 : decide (32 < key.length) = false := decide_eq_false hlong
          have hd2 : decide ((32 : Int) < (key.length : Int)) = false := decide_eq_false (by omega)
          go_quiet (fail)
          go_wp2_with fail
          go_meet
          exact ⟨rfl, below_drewN' HB2.out _⟩
      case rest =>
        obtain ⟨rfl, hb3⟩ := hcut
        have HB3 := Lib.hid hb3
        have heq : ∀ W, (Op.equalIn 10000 25 (.agg ((Bl.sum b).map u8v).toArray) (.agg ((Bl.sum b).map u8v).toArray)).run Tryd.prog W = .ok true W := fun W => by
          rw [eq_hash _ _ (Bl.len_sum _) (Bl.len_sum _)]; simp
        clear hb3 HW2 HB2
        go_wp2_with (first
          | (go_at_call_of 9 (Value.slice none 0 0); refine (keyed_nil _ b _ (HL.out _ HB3.out).2.1 (by omega) (HL.out _ HB3.out).2.2).mono ?_; rintro e w4 ⟨rfl, hb4⟩; have HB4 := Lib.hid (HB3.out.trans (hb4.mono HB3.out.size)); clear hb4)
          | (go_at_call 9; refine (keyed_any _ _ [] b _ (Bs.mk (l := []) (S := fun _ => True) Rd.nil (Nat.le_refl _) (by omega)) (HL.out _ (HB5.out.alloc HB5.out.size _)).2.1 (by simp) (by omega) (HL.out _ (HB5.out.alloc HB5.out.size _)).2.2).mono ?_; rintro e w6 ⟨rfl, hb6⟩; have HB6 := Lib.hid ((HB5.out.alloc HB5.out.size _).trans (hb6.mono (HB5.out.alloc HB5.out.size _).size)); rw [show Bl.keyed [] b = Bl.sum b from rfl]; clear hb6 HB5)
          | (go_at_call 8; refine (sum_any _ b _ (HL.out _ HB6.out).2.1 (by omega) (HL.out _ HB6.out).2.2).mono ?_; rintro e w7 ⟨rfl, hb7⟩; have HB7 := Lib.hid (HB6.out.trans (hb7.mono HB6.out.size)); clear hb7)
          | (go_at_call 8; refine (sum_any _ b _ (HL.out _ HB4.out).2.1 (by omega) (HL.out _ HB4.out).2.2).mono ?_; rintro e w5 ⟨rfl, hb5⟩; have HB5 := Lib.hid (HB4.out.trans (hb5.mono HB4.out.size)); clear hb5)
          | (go_at_call 7; refine (works_any _ (HL.out _ HB7.out).2.2).mono ?_; rintro e w8 ⟨rfl, hb8⟩; have HB8 := Lib.hid (HB7.out.trans (hb8.mono HB7.out.size)); clear hb8))
        go_ret
        exact ⟨rfl, HB8.out⟩
end Go.Proofs.YtdlbighnmbjofaaDoor
