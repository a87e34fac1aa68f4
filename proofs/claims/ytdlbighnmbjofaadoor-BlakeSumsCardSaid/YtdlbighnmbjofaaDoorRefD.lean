/- The reference's digests: under a key. -/
import Derived.Test.YtdlbighnmbjofaaDoorRefC
import Derived.Test.YtdlbighnmbjofaaDoorBlakeF
import Derived.Deep.CutBlock
import Derived.WalkLawsBesides
namespace Go.Proofs.YtdlbighnmbjofaaDoor
open Go Go.RowKit
attribute [local go_sem high] bop_add32 bop_xor32 bop_or32 uop_not32

/-- The result's block, as it was laid; all that was there is as it was. -/
structure KR (w wr : World) : Prop where
  r : W8 wr w.heap.size 25 (List.replicate 32 0)
  b : Below w.heap.size w wr
theorem KR.lt {w wr : World} (K : KR w wr) : w.heap.size + 1 ≤ wr.heap.size := K.r.lt
theorem KR.below {w wr w' : World} (K : KR w wr) {B : Nat} (hb : Below B wr w') (hB : w.heap.size < B) : KR w w' := ⟨K.r.keep (hb.block _ hB), K.b.trans (hb.mono (by omega))⟩
theorem KR.grown {w wr w' : World} (K : KR w wr) {row : Option Nat} (hg : wr.grownBy w' row) (hr : ∀ g, row = some g → w.heap.size + 1 ≤ g) : KR w w' :=
  ⟨K.r.keep (hg.block _ K.r.lt (fun e => by have := hr _ e.symm; omega)), K.b.grown hg K.b.size (fun g e => by have := hr g e; omega)⟩
theorem KR.alloc {w wr : World} (K : KR w wr) (o : Obj) : KR w (wr.alloc o) := K.below ((Below.refl _ _).alloc (Nat.le_refl _) _) K.r.lt

def padk (key : List UInt8) : List UInt8 := if key.length = 0 then [] else key ++ List.replicate (64 - key.length) 0
theorem text_pad (key b : List UInt8) : Bl.text key b = padk key ++ b := by
  unfold Bl.text padk
  split <;> simp
theorem padk_len (key : List UInt8) (h : key.length ≤ 32) : (padk key).length ≤ 64 := by
  unfold padk
  split <;> simp; omega
theorem rep_snoc (n : Nat) : List.replicate (n + 1) (0 : UInt8) = List.replicate n 0 ++ [0] := List.replicate_succ'

theorem begun_ref (x y : UInt32) : xor32 (xor32 x 0x01010020) y = xor32 x (xor32 (xor32 0x01010000 y) 32) := by
  unfold xor32
  rw [show (0x01010020 : UInt32) = 0x01010000 ^^^ 32 by decide, UInt32.xor_assoc, UInt32.xor_assoc, UInt32.xor_comm 32 y, ← UInt32.xor_assoc 0x01010000 y 32]
theorem xor_c (x : UInt32) : bits .xor .u32 (x.toNat : Int) 16842784 = ((xor32 x 0x01010020).toNat : Int) := by
  rw [show (16842784 : Int) = (((0x01010020 : UInt32).toNat : Nat) : Int) from rfl, u32_xor_nat _ _ (u32_lt _) (u32_lt _), ← UInt32.toNat_xor]
  rfl

theorem piece_of (t : List UInt8) (a e : Nat) (he : e = min (a + 64) t.length) (ha : a ≤ e) : (t.drop a).take (e - a) ++ List.replicate (64 - (e - a)) 0 = Bl.piece (t.drop a) := by
  unfold Bl.piece
  by_cases h : a + 64 ≤ t.length
  · have h1 : e - a = 64 := by omega
    have h2 : 64 - (t.drop a).length = 0 := by simp; omega
    rw [h1, h2]
  · have h1 : e - a = (t.drop a).length := by simp; omega
    rw [h1, List.take_of_length_le (Nat.le_refl _), List.take_of_length_le (by simp; omega)]
/-- Where the loop over the blocks stands. -/
def St (t : List UInt8) (R h : List UInt32) (a : Nat) : Prop :=
  ((a = 0 ∨ a < t.length) ∧ ∃ f, (t.drop a).length < f ∧ Bl.absorb f h (t.drop a) a = R) ∨ (0 < a ∧ t.length ≤ a ∧ a ≤ t.length + 64 ∧ h = R)
theorem St.last {t : List UInt8} {R h : List UInt32} {a : Nat} (h0 : a = 0 ∨ a < t.length) (hs : St t R h a) (hl : t.length ≤ a + 64) : St t R (Bl.press h (Bl.piece (t.drop a)) t.length true) (a + 64) := by
  rcases hs with ⟨_, f, hf, ha⟩ | ⟨h1, h2, _, _⟩
  · rw [absorb_last f h (t.drop a) a (by simp; omega) (by omega)] at ha
    refine .inr ⟨by omega, hl, by omega, ?_⟩
    rw [← ha]
    congr 1
    simp
    omega
  · omega
theorem St.more {t : List UInt8} {R h : List UInt32} {a : Nat} (hs : St t R h a) (hl : ¬ t.length ≤ a + 64) : St t R (Bl.press h (Bl.piece (t.drop a)) (a + 64) false) (a + 64) := by
  rcases hs with ⟨_, f, hf, ha⟩ | ⟨h1, h2, _, _⟩
  · obtain ⟨f', rfl⟩ : ∃ f', f = f' + 1 := ⟨f - 1, by omega⟩
    rw [absorb_more f' h (t.drop a) a (by simp; omega)] at ha
    refine .inl ⟨.inr (by omega), f', ?_, ?_⟩
    · simp at hf ⊢
      omega
    · rw [List.drop_drop] at ha
      exact ha
  · omega
theorem St.done {t : List UInt8} {R h : List UInt32} {a : Nat} (hs : St t R h a) (h0 : 0 < a) (hl : t.length ≤ a) : h = R := by
  rcases hs with ⟨h1, _⟩ | ⟨_, _, _, h4⟩
  · omega
  · exact h4

set_option maxRecDepth 100000 in
set_option maxHeartbeats 1200000 in
theorem keyed_short_ref {S S' : Nat → Prop} (kv bv : Value) (key b : List UInt8) (w : World) (hk : Bs w S kv key) (hb : Bs w S' bv b) (hkl : key.length ≤ 32) (hbl : b.length ≤ 1000000000000) :
    Calls Tryd.prog 11 #[kv, bv] w (keyedPost w (Bl.keyed32 key b)) := by
  obtain ⟨Ak, ck, rfl, hck, hck2, hrk⟩ := hk.op
  obtain ⟨Ab, cb, rfl, hcb, hcb2, hrb⟩ := hb.op
  have HK := Lib.hid hrk
  have HB := Lib.hid hrb
  clear hk hb hrk hrb
  have hR : W8 (w.alloc (.cells #[.int .u8 0, .int .u8 0, .int .u8 0, .int .u8 0, .int .u8 0, .int .u8 0, .int .u8 0, .int .u8 0, .int .u8 0, .int .u8 0, .int .u8 0, .int .u8 0, .int .u8 0, .int .u8 0, .int .u8 0, .int .u8 0, .int .u8 0, .int .u8 0, .int .u8 0, .int .u8 0, .int .u8 0, .int .u8 0, .int .u8 0, .int .u8 0, .int .u8 0, .int .u8 0, .int .u8 0, .int .u8 0, .int .u8 0, .int .u8 0, .int .u8 0, .int .u8 0] 25)) w.heap.size 25 (List.replicate 32 0) := heap_alloc_new w _
  have hK0 : KR w (w.alloc (.cells #[.int .u8 0, .int .u8 0, .int .u8 0, .int .u8 0, .int .u8 0, .int .u8 0, .int .u8 0, .int .u8 0, .int .u8 0, .int .u8 0, .int .u8 0, .int .u8 0, .int .u8 0, .int .u8 0, .int .u8 0, .int .u8 0, .int .u8 0, .int .u8 0, .int .u8 0, .int .u8 0, .int .u8 0, .int .u8 0, .int .u8 0, .int .u8 0, .int .u8 0, .int .u8 0, .int .u8 0, .int .u8 0, .int .u8 0, .int .u8 0, .int .u8 0, .int .u8 0] 25)) := ⟨hR, (Below.refl _ _).alloc (Nat.le_refl _) _⟩
  have hd1 : ¬ 32 < key.length := by omega
  have hd2 : ¬ (32 : Int) < (key.length : Int) := by omega
  go_enter Tryd.func11, Tryd.ntmps11
  go_upto_region 1 with (fail)
  generalize w.alloc (.cells #[.int .u8 0, .int .u8 0, .int .u8 0, .int .u8 0, .int .u8 0, .int .u8 0, .int .u8 0, .int .u8 0, .int .u8 0, .int .u8 0, .int .u8 0, .int .u8 0, .int .u8 0, .int .u8 0, .int .u8 0, .int .u8 0, .int .u8 0, .int .u8 0, .int .u8 0, .int .u8 0, .int .u8 0, .int .u8 0, .int .u8 0, .int .u8 0, .int .u8 0, .int .u8 0, .int .u8 0, .int .u8 0, .int .u8 0, .int .u8 0, .int .u8 0, .int .u8 0] 25) = w0 at hK0 ⊢
  have HK0 := Lib.hid hK0
  clear hR hK0
  go_upto_if 25 with (fail)
  go_cut [6] (fun v wx => ∃ tv, v = tv ∧ OwnB wx (w.heap.size + 1) tv (padk key) ∧ KR w wx)
  case first =>
    by_cases hk0 : key.length = 0
    · have hd0 : decide (0 < key.length) = false := decide_eq_false (by omega)
      have hd3 : ¬ 0 < key.length := by omega
      have HP : Hid (padk key = []) := by unfold Hid padk; rw [if_pos hk0]
      clear hk0
      go_wp2_with fail
      go_meet
      exact ⟨_, rfl, by rw [HP.out]; exact OwnB.nil _ _, HK0.out⟩
    · have hd0 : decide (0 < key.length) = true := decide_eq_true (by omega)
      have HP : Hid (padk key = key ++ List.replicate (64 - key.length) 0) := by unfold Hid padk; rw [if_neg hk0]
      have hk1 : 0 < key.length := by omega
      clear hk0
      have hl1 : ([] : List UInt8).length + key.length ≤ 1099511627776 := by simp; omega
      go_wp2_with (at_builtin; refine app_b rfl (.tmp 26) (.tmp 27) rfl (w.heap.size + 1) _ [] rfl (OwnB.nil _ _) S Ak key.length ck key rfl (HK.out.below HK0.out.b (Nat.le_refl _)) hl1 HK0.out.lt ?_; intro v1 w1 ho1 hg1 _; have hk1 : KR w w1 := HK0.out.grown hg1 (fun g hg => by cases hg); simp only [List.nil_append] at ho1; have HO1 := Lib.hid ho1; have HK1 := Lib.hid hk1; clear hg1 ho1 hk1)
      go_loopw [6] (fun v wr => ∃ k : Nat, k ≤ 64 - key.length ∧ OwnB wr (w.heap.size + 1) v (key ++ List.replicate k 0) ∧ KR w wr) (fun v _ => 64 - sliceLen v)
      case atStart => exact ⟨0, by omega, by simpa using HO1.out, HK1.out⟩
      case round =>
        clear HO1 HK1
        obtain ⟨k, hk, ho, hkr⟩ := hrel
        obtain ⟨A, c, rfl, hc1, hc2⟩ := ho.form
        have hlen : (key ++ List.replicate k 0).length = key.length + k := by simp
        rw [hlen] at ho hc1
        rw [hlen]
        have HO := Lib.hid ho
        have HKR := Lib.hid hkr
        have hlt0 := hkr.lt
        have hl3 : (key ++ List.replicate k 0).length + 1 ≤ 1099511627776 := by rw [hlen]; omega
        clear ho hkr hlen
        by_cases hlt : k < 64 - key.length
        · have hi1 : ((key.length + k : Nat) : Int) < 64 := by omega
          go_wp2_with (at_builtin; refine app_b rfl (.tmp 32) (.tmp 33) rfl (w.heap.size + 1) _ (key ++ List.replicate k 0) rfl (HO.out.alloc _) (wr.heap.size ≤ ·) (some ⟨wr.heap.size, 0, none⟩) 1 1 [0] rfl (Rd.one 0 _) hl3 (by simp; omega) ?_; intro v2 w2 ho2 hg2 _; have hk2 : KR w w2 := (HKR.out.alloc _).grown hg2 (fun g hg => (HO.out.lt g hg).1); clear hg2)
          refine ⟨⟨k + 1, by omega, ?_, hk2⟩, ?_⟩
          · rw [rep_snoc, ← List.append_assoc]
            exact ho2
          · obtain ⟨A2, c2, rfl, _, _⟩ := ho2.form
            simp [sliceLen]
            omega
        · obtain rfl : k = 64 - key.length := by omega
          have hi1 : ¬ ((key.length + (64 - key.length) : Nat) : Int) < 64 := by omega
          have hi2 : ¬ (key.length + (64 - key.length) : Nat) < 64 := by omega
          go_wp2_with fail
          go_meet
          exact ⟨_, rfl, by rw [HP.out]; exact HO.out, HKR.out⟩
  case rest =>
    obtain ⟨tv, rfl, ho, hkr⟩ := hcut
    have HO := Lib.hid ho
    have HKR := Lib.hid hkr
    clear ho hkr
    have hpl := padk_len key hkl
    obtain ⟨At, ct, rfl, hct, hct2⟩ := HO.out.form
    have hl4 : (padk key).length + b.length ≤ 1099511627776 := by omega
    have hx := xor_c
    have HX := Lib.hid hx
    clear hx
    go_upto_region 11 with (first
      | (at_builtin; refine app_b rfl (.tmp 35) (.tmp 36) rfl (w.heap.size + 1) _ (padk key) rfl HO.out S' Ab b.length cb b rfl (HB.out.below HKR.out.b (Nat.le_refl _)) hl4 HKR.out.lt ?_; intro v1 w1 ho1 hg1 _; have hk1 : KR w w1 := HKR.out.grown hg1 (fun g hg => (HO.out.lt g hg).1); rw [← text_pad] at ho1; have HO1 := Lib.hid ho1; have HK1 := Lib.hid hk1; clear hg1 ho1 hk1)
      | (go_at_call 21; refine (begins_ref _).mono ?_; rintro e w2 ⟨v2, rfl, ho2, hb2⟩; obtain ⟨gh, ch, rfl, hgh1, hgh2, hr2, hch1, hch2⟩ := ho2.at_ (by decide); have HR2 := Lib.hid hr2; have HK2 := Lib.hid (HK1.out.below hb2 HK1.out.lt); have HO2 := Lib.hid (HO1.out.below hb2 (Nat.le_refl _)); have HLT := Lib.hid (fun g hg => (HO1.out.lt g hg).2); clear hb2 ho2 hr2))
    have hlt1 := HK1.out.lt
    clear HKR HO HO1 HK1
    obtain ⟨At2, ct2, rfl, hct21, hct22⟩ := HO2.out.form
    rw [show Bl.begins.length = 8 from rfl] at hch1 ⊢
    obtain ⟨x0, e0, hx0, hf0⟩ := HR2.out.get (i := 0) (by decide)
    have hxc := HX.out x0
    obtain ⟨z, hz, hz1⟩ : ∃ z : UInt32, Hid (UInt32.ofNat (256 * key.length) = z) ∧ IntKind.u32.wrap (256 * (key.length : Int)) = (z.toNat : Int) := ⟨_, rfl, by rw [IntKind.wrap_u32']; simp⟩
    have hz2 : 256 * (key.length : Int) = (z.toNat : Int) := by rw [← hz1, IntKind.wrap_u32', Int.emod_eq_of_lt (by omega) (by omega)]
    have HTL : Hid ((Bl.text key b).length ≤ 1000000000064) := by unfold Hid; rw [text_pad, List.length_append]; omega
    go_upto_region 12 with (fail)
    have hR3 : R32 (w2.setCell ⟨gh, 0, none⟩ (.int .u32 ((xor32 (xor32 x0 0x01010020) z).toNat : Int))) gh (Bl.begun key.length) := by
      have h1 := HR2.out.set 0 (xor32 (xor32 x0 0x01010020) z)
      have h2 : Bl.begins.set 0 (xor32 (xor32 x0 0x01010020) z) = Bl.begun key.length := by rw [begun_ref, ← hz.out, ← e0.out]; rfl
      rw [h2] at h1
      exact h1
    have hF3 : Fr (· = gh) w2 (w2.setCell ⟨gh, 0, none⟩ (.int .u32 ((xor32 (xor32 x0 0x01010020) z).toNat : Int))) := Fr.setCell (T := (· = gh)) _ rfl
    generalize w2.setCell ⟨gh, 0, none⟩ (.int .u32 ((xor32 (xor32 x0 0x01010020) z).toNat : Int)) = w3 at hR3 hF3 ⊢
    have HR3 := Lib.hid hR3
    have HK3 : Hid (KR w w3) := ⟨HK2.out.r.keep (hF3.block _ HK2.out.r.lt (by omega)), HK2.out.b.trans (hF3.below HK2.out.b.size (fun g e => by omega))⟩
    have HT3 : Hid (Bs w3 (fun _ => True) (.slice At2 (Bl.text key b).length ct2) (Bl.text key b)) := (HO2.out.keep (fun g hg => hF3.block g (HO2.out.lt g hg).2 (fun e => by have := HLT.out g hg; omega))).bs.mono (fun _ _ _ => trivial)
    have HBL : Hid ((Bl.begun key.length).length = 8) := by unfold Hid; simp [Bl.begun, Bl.begins]
    have HRES : Hid (Bl.keyed32 key b = Bl.out (Bl.absorb ((Bl.text key b).length + 1) (Bl.begun key.length) (Bl.text key b) 0) 32) := rfl
    generalize hRR : Bl.absorb ((Bl.text key b).length + 1) (Bl.begun key.length) (Bl.text key b) 0 = R at HRES
    have hrl : R.length = 8 := by rw [← hRR]; exact len_absorb _ _ _ _ HBL.out
    have HST : Hid (St (Bl.text key b) R (Bl.begun key.length) 0) := .inl ⟨.inl rfl, (Bl.text key b).length + 1, by rw [List.drop_zero]; omega, by rw [List.drop_zero]; exact hRR⟩
    have HRL := Lib.hid hrl
    generalize Bl.begun key.length = hh0 at HR3 HBL HST
    generalize hTX : Bl.text key b = T at HT3 HST HTL hct21 HO2 ⊢
    have htl := HTL.out
    obtain ⟨_, _, hat2, hct, _, _⟩ := HT3.out
    clear hR3 hF3 hRR hrl hx0 hf0 hxc hz1 hz2 hz e0 HR2 HK2 HX HO2 hTX HLT HTL HK HB
    go_wp2_with fail
    go_loopw [7, 8] (fun v7 v8 wr => ∃ (g7 c7 a : Nat) (h : List UInt32), v7 = .slice (some ⟨g7, 0, none⟩) 8 c7 ∧ v8 = .int .i64 a ∧ h.length = 8 ∧ a ≤ T.length + 64 ∧ R32 wr g7 h ∧ KR w wr ∧ Bs wr (fun _ => True) (.slice At2 T.length ct2) T ∧ St T R h a) (fun _ v8 _ => T.length + 65 - (intOf v8).toNat)
    case atStart => exact ⟨gh, ch, 0, _, rfl, rfl, HBL.out, by omega, HR3.out, HK3.out, HT3.out, HST.out⟩
    case round =>
      clear HBL HR3 HK3 HT3 HST
      obtain ⟨g7, c7, a, h, rfl, rfl, hh, hal, hr7, hkr, hbs, hst⟩ := hrel
      obtain ⟨wo, rfl⟩ : ∃ wo : World, wo = wr := ⟨_, rfl⟩
      have HH := Lib.hid hh
      have HR7 := Lib.hid hr7
      have HKR := Lib.hid hkr
      have HT := Lib.hid hbs
      have HST := Lib.hid hst
      have hlt0 := hkr.lt
      clear hh hr7 hkr hbs hst
      by_cases hnd : a = 0 ∨ a < T.length
      · go_upto_region 13 with (fail)
        go_cut [57] (fun v wx => v = .bool true ∧ wx = wo)
        case first =>
          by_cases hlt : a < T.length
          · have h1 : decide (a < T.length) = true := decide_eq_true hlt
            have h2 : (a : Int) < (T.length : Int) := by omega
            go_wp2_with fail
            go_meet
            exact ⟨rfl, rfl⟩
          · obtain rfl : a = 0 := by omega
            have h1 : decide (0 < T.length) = false := decide_eq_false hlt
            have h2 : ¬ 0 < T.length := hlt
            go_wp2_with fail
            go_meet
            exact ⟨rfl, rfl⟩
        case rest =>
          obtain ⟨rfl, rfl⟩ := hcut
          obtain ⟨wo, rfl⟩ : ∃ w, w = wc := ⟨_, rfl⟩
          obtain ⟨e, he1, he2, he3, he4⟩ : ∃ e : Nat, e = min (a + 64) T.length ∧ a ≤ e ∧ e ≤ T.length ∧ e ≤ a + 64 := ⟨_, rfl, by omega, by omega, by omega⟩
          go_upto_region 15 with (fail)
          go_cut [9] (fun v wx => v = .int .i64 e ∧ wx = wo)
          case first =>
            by_cases hl : (a : Int) + 64 < (T.length : Int)
            · go_wp2_with fail
              all_goals
                go_meet
                exact ⟨by go_num, rfl⟩
            · go_wp2_with fail
              all_goals
                go_meet
                exact ⟨by go_num, rfl⟩
          case rest =>
            obtain ⟨rfl, rfl⟩ := hcut
            obtain ⟨wo, rfl⟩ : ∃ w, w = wc := ⟨_, rfl⟩
            have HE := Lib.hid he1
            clear he1
            have hrd : ∀ A', (0 < e - a → A' = Option.map (fun x => x.add a) At2) → Rd wo (fun _ => True) 1 A' (e - a) (((T.drop a).take (e - a)).map u8v) := fun A' hA => by
              obtain ⟨A, c, ee, _, _, hr⟩ := HT.out
              cases ee
              exact hr.cutv (a := a) (m := e - a) (by omega) hA
            have HRD := Lib.hid hrd
            have hl1 : ([] : List UInt8).length + (e - a) ≤ 1099511627776 := by simp; omega
            have hea : (a : Int) ≤ (e : Int) := by omega
            have hec : (e : Int) ≤ (ct2 : Int) := by omega
            clear hrd
            go_upto_region 17 with (fail)
            go_cut [10] (fun v wx => ∃ bv, v = bv ∧ OwnB wx wo.heap.size bv ((T.drop a).take (e - a)) ∧ Below wo.heap.size wo wx)
            case first =>
              by_cases hca : ct2 = a
              · have h0 : ¬ 0 < e - a := by omega
                subst hca
                go_wp2_with (at_builtin; go_must (refine app_b rfl (.tmp 65) (.tmp 69) rfl wo.heap.size _ [] rfl (OwnB.nil _ _) (fun _ => True) _ _ _ ((T.drop ct2).take (e - ct2)) rfl (HRD.out _ (fun h => absurd h h0)) hl1 (Nat.le_refl _) ?_); intro v1 w1 ho1 hg1 _; simp only [List.nil_append] at ho1)
                go_meet
                exact ⟨_, rfl, ho1, (Below.refl _ _).grown hg1 (Nat.le_refl _) (fun g hg => by cases hg)⟩
              · go_wp2_with (at_builtin; go_must (refine app_b rfl (.tmp 65) (.tmp 69) rfl wo.heap.size _ [] rfl (OwnB.nil _ _) (fun _ => True) _ _ _ ((T.drop a).take (e - a)) rfl (HRD.out _ (fun _ => rfl)) hl1 (Nat.le_refl _) ?_); intro v1 w1 ho1 hg1 _; simp only [List.nil_append] at ho1)
                go_meet
                exact ⟨_, rfl, ho1, (Below.refl _ _).grown hg1 (Nat.le_refl _) (fun g hg => by cases hg)⟩
            case rest =>
              obtain ⟨bv, rfl, ho1, hb1⟩ := hcut
              have HO1 := Lib.hid ho1
              have HB1 := Lib.hid hb1
              have HPL : Hid (((T.drop a).take (e - a)).length = e - a) := by unfold Hid; simp; omega
              have HPC := Lib.hid (piece_of T a e HE.out he2)
              generalize (T.drop a).take (e - a) = p at HO1 HPL HPC
              clear ho1 hb1 HRD
              go_wp2_with fail
              go_loopw [10] (fun v wr => ∃ k : Nat, k ≤ 64 - (e - a) ∧ OwnB wr wo.heap.size v (p ++ List.replicate k 0) ∧ Below wo.heap.size wo wr) (fun v _ => 64 - sliceLen v)
              case atStart => exact ⟨0, by omega, by simpa using HO1.out, HB1.out⟩
              case round =>
                clear HO1 HB1
                obtain ⟨k, hk, ho, hbz⟩ := hrel
                obtain ⟨A, c, rfl, hc1, hc2⟩ := ho.form
                have hlen : (p ++ List.replicate k 0).length = (e - a) + k := by rw [List.length_append, HPL.out, List.length_replicate]
                rw [hlen] at ho hc1
                rw [hlen]
                have HO := Lib.hid ho
                have HBZ := Lib.hid hbz
                have hsz := hbz.size
                have hl3 : (p ++ List.replicate k 0).length + 1 ≤ 1099511627776 := by rw [hlen]; omega
                clear ho hbz
                by_cases hlt : k < 64 - (e - a)
                · have hi1 : (((e - a) + k : Nat) : Int) < 64 := by omega
                  have hi2 : (e - a) + k < 64 := by omega
                  clear hlen
                  go_wp2_with (at_builtin; go_must (refine app_b rfl (.tmp 74) (.tmp 75) rfl wo.heap.size _ (p ++ List.replicate k 0) rfl (HO.out.alloc _) (wr.heap.size ≤ ·) (some ⟨wr.heap.size, 0, none⟩) 1 1 [0] rfl (Rd.one 0 _) hl3 (by simp; omega) ?_); intro v2 w2 ho2 hg2 _; have hb2 : Below wo.heap.size wo w2 := (HBZ.out.alloc hsz _).grown hg2 (by simp; omega) (fun g hg => (HO.out.lt g hg).1); clear hg2)
                  refine ⟨⟨k + 1, by omega, ?_, hb2⟩, ?_⟩
                  · rw [rep_snoc, ← List.append_assoc]
                    exact ho2
                  · obtain ⟨A2, c2, rfl, _, _⟩ := ho2.form
                    simp [sliceLen, HPL.out]
                    omega
                · obtain rfl : k = 64 - (e - a) := by omega
                  have h64 : (e - a) + (64 - (e - a)) = 64 := by omega
                  rw [h64] at HO hc1 ⊢
                  rw [HPC.out] at HO
                  have HR8 := Lib.hid (HR7.out.keep (HBZ.out.block g7 HR7.out.lt))
                  have HBP : Hid (Bs wr (wo.heap.size ≤ ·) (.slice A 64 c) (Bl.piece (T.drop a))) := HO.out.bs
                  clear HO HPC HPL hlen hl3 h64
                  have hcnt : IntKind.u64.wrap (e : Int) = (e : Int) := by rw [IntKind.wrap_u64]; omega
                  by_cases hlast : e = T.length
                  · have hle : T.length ≤ a + 64 := by have := HE.out; omega
                    clear HE
                    subst hlast
                    have hq : ((T.length : Int) == (T.length : Int)) = true := by simp
                    go_wp2_with fail
                    refine (press_ref (S := fun _ => True) _ _ h _ (Bl.piece (T.drop a)) T.length true _ HH.out (len_piece _) (by omega) (HR8.out.rd trivial HH.out) HBP.out).mono ?_
                    rintro e3 w3 ⟨v3, rfl, ho3, hb3⟩
                    obtain ⟨g8, c8, rfl, _, _, hr8, _, _⟩ := ho3.at_ (by rw [len_press]; omega)
                    rw [len_press]
                    have HR9 := Lib.hid hr8
                    have HB3 := Lib.hid (HBZ.out.trans (hb3.mono HBZ.out.size))
                    clear ho3 hb3 hr8
                    go_wp2_with fail
                    go_roundw
                    case rel => exact ⟨g8, c8, a + 64, Bl.press h (Bl.piece (T.drop a)) T.length true, rfl, by go_num, len_press _ _ _ _, by omega, HR9.out, HKR.out.below HB3.out (by omega), HT.out.below HB3.out (Nat.le_refl _), HST.out.last hnd (by omega)⟩
                    case measure => simp [intOf]; omega
                  · have hq : ((e : Int) == (T.length : Int)) = false := by rw [beq_eq_false_iff_ne]; omega
                    have hq2 : (e == T.length) = false := by rw [beq_eq_false_iff_ne]; omega
                    have HEQ : Hid (e = a + 64) := by have := HE.out; unfold Hid; omega
                    clear HE
                    go_wp2_with fail
                    refine (press_ref (S := fun _ => True) _ _ h _ (Bl.piece (T.drop a)) e false _ HH.out (len_piece _) (by omega) (HR8.out.rd trivial HH.out) HBP.out).mono ?_
                    rintro e3 w3 ⟨v3, rfl, ho3, hb3⟩
                    obtain ⟨g8, c8, rfl, _, _, hr8, _, _⟩ := ho3.at_ (by rw [len_press]; omega)
                    rw [len_press]
                    have HR9 := Lib.hid hr8
                    have HB3 := Lib.hid (HBZ.out.trans (hb3.mono HBZ.out.size))
                    clear ho3 hb3 hr8
                    go_wp2_with fail
                    go_roundw
                    case rel =>
                      have hEq := HEQ.out
                      refine ⟨g8, c8, a + 64, Bl.press h (Bl.piece (T.drop a)) (a + 64) false, rfl, by go_num, len_press _ _ _ _, by omega, ?_, HKR.out.below HB3.out (by omega), HT.out.below HB3.out (Nat.le_refl _), HST.out.more (by omega)⟩
                      rw [← hEq]
                      exact HR9.out
                    case measure => simp [intOf]; omega
      · have h1 : decide (a < T.length) = false := decide_eq_false (by omega)
        have h2 : ¬ a < T.length := by omega
        have h3 : ((a : Int) == 0) = false := by rw [beq_eq_false_iff_ne]; omega
        have hR := HST.out.done (by omega) (by omega)
        subst hR
        have hg7 := HR7.out.lt
        have hP : W8 (wo.alloc (.cells #[.int .u8 0, .int .u8 0, .int .u8 0, .int .u8 0, .int .u8 0, .int .u8 0, .int .u8 0, .int .u8 0, .int .u8 0, .int .u8 0, .int .u8 0, .int .u8 0, .int .u8 0, .int .u8 0, .int .u8 0, .int .u8 0, .int .u8 0, .int .u8 0, .int .u8 0, .int .u8 0, .int .u8 0, .int .u8 0, .int .u8 0, .int .u8 0, .int .u8 0, .int .u8 0, .int .u8 0, .int .u8 0, .int .u8 0, .int .u8 0, .int .u8 0, .int .u8 0] 25)) wo.heap.size 25 (outk h 0) := heap_alloc_new wo _
        have hK : KR w (wo.alloc (.cells #[.int .u8 0, .int .u8 0, .int .u8 0, .int .u8 0, .int .u8 0, .int .u8 0, .int .u8 0, .int .u8 0, .int .u8 0, .int .u8 0, .int .u8 0, .int .u8 0, .int .u8 0, .int .u8 0, .int .u8 0, .int .u8 0, .int .u8 0, .int .u8 0, .int .u8 0, .int .u8 0, .int .u8 0, .int .u8 0, .int .u8 0, .int .u8 0, .int .u8 0, .int .u8 0, .int .u8 0, .int .u8 0, .int .u8 0, .int .u8 0, .int .u8 0, .int .u8 0] 25)) := HKR.out.alloc _
        have hR1 : R32 (wo.alloc (.cells #[.int .u8 0, .int .u8 0, .int .u8 0, .int .u8 0, .int .u8 0, .int .u8 0, .int .u8 0, .int .u8 0, .int .u8 0, .int .u8 0, .int .u8 0, .int .u8 0, .int .u8 0, .int .u8 0, .int .u8 0, .int .u8 0, .int .u8 0, .int .u8 0, .int .u8 0, .int .u8 0, .int .u8 0, .int .u8 0, .int .u8 0, .int .u8 0, .int .u8 0, .int .u8 0, .int .u8 0, .int .u8 0, .int .u8 0, .int .u8 0, .int .u8 0, .int .u8 0] 25)) g7 h := HR7.out.keep (heap_alloc_old _ _ hg7)
        have HP := Lib.hid hP
        have HK := Lib.hid hK
        have HR1 := Lib.hid hR1
        clear hP hK hR1 HKR HR7 HT HST
        go_wp2_with fail
        go_loopw [12] (fun i wr => ∃ k : Nat, k ≤ 32 ∧ i = .int .i64 k ∧ KR w wr ∧ R32 wr g7 h ∧ W8 wr wo.heap.size 25 (outk h k)) (fun i _ => 32 - (intOf i).toNat)
        case atStart => exact ⟨0, by omega, rfl, HK.out, HR1.out, HP.out⟩
        case round =>
          clear HP HK HR1
          obtain ⟨k, hk, rfl, hkr, hr7, hp⟩ := hrel
          have HKR := Lib.hid hkr
          have HR7 := Lib.hid hr7
          have HP := Lib.hid hp
          clear hkr hr7 hp
          obtain ⟨wi, rfl⟩ : ∃ wi : World, wi = wr := ⟨_, rfl⟩
          by_cases hlt : k < 32
          · have hi1 : (k : Int) < 32 := by omega
            obtain ⟨x, ex, hx, _⟩ := HR7.out.get (i := k / 4) (by rw [HH.out]; omega)
            have hxl := u32_lt x
            have hcell := HP.out.cell (i := k) (by rw [outk_len _ _ hk]; exact hlt)
            have hfro := HP.out.frozen k
            have hi2 : (k : Int) / 4 < 8 := by omega
            have hi3 : (0 : Int) ≤ (k : Int) / 4 := by omega
            have hi4 : ((k : Int) / 4).toNat = k / 4 := by omega
            go_wp2_with fail
            go_loop [13, 14] (fun v j => ∃ m y : Nat, m ≤ k % 4 ∧ j = .int .i64 m ∧ v = .int .u32 (y : Int) ∧ y = x.toNat / 256 ^ m) (fun _ j => k % 4 - (intOf j).toNat)
            case atStart => exact ⟨0, x.toNat, by omega, rfl, rfl, by simp⟩
            case round =>
              obtain ⟨m, y, hm, rfl, rfl, hy⟩ := hrel
              have HY := Lib.hid hy
              have hyl : y < 4294967296 := by rw [hy]; exact Nat.lt_of_le_of_lt (Nat.div_le_self _ _) hxl
              clear hy
              by_cases hmt : m < k % 4
              · have hj1 : (m : Int) < (k : Int) % 4 := by omega
                have hj2 : (m : Int) < 4 := by omega
                go_wp2_with fail
                go_round
                case rel => exact ⟨m + 1, y / 256, by omega, by go_num, by go_num, by rw [HY.out, Nat.div_div_eq_div_mul, Nat.pow_succ]⟩
                case measure => simp [intOf]; omega
              · obtain rfl : m = k % 4 := by omega
                have hj1 : ¬ ((k % 4 : Nat) : Int) < (k : Int) % 4 := by omega
                have e : ((y : Int) % 256 : Int) = ((UInt8.ofNat (x.toNat / 2 ^ (8 * (k % 4)))).toNat : Int) := by
                  rw [HY.out, show (256 : Nat) = 2 ^ 8 from rfl, ← Nat.pow_mul]
                  exact u8_of (by simp)
                have HEV := Lib.hid e
                clear e
                go_wp2_with fail
                rw [HEV.out]
                have hpl : wo.heap.size < wi.heap.size := HP.out.lt
                have HZ : Hid (g7 ≠ wo.heap.size) := by unfold Hid; omega
                refine ⟨⟨k + 1, by omega, by go_num, ?_, ?_, ?_⟩, by simp [intOf]; omega⟩
                · exact ⟨HKR.out.r.far (p := ⟨wo.heap.size, k, none⟩) (by have := hlt0; show w.heap.size ≠ wo.heap.size; omega) _, HKR.out.b.setCell (by have := hlt0; simp; omega) _⟩
                · exact HR7.out.keep (Below.heap_setCell wi ⟨wo.heap.size, k, none⟩ _ g7 HZ.out)
                · rw [← outk_set _ _ hlt, ex.out]
                  exact HP.out.set k _
          · obtain rfl : k = 32 := by omega
            rw [show ((32 : Nat) : Int) = 32 from rfl]
            have ho : outk h 32 = Bl.keyed32 key b := by rw [HRES.out]; simp [outk]
            have hol := outk_len h 32 (by omega)
            have hp := HP.out
            rw [ho] at hp hol
            generalize hres : Bl.keyed32 key b = out at hp hol
            have HRS := Lib.hid hres
            have HP2 := Lib.hid hp
            have HOL := Lib.hid hol
            clear ho hol hp hres HP HRES
            go_upto_region 31 with (fail)
            refine wp_region_lit ?_
            refine wpList_load_row rfl _ (.tmp 11) rfl wo.heap.size rfl _ _ (0, 0) _ HP2.out Tryd.underlying25 rfl (info_hash_of HOL.out) ?_
            refine wpList_store_row rfl _ (.tmp 4) (.tmp 108) rfl w.heap.size (out.map u8v).toArray rfl rfl _ _ HKR.out.r (info_hash_of HOL.out) (by simp [HOL.out]) (all_u8 out) ?_
            go_frame
            go_wp2_with fail
            refine bodyPost_ret (results_cell_row (by rfl) _ _ w.heap.size _ (out.map u8v).toArray (0, 0) _ (by rfl) (setRow_heap _ _ _ _ _ _ HKR.out.r) Tryd.underlying25 rfl (info_hash_of HOL.out)) rfl ?_
            exact ⟨by rw [HRS.out], below_setRow HKR.out.b (Nat.le_refl _) _⟩

theorem keyed_nil_ref {S : Nat → Prop} (bv : Value) (b : List UInt8) (w : World) (hb : Bs w S bv b) (hbl : b.length ≤ 1000000000000) :
    Calls Tryd.prog 11 #[.slice none 0 0, bv] w (keyedPost w (Bl.sum b)) :=
  keyed_short_ref (S := fun _ => True) _ bv [] b w Bs.nil hb (by simp) hbl

set_option maxRecDepth 100000 in
set_option maxHeartbeats 1000000 in
theorem keyed_ref {S S' : Nat → Prop} (kv bv : Value) (key b : List UInt8) (w : World) (hk : Bs w S kv key) (hb : Bs w S' bv b) (hkl : key.length ≤ 1000000000000) (hbl : b.length ≤ 1000000000000) :
    Calls Tryd.prog 11 #[kv, bv] w (keyedPost w (Bl.keyed key b)) := by
  by_cases hs : key.length ≤ 32
  · rw [show Bl.keyed key b = Bl.keyed32 key b by unfold Bl.keyed; rw [if_pos hs]]
    exact keyed_short_ref kv bv key b w hk hb hs hbl
  · have HQ : Hid (Bl.keyed32 (Bl.sum key) b = Bl.keyed key b) := by unfold Hid Bl.keyed; rw [if_neg hs]
    obtain ⟨Ak, ck, rfl, hck, hck2, _⟩ := hk.op
    have HK := Lib.hid hk
    have HB := Lib.hid hb
    clear hk hb
    have hR : W8 (w.alloc (.cells #[.int .u8 0, .int .u8 0, .int .u8 0, .int .u8 0, .int .u8 0, .int .u8 0, .int .u8 0, .int .u8 0, .int .u8 0, .int .u8 0, .int .u8 0, .int .u8 0, .int .u8 0, .int .u8 0, .int .u8 0, .int .u8 0, .int .u8 0, .int .u8 0, .int .u8 0, .int .u8 0, .int .u8 0, .int .u8 0, .int .u8 0, .int .u8 0, .int .u8 0, .int .u8 0, .int .u8 0, .int .u8 0, .int .u8 0, .int .u8 0, .int .u8 0, .int .u8 0] 25)) w.heap.size 25 (List.replicate 32 0) := heap_alloc_new w _
    have hK0 : KR w (w.alloc (.cells #[.int .u8 0, .int .u8 0, .int .u8 0, .int .u8 0, .int .u8 0, .int .u8 0, .int .u8 0, .int .u8 0, .int .u8 0, .int .u8 0, .int .u8 0, .int .u8 0, .int .u8 0, .int .u8 0, .int .u8 0, .int .u8 0, .int .u8 0, .int .u8 0, .int .u8 0, .int .u8 0, .int .u8 0, .int .u8 0, .int .u8 0, .int .u8 0, .int .u8 0, .int .u8 0, .int .u8 0, .int .u8 0, .int .u8 0, .int .u8 0, .int .u8 0, .int .u8 0] 25)) := ⟨hR, (Below.refl _ _).alloc (Nat.le_refl _) _⟩
    have hd0 : decide (32 < key.length) = true := decide_eq_true (by omega)
    have hd1 : 32 < key.length := by omega
    have hd2 : (32 : Int) < (key.length : Int) := by omega
    have HSL := Lib.hid (Bl.len_sum key)
    have HKL := Lib.hid (Bl.len_keyed key b)
    go_enter Tryd.func11, Tryd.ntmps11
    go_upto_region 1 with (fail)
    generalize w.alloc (.cells #[.int .u8 0, .int .u8 0, .int .u8 0, .int .u8 0, .int .u8 0, .int .u8 0, .int .u8 0, .int .u8 0, .int .u8 0, .int .u8 0, .int .u8 0, .int .u8 0, .int .u8 0, .int .u8 0, .int .u8 0, .int .u8 0, .int .u8 0, .int .u8 0, .int .u8 0, .int .u8 0, .int .u8 0, .int .u8 0, .int .u8 0, .int .u8 0, .int .u8 0, .int .u8 0, .int .u8 0, .int .u8 0, .int .u8 0, .int .u8 0, .int .u8 0, .int .u8 0] 25) = w0 at hK0 ⊢
    have HK0 := Lib.hid hK0
    clear hR hK0
    go_upto_region 3 with (first
      | (go_at_call 11; refine (keyed_nil_ref _ key _ (HK.out.below HK0.out.b (Nat.le_refl _)) hkl).mono ?_; rintro e w1 ⟨rfl, hb1⟩; have HK1 := Lib.hid (HK0.out.below hb1 HK0.out.lt); clear hb1)
      | (refine wpList_store_row rfl _ (.tmp 5) (.tmp 19) rfl w1.heap.size ((Bl.sum key).map u8v).toArray rfl rfl _ _ (heap_alloc_new w1 _) (info_hash_of HSL.out) (by simp [HSL.out]) (all_u8 _) ?_))
    have hw2 : W8 ((w1.alloc (.cells #[.int .u8 0, .int .u8 0, .int .u8 0, .int .u8 0, .int .u8 0, .int .u8 0, .int .u8 0, .int .u8 0, .int .u8 0, .int .u8 0, .int .u8 0, .int .u8 0, .int .u8 0, .int .u8 0, .int .u8 0, .int .u8 0, .int .u8 0, .int .u8 0, .int .u8 0, .int .u8 0, .int .u8 0, .int .u8 0, .int .u8 0, .int .u8 0, .int .u8 0, .int .u8 0, .int .u8 0, .int .u8 0, .int .u8 0, .int .u8 0, .int .u8 0, .int .u8 0] 25)).setRow w1.heap.size ((Bl.sum key).map u8v).toArray) w1.heap.size 25 (Bl.sum key) := setRow_heap _ _ _ _ _ _ (heap_alloc_new w1 _)
    have hb2 : Below w1.heap.size w1 ((w1.alloc (.cells #[.int .u8 0, .int .u8 0, .int .u8 0, .int .u8 0, .int .u8 0, .int .u8 0, .int .u8 0, .int .u8 0, .int .u8 0, .int .u8 0, .int .u8 0, .int .u8 0, .int .u8 0, .int .u8 0, .int .u8 0, .int .u8 0, .int .u8 0, .int .u8 0, .int .u8 0, .int .u8 0, .int .u8 0, .int .u8 0, .int .u8 0, .int .u8 0, .int .u8 0, .int .u8 0, .int .u8 0, .int .u8 0, .int .u8 0, .int .u8 0, .int .u8 0, .int .u8 0] 25)).setRow w1.heap.size ((Bl.sum key).map u8v).toArray) := below_setRow ((Below.refl _ _).alloc (Nat.le_refl _) _) (Nat.le_refl _) _
    generalize (w1.alloc (.cells #[.int .u8 0, .int .u8 0, .int .u8 0, .int .u8 0, .int .u8 0, .int .u8 0, .int .u8 0, .int .u8 0, .int .u8 0, .int .u8 0, .int .u8 0, .int .u8 0, .int .u8 0, .int .u8 0, .int .u8 0, .int .u8 0, .int .u8 0, .int .u8 0, .int .u8 0, .int .u8 0, .int .u8 0, .int .u8 0, .int .u8 0, .int .u8 0, .int .u8 0, .int .u8 0, .int .u8 0, .int .u8 0, .int .u8 0, .int .u8 0, .int .u8 0, .int .u8 0] 25)).setRow w1.heap.size ((Bl.sum key).map u8v).toArray = w2 at hw2 hb2 ⊢
    generalize w1.heap.size = g at hw2 ⊢
    have HK2 := Lib.hid (HK1.out.below hb2 HK1.out.lt)
    have HW2 : Hid (Bs w2 (fun _ => True) (.slice (some ⟨g, 0, none⟩) 32 32) (Bl.sum key)) := Bs.mk (hw2.rd HSL.out) (Nat.le_refl _) (by omega)
    clear hw2 hb2 HK1
    go_wp2_with (first
      | (go_at_call 11; refine (keyed_short_ref _ _ (Bl.sum key) b _ HW2.out (HB.out.below HK2.out.b (Nat.le_refl _)) (by rw [HSL.out]; omega) hbl).mono ?_; rintro e w3 ⟨rfl, hb3⟩; rw [HQ.out]; have HK3 := Lib.hid (HK2.out.below hb3 HK2.out.lt); clear hb3)
      | (refine wpList_store_row rfl _ (.tmp 4) (.tmp 22) rfl w.heap.size ((Bl.keyed key b).map u8v).toArray rfl rfl _ _ HK3.out.r (info_hash_of HKL.out) (by simp [HKL.out]) (all_u8 _) ?_))
    refine bodyPost_ret (results_cell_row (by rfl) _ _ w.heap.size _ ((Bl.keyed key b).map u8v).toArray (0, 0) _ (by rfl) (setRow_heap _ _ _ _ _ _ HK3.out.r) Tryd.underlying25 rfl (info_hash_of HKL.out)) rfl ?_
    exact ⟨rfl, below_setRow HK3.out.b (Nat.le_refl _) _⟩

set_option maxHeartbeats 1000000 in
theorem sum_ref {S : Nat → Prop} (bv : Value) (b : List UInt8) (w : World) (hb : Bs w S bv b) (hbl : b.length ≤ 1000000000000) :
    Calls Tryd.prog 12 #[bv] w (keyedPost w (Bl.sum b)) := by
  have hR : W8 (w.alloc (.cells #[.int .u8 0, .int .u8 0, .int .u8 0, .int .u8 0, .int .u8 0, .int .u8 0, .int .u8 0, .int .u8 0, .int .u8 0, .int .u8 0, .int .u8 0, .int .u8 0, .int .u8 0, .int .u8 0, .int .u8 0, .int .u8 0, .int .u8 0, .int .u8 0, .int .u8 0, .int .u8 0, .int .u8 0, .int .u8 0, .int .u8 0, .int .u8 0, .int .u8 0, .int .u8 0, .int .u8 0, .int .u8 0, .int .u8 0, .int .u8 0, .int .u8 0, .int .u8 0] 25)) w.heap.size 25 (List.replicate 32 0) := heap_alloc_new w _
  have hB : Below w.heap.size w (w.alloc (.cells #[.int .u8 0, .int .u8 0, .int .u8 0, .int .u8 0, .int .u8 0, .int .u8 0, .int .u8 0, .int .u8 0, .int .u8 0, .int .u8 0, .int .u8 0, .int .u8 0, .int .u8 0, .int .u8 0, .int .u8 0, .int .u8 0, .int .u8 0, .int .u8 0, .int .u8 0, .int .u8 0, .int .u8 0, .int .u8 0, .int .u8 0, .int .u8 0, .int .u8 0, .int .u8 0, .int .u8 0, .int .u8 0, .int .u8 0, .int .u8 0, .int .u8 0, .int .u8 0] 25)) := (Below.refl _ _).alloc (Nat.le_refl _) _
  have HR := Lib.hid hR
  have HB := Lib.hid hB
  have HS := Lib.hid hb
  have HL := Lib.hid (Bl.len_sum b)
  clear hR hB hb
  go_enter Tryd.func12, Tryd.ntmps12
  go_wp2_with (first
    | (go_at_call 11; refine (keyed_nil_ref bv b _ (HS.out.below HB.out (Nat.le_refl _)) hbl).mono ?_; rintro e w1 ⟨rfl, hb1⟩; have HB1 := Lib.hid hb1; clear hb1)
    | (refine wpList_store_row rfl _ (.tmp 2) (.tmp 4) rfl w.heap.size ((Bl.sum b).map u8v).toArray rfl rfl _ _ (HR.out.keep (HB1.out.block _ HR.out.lt)) (info_hash_of HL.out) (by simp [HL.out]) (all_u8 _) ?_))
  refine bodyPost_ret (results_cell_row (by rfl) _ _ w.heap.size _ ((Bl.sum b).map u8v).toArray (0, 0) _ (by rfl) (setRow_heap _ _ _ _ _ _ (HR.out.keep (HB1.out.block _ HR.out.lt))) Tryd.underlying25 rfl (info_hash_of HL.out)) rfl ?_
  exact ⟨rfl, below_setRow (HB.out.trans (HB1.out.mono HB.out.size)) (Nat.le_refl _) _⟩
end Go.Proofs.YtdlbighnmbjofaaDoor
