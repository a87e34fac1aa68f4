/- The program's digests: a digit of an order; a round. -/
import Derived.Test.YtdlbighnmbjofaaDoorBlakeA
import Derived.Test.YtdlbighnmbjofaaDoorRegion
import Derived.Outline
import Derived.IntWalk
namespace Go.Proofs.YtdlbighnmbjofaaDoor
open Go Go.RowKit
attribute [local go_sem high] bop_add32 bop_xor32 bop_or32 uop_not32

/-- What a hexadecimal digit tells. -/
def dig (c : UInt8) : Nat := if 97 ≤ c.toNat then c.toNat - 97 + 10 else c.toNat - 48

theorem digit_any (c : UInt8) (w : World) (h : 48 ≤ c.toNat) :
    Calls Tryd.prog 28 #[.int .u8 (c.toNat : Int)] w fun e w' => e = .returned (.int .i64 (dig c : Int)) ∧ w' = w := by
  have hlt := u8_lt c
  unfold dig
  by_cases hc : 97 ≤ c.toNat
  · rw [if_pos hc]
    go_enter Tryd.func28, Tryd.ntmps28
    go_wp2
    go_ret
    exact ⟨ret_int (by omega), rfl⟩
  · rw [if_neg hc]
    go_enter Tryd.func28, Tryd.ntmps28
    go_wp2
    go_ret
    exact ⟨ret_int (by omega), rfl⟩

theorem stir_at (g : Nat) (t : TypeId) (a b c d : Nat) (a' b' c' d' : Int) (x y : UInt32) (s : List UInt32) (w : World) (h : W32 w g t s) (hs : s.length = 16) (ha : a < 16) (hb : b < 16) (hc : c < 16) (hd : d < 16)
    (ea : a' = a) (eb : b' = b) (ec : c' = c) (ed : d' = d) :
    Calls Tryd.prog 29 #[.pointer (some ⟨g, 0, none⟩), .int .i64 a', .int .i64 b', .int .i64 c', .int .i64 d', .agg #[.int .u32 (x.toNat : Int), .int .u32 (y.toNat : Int)]] w
      fun e w' => e = .returned (.tuple #[]) ∧ W32 w' g t (Bl.stir s a b c d x y) ∧ Fr (· = g) w w' := by
  subst ea eb ec ed
  exact stir_any g t a b c d x y s w h hs ha hb hc hd

theorem run_str_at {t : TypeId} (h : Tryd.prog.underlying t = some .string) {s : ByteArray} {i : Nat} {c : UInt8} (hc : s.data.toList[i]? = some c) {k : IntKind} {z : Int} (hz : z = i) (w : World) :
    (Instr.index t (.string s) (.int k z)).run Tryd.prog w = .ok (.int .u8 (c.toNat : Int)) w := by
  subst hz
  have hi : i < s.data.toList.length := (List.getElem?_eq_some_iff.1 hc).1
  have hs : i < s.size := by simpa using hi
  rw [run_index_string _ _ _ _ _ h, dif_pos ⟨by omega, by omega⟩]
  have e : s[i] = c := by
    have := (List.getElem?_eq_some_iff.1 hc).2
    rw [← this]; rfl
  simp only [Int.toNat_natCast, e]

set_option maxRecDepth 100000 in
set_option maxHeartbeats 1000000 in
theorem round_any (g gm : Nat) (t tm : TypeId) (s m : List UInt32) (ba : ByteArray) (w : World) (h : W32 w g t s) (hm : W32 w gm tm m) (hs : s.length = 16) (hml : m.length = 16) (hne : gm ≠ g)
    (hba : ba.size = 16) (hd : ∀ (j : Nat) (c : UInt8), ba.data.toList[j]? = some c → 48 ≤ c.toNat ∧ dig c < 16) :
    Calls Tryd.prog 24 #[.pointer (some ⟨g, 0, none⟩), .pointer (some ⟨gm, 0, none⟩), .string ba] w
      fun e w' => e = .returned (.tuple #[]) ∧ W32 w' g t (Bl.round s m (ba.data.toList.map dig) 8) ∧ Fr (· = g) w w' := by
  have hg := h.lt
  have hgm := hm.lt
  have H := Lib.hid h
  have HM := Lib.hid hm
  have HS := Lib.hid hs
  have HML := Lib.hid hml
  have HB := Lib.hid hba
  have HD := Lib.hid hd
  clear h hs hm hml hba hd
  go_enter Tryd.func24, Tryd.ntmps24
  go_wp2
  go_loopw [10] (fun i wr => ∃ k : Nat, k ≤ 8 ∧ i = .int .i64 k ∧ W32 wr g t (Bl.round s m (ba.data.toList.map dig) k) ∧ Fr (· = g) w wr) (fun i _ => 8 - (intOf i).toNat)
  case atStart => exact ⟨0, by omega, rfl, H.out, Fr.refl⟩
  case round =>
    obtain ⟨k, hk, rfl, hW, hF⟩ := hrel
    have hsz := hF.size
    have HW := Lib.hid hW
    have HF := Lib.hid hF
    clear hW hF
    by_cases hlt : k < 8
    · have hi1 : (k : Int) < 8 := by omega
      obtain ⟨c1, hc1⟩ : ∃ c, ba.data.toList[2 * k]? = some c := ⟨_, List.getElem?_eq_getElem (by have := HB.out; simp at this ⊢; omega)⟩
      obtain ⟨c2, hc2⟩ : ∃ c, ba.data.toList[2 * k + 1]? = some c := ⟨_, List.getElem?_eq_getElem (by have := HB.out; simp at this ⊢; omega)⟩
      obtain ⟨hd1, hd2⟩ := HD.out _ _ hc1
      obtain ⟨hd3, hd4⟩ := HD.out _ _ hc2
      have hr1 := fun w => run_str_at Tryd.underlying9 hc1 (k := .i64) (z := 2 * (k : Int)) (by omega) w
      have hr2 := fun w => run_str_at Tryd.underlying9 hc2 (k := .i64) (z := 2 * (k : Int) + 1) (by omega) w
      have HC1 := Lib.hid hc1
      have HC2 := Lib.hid hc2
      clear hc1 hc2
      have hl1 : (dig c1 : Int) < 16 := by omega
      have hl2 : (dig c2 : Int) < 16 := by omega
      have hmr := HM.out.fr HF.out hne
      go_wp2
      refine region_allocN 20 (fun W => W32 W gm tm m) ?aF (by kernel_rfl) (by kernel_rfl) (by kernel_rfl) hmr (fun obj => hmr.keep (heap_alloc_old _ _ hmr.lt)) (fun W hW => ?hu) ?hr
      case hu =>
        simp only [List.take_succ_cons, List.take_zero]
        obtain ⟨x, ex, hx, _⟩ := hW.get (i := dig c1) (by rw [HML.out]; exact hd2)
        obtain ⟨y, ey, hy, _⟩ := hW.get (i := dig c2) (by rw [HML.out]; exact hd4)
        rw [← ex.out] at hx
        rw [← ey.out] at hy
        clear hW ex ey
        have hw1 : IntKind.i64.wrap (2 * (k : Int)) = 2 * (k : Int) := IntWalk.i64_in _ (by omega)
        have hw2 : IntKind.i64.wrap (2 * (k : Int) + 1) = 2 * (k : Int) + 1 := IntWalk.i64_in _ (by omega)
        repeat still_step
        still_call (digit_any _ _ (by assumption))
        repeat still_step
        still_call (digit_any _ _ (by assumption))
        repeat still_step
        refine wpStill_nil ?_
        rfl
      simp only [List.drop_succ_cons, List.drop_zero]
      generalize hX : m[dig c1]?.getD 0 = x
      generalize hY : m[dig c2]?.getD 0 = y
      have HX := Lib.hid hX
      have HY := Lib.hid hY
      clear hX hY
      go_wp2_with fail
      refine NoP.normal ?_
      go_wp2_with fail
      have hW2 : W32 (wr.alloc (.cells #[.int .u32 (x.toNat : Int), .int .u32 (y.toNat : Int)] 58)).drew g t (Bl.round s m (ba.data.toList.map dig) k) := HW.out.keep (heap_alloc_old _ _ (by have := HW.out.lt; simpa using this))
      refine (stir_at g t (k % 4) (4 + (k % 4 + k / 4) % 4) (8 + (k % 4 + 2 * (k / 4)) % 4) (12 + (k % 4 + 3 * (k / 4)) % 4) _ _ _ _ x y _ _ hW2 (by rw [Bl.len_round]; exact HS.out) (by omega) (by omega) (by omega) (by omega) (by omega) (by omega) (by omega) (by omega)).mono ?_
      rintro e w1 ⟨rfl, hW1, hF1⟩
      have HW1 := Lib.hid hW1
      have HF1 := Lib.hid hF1
      clear hW1 hF1
      go_wp2
      go_roundw
      case rel =>
        refine ⟨k + 1, by omega, by go_num, ?_, ?_⟩
        · have e1 : (ba.data.toList.map dig).getD (2 * k) 0 = dig c1 := by rw [List.getD_eq_getElem?_getD, List.getElem?_map, HC1.out]; rfl
          have e2 : (ba.data.toList.map dig).getD (2 * k + 1) 0 = dig c2 := by rw [List.getD_eq_getElem?_getD, List.getElem?_map, HC2.out]; rfl
          show W32 w1 g t (Bl.kstir _ m _ k)
          unfold Bl.kstir
          rw [e1, e2, List.getD_eq_getElem?_getD, List.getD_eq_getElem?_getD, HX.out, HY.out]
          exact HW1.out
        · exact (HF.out.trans ((Fr.alloc (T := (· = g)) _).drew) (fun _ _ h => h)).trans HF1.out (fun _ _ h => h)
      case measure => simp [intOf]; omega
    · obtain rfl : k = 8 := by omega
      have h88 : (((8 : Nat) : Int) < 8) = False := by simp
      go_wp2
      go_end0
      exact ⟨rfl, HW.out, HF.out⟩
end Go.Proofs.YtdlbighnmbjofaaDoor
