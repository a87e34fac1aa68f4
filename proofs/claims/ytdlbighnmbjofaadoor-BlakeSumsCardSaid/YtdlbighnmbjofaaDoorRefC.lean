/- The reference's digests: a block pressed. -/
import Derived.Test.YtdlbighnmbjofaaDoorRefB
import Derived.Outline
import Derived.Deep.RegionHeld3
import Derived.Deep.AppendLies
import Derived.IntWalk
namespace Go.Proofs.YtdlbighnmbjofaaDoor
open Go Go.RowKit
attribute [local go_sem high] bop_add32 bop_xor32 bop_or32 uop_not32

theorem words_succ (b : List UInt8) (k : Nat) : Bl.words b (k + 1) = Bl.words b k ++ [Bl.wordAt b k] := by simp [Bl.words, List.range_succ]
theorem words_len (b : List UInt8) (k : Nat) : (Bl.words b k).length = k := by simp [Bl.words]
theorem fin_succ (h s : List UInt32) (k : Nat) : Bl.fin h s (k + 1) = Bl.fin h s k ++ [xor32 (h.getD k 0) (xor32 (s.getD k 0) (s.getD (k + 8) 0))] := by simp [Bl.fin, List.range_succ]
theorem Rd.word {w : World} {S : Nat → Prop} {A : Option Addr} {n : Nat} {l : List UInt32} (h : Rd w S 1 A n (l.map u32v)) {k : Nat} (hk : k < n) : ∃ g o x, A = some ⟨g, o, none⟩ ∧ (g < w.heap.size ∧ S g) ∧ l.getD k 0 = x ∧ w.cell? ⟨g, o + k, none⟩ = some (.int .u32 (x.toNat : Int)) := by
  obtain ⟨g, o, u, e, hb, hu, hc⟩ := h.cell (k := k) (by omega) (by omega)
  rw [List.getElem?_map] at hu
  cases hx : l[k]? with
  | none => rw [hx] at hu; cases hu
  | some b => rw [hx] at hu; cases hu; exact ⟨g, o, b, e, hb, by rw [List.getD_eq_getElem?_getD, hx]; rfl, hc⟩

/-- append onto a row of words of the call's own, at a step of a region that draws its order. -/
theorem step_app_w {w : World} {ops : Array Oper} {o : Oper} {a : Act} {K : Act → World → Prop} {Q : Exit → Act → World → Prop} {E : Prop} (hgd : o.guard = none) (s x : Operand)
    (ho : o.op = .call { callee := .builtin .append, args := #[s, x], argTypes := #[45, 45] })
    (base : Nat) (v : Value) (l : List UInt32) (hs : a.eval s = v) (hown : OwnW w base v l)
    (S : Nat → Prop) (A : Option Addr) (m c : Nat) (r : List UInt32) (hx : a.eval x = .slice A m c) (hr : Rd w S 1 A m (r.map u32v))
    (hlen : l.length + m ≤ 1099511627776) (hbase : base ≤ w.heap.size)
    (h : ∀ v' w', OwnW w' base v' (l ++ r) → w.grownBy w' v.ownBlock → (v'.ownBlock = v.ownBlock ∨ v'.ownBlock = some w.heap.size) → K (a.put o.dst v') w') :
    if Region.wanted o (yielded ops a.tmps) = true then Oper.wp Tryd.prog o a w K Q else E := by
  have hw : Region.wanted o (yielded ops a.tmps) = true := by simp [Region.wanted, hgd]
  rw [if_pos hw]
  obtain ⟨i0, hi, hz0, hz1, hz2⟩ := info_parts info_u32
  refine wp_app w s x _ ho base _ i0 _ 1 4 Tryd.underlying45 hi hz0 hz1 hz2 rfl (by omega) v l.length _ hs hown S A m c (r.map u32v) hx hr (one_u32 r) (by simp only [maxLen]; omega) (by omega) hbase fun v' w' h2 h3 h4 => h v' w' ?_ h3 h4
  have hm : r.length = m := by simpa using hr.1
  subst hm
  unfold OwnW
  simpa using h2

theorem Rw2.at_ {w : World} {B g n c : Nat} {ll : List (List Nat)} (h : Rw2 w B (.slice (some ⟨g, 0, none⟩) n c) ll) {k : Nat} {l : List Nat} (hl : ll[k]? = some l) :
    ∃ q, B ≤ q ∧ w.cell? ⟨g, k, none⟩ = some (.slice (some ⟨q, 0, none⟩) l.length l.length) ∧ w.heap[q]? = some (.cells (l.map fun (x : Nat) => Value.int .i64 (x : Int)).toArray 3 (0, 0)) := by
  obtain ⟨g', c', e, _, _, hr⟩ := h
  cases e
  obtain ⟨q, h1, _, h3, h4⟩ := hr k l hl
  exact ⟨q, h1, h3, h4⟩
theorem orders_at : ∀ k, k < 10 → ∃ l, Bl.orders[k]? = some l ∧ Bl.orders.getD k [] = l ∧ l.length = 16 ∧ ∀ j, j < 16 → l.getD j 0 < 16 := by
  intro k hk
  have h1 : k < Bl.orders.length := hk
  have h2 : ∀ l ∈ Bl.orders, l.length = 16 ∧ ∀ j, j < 16 → l.getD j 0 < 16 := by decide
  obtain ⟨h3, h4⟩ := h2 _ (List.getElem_mem h1)
  exact ⟨Bl.orders[k], List.getElem?_eq_getElem h1, by rw [List.getD_eq_getElem?_getD, List.getElem?_eq_getElem h1]; rfl, h3, h4⟩
theorem num_cell {w : World} {q : Nat} {l : List Nat} (h : w.heap[q]? = some (.cells (l.map fun (x : Nat) => Value.int .i64 (x : Int)).toArray 3 (0, 0))) {j : Nat} (hj : j < l.length) : w.cell? ⟨q, j, none⟩ = some (.int .i64 ((l.getD j 0 : Nat) : Int)) := by
  rw [cell_of_row _ _ _ _ _ _ h]
  simp [hj]

/-- The blocks as the rounds begin: the state g; the words gm; the tables. -/
structure PS (w wr : World) (g gm : Nat) (s m : List UInt32) (ov pv : Value) (Bm Bo Bp : Nat) : Prop where
  s : R32 wr g s
  m : R32 wr gm m
  o : Rw2 wr Bo ov Bl.orders
  p : Rw2 wr Bp pv placesL
  b : Below w.heap.size w wr
  wg : w.heap.size ≤ g
  gm : gm < g
  go : g < Bo
  gp : g < Bp
theorem PS.step {w wr w' : World} {g gm : Nat} {s s' m : List UInt32} {ov pv : Value} {Bm Bo Bp : Nat} (h : PS w wr g gm s m ov pv Bm Bo Bp) (hs : R32 w' g s') (hf : Fr (· = g) wr w') : PS w w' g gm s' m ov pv Bm Bo Bp :=
  ⟨hs, h.m.fr hf (by have := h.gm; omega), h.o.keep (fun q hq hb => hf.block q hq (by have := h.go; omega)), h.p.keep (fun q hq hb => hf.block q hq (by have := h.gp; omega)),
    h.b.trans (hf.below h.b.size (fun q e => by have := h.wg; omega)), h.wg, h.gm, h.go, h.gp⟩
theorem PS.drew {w wr : World} {g gm : Nat} {s m : List UInt32} {ov pv : Value} {Bm Bo Bp : Nat} (h : PS w wr g gm s m ov pv Bm Bo Bp) : PS w wr.drew g gm s m ov pv Bm Bo Bp :=
  h.step (s' := s) (h.s) (Fr.refl.drew)

set_option maxRecDepth 100000 in
set_option maxHeartbeats 4000000 in
theorem press_ref {S S' : Nat → Prop} (Ah : Option Addr) (ch : Nat) (h : List UInt32) (bv : Value) (b : List UInt8) (count : Nat) (last : Bool) (w : World) (hh : h.length = 8) (hb : b.length = 64) (hcb : count ≤ 1000000000000000)
    (Hh : Rd w S 1 Ah 8 (h.map u32v)) (Hb : Bs w S' bv b) :
    Calls Tryd.prog 22 #[.slice Ah 8 ch, bv, .int .u64 count, .bool last] w (RetW w (Bl.press h b count last)) := by
  obtain ⟨Ab, cb, rfl, _, _, hrb⟩ := Hb.op
  rw [hb] at hrb
  rw [hb]
  have HB := Lib.hid hrb
  have HBL := Lib.hid hb
  have HHL := Lib.hid hh
  have HH := Lib.hid Hh
  clear Hb hrb hb hh Hh
  go_enter Tryd.func22, Tryd.ntmps22
  go_wp2
  go_loopw [9, 10] (fun v i wr => ∃ k n : Nat, k ≤ 16 ∧ n = 4 * k ∧ i = .int .i64 n ∧ OwnW wr w.heap.size v (Bl.words b k) ∧ Below w.heap.size w wr) (fun _ i _ => 64 - (intOf i).toNat)
  case atStart => exact ⟨0, 0, by omega, rfl, rfl, OwnW.nil _ _, Below.refl _ _⟩
  case round =>
    obtain ⟨k, n, hk, hn, rfl, hown, hB⟩ := hrel
    have HO := Lib.hid hown
    have HBel := Lib.hid hB
    have hsz := hB.size
    clear hown hB
    by_cases hlt : k < 16
    · obtain ⟨g, o, _, rfl, ⟨hgl, _⟩, _, _⟩ := HB.out.byte (k := n) (by omega)
      obtain ⟨g1, o1, x0, e1, _, hx0, c0⟩ := (HB.out.below HBel.out (Nat.le_refl _)).byte (k := n) (by omega)
      cases e1
      obtain ⟨g1, o1, x1, e1, _, hx1, c1⟩ := (HB.out.below HBel.out (Nat.le_refl _)).byte (k := n + 1) (by omega)
      cases e1
      obtain ⟨g1, o1, x2, e1, _, hx2, c2⟩ := (HB.out.below HBel.out (Nat.le_refl _)).byte (k := n + 2) (by omega)
      cases e1
      obtain ⟨g1, o1, x3, e1, _, hx3, c3⟩ := (HB.out.below HBel.out (Nat.le_refl _)).byte (k := n + 3) (by omega)
      cases e1
      have HX : Hid (Bl.wordAt b k = le32 x0 x1 x2 x3) := by
        unfold Hid Bl.wordAt
        rw [← hn]
        simp only [List.getD_eq_getElem?_getD, hx0, hx1, hx2, hx3]
        rfl
      clear hx0 hx1 hx2 hx3
      have l0 := u8_lt x0
      have l1 := u8_lt x1
      have l2 := u8_lt x2
      have l3 := u8_lt x3
      have hn64 : n + 3 < 64 := by omega
      have HN := Lib.hid hn
      clear hn
      have hi0 : (n : Int) < 64 := by omega
      go_wp2
      have ha1 : 0 ≤ (n : Int) + 1 := by omega
      have hb1 : (n : Int) + 1 < 64 := by omega
      have ht1 : ((n : Int) + 1).toNat = n + 1 := by omega
      have ha2 : 0 ≤ (n : Int) + 2 := by omega
      have hb2 : (n : Int) + 2 < 64 := by omega
      have ht2 : ((n : Int) + 2).toNat = n + 2 := by omega
      have ha3 : 0 ≤ (n : Int) + 3 := by omega
      have hb3 : (n : Int) + 3 < 64 := by omega
      have ht3 : ((n : Int) + 3).toNat = n + 3 := by omega
      have hw1 : IntKind.i64.wrap ((n : Int) + 1) = (n : Int) + 1 := IntWalk.i64_in _ (by omega)
      have hw2 : IntKind.i64.wrap ((n : Int) + 2) = (n : Int) + 2 := IntWalk.i64_in _ (by omega)
      have hw3 : IntKind.i64.wrap ((n : Int) + 3) = (n : Int) + 3 := IntWalk.i64_in _ (by omega)
      have hv0 : IntKind.u32.wrap (x0.toNat : Int) = (x0.toNat : Int) := by rw [IntKind.wrap_u32']; omega
      have hv1 : IntKind.u32.wrap (x1.toNat : Int) = (x1.toNat : Int) := by rw [IntKind.wrap_u32']; omega
      have hv2 : IntKind.u32.wrap (x2.toNat : Int) = (x2.toNat : Int) := by rw [IntKind.wrap_u32']; omega
      have hv3 : IntKind.u32.wrap (x3.toNat : Int) = (x3.toNat : Int) := by rw [IntKind.wrap_u32']; omega
      have hm1 : IntKind.u32.wrap ((x1.toNat : Int) * 256) = (x1.toNat : Int) * 256 := by rw [IntKind.wrap_u32']; omega
      have hm2 : IntKind.u32.wrap ((x2.toNat : Int) * 65536) = (x2.toNat : Int) * 65536 := by rw [IntKind.wrap_u32']; omega
      have hm3 : IntKind.u32.wrap ((x3.toNat : Int) * 16777216) = (x3.toNat : Int) * 16777216 := by rw [IntKind.wrap_u32']; omega
      have hs1 : IntKind.u32.wrap ((x0.toNat : Int) + (x1.toNat : Int) * 256) = (x0.toNat : Int) + (x1.toNat : Int) * 256 := by rw [IntKind.wrap_u32']; omega
      have hs2 : IntKind.u32.wrap ((x0.toNat : Int) + (x1.toNat : Int) * 256 + (x2.toNat : Int) * 65536) = (x0.toNat : Int) + (x1.toNat : Int) * 256 + (x2.toNat : Int) * 65536 := by rw [IntKind.wrap_u32']; omega
      obtain ⟨x, hx, hs3⟩ : ∃ x : UInt32, Hid (le32 x0 x1 x2 x3 = x) ∧ IntKind.u32.wrap ((x0.toNat : Int) + (x1.toNat : Int) * 256 + (x2.toNat : Int) * 65536 + (x3.toNat : Int) * 16777216) = (x.toNat : Int) := ⟨_, rfl, by rw [IntKind.wrap_u32', Int.emod_eq_of_lt (by omega) (by omega)]; exact le_sum rfl⟩
      have hlen : (Bl.words b k).length + 1 ≤ 1099511627776 := by rw [words_len]; omega
      have hgo := fun k hk => (HO.out.lt k hk).1
      have HGO := Lib.hid hgo
      clear hgo
      go_region_held3 (fun W => W.cell? ⟨g, o + n, none⟩ = some (.int .u8 (x0.toNat : Int)) ∧ W.cell? ⟨g, o + (n + 1), none⟩ = some (.int .u8 (x1.toNat : Int)) ∧ W.cell? ⟨g, o + (n + 2), none⟩ = some (.int .u8 (x2.toNat : Int)) ∧ W.cell? ⟨g, o + (n + 3), none⟩ = some (.int .u8 (x3.toNat : Int)))
        (first
          | go_keep
          | (go_split_ands
             refine ⟨?_, ?_, ?_, ?_⟩
             · (rw [hgrow.cell_far _ (by simp; omega) (fun e => by have := HGO.out _ e.symm; simp at this; omega)]; assumption)
             · (rw [hgrow.cell_far _ (by simp; omega) (fun e => by have := HGO.out _ e.symm; simp at this; omega)]; assumption)
             · (rw [hgrow.cell_far _ (by simp; omega) (fun e => by have := HGO.out _ e.symm; simp at this; omega)]; assumption)
             · (rw [hgrow.cell_far _ (by simp; omega) (fun e => by have := HGO.out _ e.symm; simp at this; omega)]; assumption)))
        (first
          | (refine step_app_w rfl (.tmp 22) (.tmp 52) rfl w.heap.size _ (Bl.words b k) rfl (OwnW.drew (HO.out.alloc _)) (wr.heap.size ≤ ·) (some ⟨wr.heap.size, 0, none⟩) 1 1 [x] rfl (Rd.oneW x _) hlen (by simp; omega) ?_; intro v' w1 hown' hgrow _))
      go_wp2
      have hb1 : Below w.heap.size w w1 := (below_drew (HBel.out.alloc hsz _)).grown hgrow (by simp; omega) (fun g hg => (HO.out.lt g hg).1)
      go_roundw
      case rel =>
        refine ⟨k + 1, n + 4, by omega, by have := HN.out; omega, by go_num, ?_, hb1⟩
        rw [words_succ, HX.out, hx.out]
        exact hown'
      case measure => simp [intOf]; omega
    · obtain rfl : k = 16 := by omega
      obtain rfl : n = 64 := by omega
      clear hk hlt hn
      rw [show ((64 : Nat) : Int) = 64 from rfl]
      obtain ⟨wm, rfl⟩ : ∃ wm, wm = wr := ⟨_, rfl⟩
      obtain ⟨gm, cm, rfl, hgm1, hgm2, hrm, hcm, hcm2⟩ := HO.out.at_ (by rw [words_len]; omega)
      rw [words_len] at hcm
      rw [words_len]
      have HM := Lib.hid hrm
      clear hrm HO HB
      have hm1 : ([] : List UInt32).length + 8 ≤ 1099511627776 := by decide
      have hm2 : ([] ++ h).length + 8 ≤ 1099511627776 := by rw [List.nil_append, HHL.out]; decide
      go_upto_region 9 with (first
        | (at_builtin; refine app_w rfl (.tmp 54) (.tmp 55) rfl wm.heap.size _ [] rfl (OwnW.nil _ _) S Ah 8 ch h rfl (HH.out.below HBel.out (Nat.le_refl _)) hm1 (Nat.le_refl _) ?_; intro v1 w1 ho1 hg1 _; have hb1 : Below wm.heap.size wm w1 := (Below.refl _ _).grown hg1 (Nat.le_refl _) (fun g hg => by cases hg); have HB1 := Lib.hid hb1; have HO1 := Lib.hid ho1; clear hg1 hb1 ho1)
        | (go_at_call 21; refine (begins_ref _).mono ?_; rintro e w2 ⟨v2, rfl, ho2, hb2⟩; obtain ⟨g2, c2, rfl, _, _, hr2, _, _⟩ := ho2.at_ (by decide); have HR2 := Lib.hid hr2; have HB2 := Lib.hid (HB1.out.trans (hb2.mono HB1.out.size)); have HO2 := Lib.hid (HO1.out.below hb2 (Nat.le_refl _)); clear hb2 ho2 hr2 HO1 HB1)
        | (at_builtin; refine app_w rfl (.tmp 57) (.tmp 58) rfl wm.heap.size _ ([] ++ h) rfl HO2.out (fun _ => True) (some ⟨g2, 0, none⟩) 8 c2 Bl.begins rfl (HR2.out.rd trivial rfl) hm2 HB2.out.size ?_; intro v3 w3 ho3 hg3 _; have hb3 : Below wm.heap.size wm w3 := HB2.out.grown hg3 HB2.out.size (fun g hg => (HO2.out.lt g hg).1); have HB3 := Lib.hid hb3; have HO3 := Lib.hid ho3; clear hg3 hb3 ho3 HO2 HB2 HR2))
      have HSL : Hid ((h ++ Bl.begins).length = 16) := by unfold Hid; rw [List.length_append, HHL.out]; rfl
      obtain ⟨g, c, rfl, hg1, hg2, hrs, hc1, hc2⟩ := HO3.out.at_ (by rw [List.nil_append, HSL.out]; omega)
      rw [List.nil_append] at hrs hc1
      rw [List.nil_append]
      rw [HSL.out] at hc1
      rw [HSL.out]
      have HS := Lib.hid hrs
      have HM3 := Lib.hid (HM.out.keep (HB3.out.block gm hgm2))
      have HB4 := Lib.hid (HBel.out.trans (HB3.out.mono HBel.out.size))
      clear hrs HO3 HM
      obtain ⟨x12, e12, hx12, hf12⟩ := HS.out.get (i := 12) (by rw [HSL.out]; omega)
      obtain ⟨z1, hz1, hcw⟩ : ∃ z : UInt32, Hid (UInt32.ofNat count = z) ∧ IntKind.u32.wrap ((count : Int) % 4294967296) = (z.toNat : Int) := ⟨_, rfl, by rw [IntKind.wrap_u32']; simp⟩
      obtain ⟨z2, hz2, hcv⟩ : ∃ z : UInt32, Hid (UInt32.ofNat (count / 4294967296) = z) ∧ IntKind.u32.wrap ((count : Int) / 4294967296) = (z.toNat : Int) := ⟨_, rfl, by rw [IntKind.wrap_u32']; simp⟩
      obtain ⟨x13, e13, hx13, hf13⟩ := HS.out.get (i := 13) (by rw [HSL.out]; omega)
      go_upto_if 78 with (fail)
      have hP4 := (HS.out.set 12 (xor32 x12 z1)).set 13 (xor32 x13 z2)
      have hb4 : Fr (· = g) w3 ((w3.setCell ⟨g, 12, none⟩ (.int .u32 ((xor32 x12 z1).toNat : Int))).setCell ⟨g, 13, none⟩ (.int .u32 ((xor32 x13 z2).toNat : Int))) := (Fr.setCell (T := (· = g)) _ rfl).trans (Fr.setCell (T := (· = g)) _ rfl) (fun _ _ h => h)
      generalize (w3.setCell ⟨g, 12, none⟩ (.int .u32 ((xor32 x12 z1).toNat : Int))).setCell ⟨g, 13, none⟩ (.int .u32 ((xor32 x13 z2).toNat : Int)) = w4 at hP4 hb4 ⊢
      have HP4 := Lib.hid hP4
      have HF4 := Lib.hid hb4
      clear hP4 hb4 hx12 hf12 hx13 hf13 hcw hcv HS
      obtain ⟨x14, e14, c14, f14⟩ := HP4.out.get (i := 14) (by simp only [List.length_set]; rw [HSL.out]; omega)
      have HST : Hid (Bl.start h count last = if last then (((h ++ Bl.begins).set 12 (xor32 x12 z1)).set 13 (xor32 x13 z2)).set 14 (not32 x14) else ((h ++ Bl.begins).set 12 (xor32 x12 z1)).set 13 (xor32 x13 z2)) := by
        have a1 := e12.out; have a2 := e13.out; have a3 := e14.out; have a4 := hz1.out; have a5 := hz2.out
        have e : ((h ++ Bl.begins).set 12 (xor32 x12 z1)).getD 13 0 = x13 := by rw [← a2]; simp
        have e2 : UInt32.ofNat (count / 4294967296) = z2 := a5
        unfold Hid Bl.start
        simp only [a1, a4, e, e2, a3]
      go_cut [78] (fun _ wx => R32 wx g (Bl.start h count last) ∧ Fr (· = g) w3 wx)
      case first =>
        cases last
        · go_wp2_with fail
          go_meet
          exact ⟨by rw [HST.out]; exact HP4.out, HF4.out⟩
        · go_wp2_with fail
          go_meet
          exact ⟨by rw [HST.out]; exact HP4.out.set 14 _, HF4.out.trans (Fr.setCell (T := (· = g)) _ rfl) (fun _ _ h => h)⟩
      case rest =>
        obtain ⟨hP5, hf5⟩ := hcut
        have HP5 := Lib.hid hP5
        have HB5 := Lib.hid (HB4.out.trans (hf5.below HB4.out.size (fun q e => by omega)))
        have HM5 := Lib.hid (HM3.out.fr hf5 (by omega))
        have HSL5 : Hid ((Bl.start h count last).length = 16) := by rw [HST.out]; cases last <;> simpa [Hid] using HSL.out
        have hg5 : g < wc.heap.size := hP5.lt
        clear hP5 hf5 c14 f14 e14 e12 e13 hz1 hz2 HST HP4 HF4 HM3 HB4 HSL
        generalize hs0 : Bl.start h count last = s0 at *
        have HS0 := Lib.hid hs0
        clear hs0
        go_upto_region 15 with (first
          | (go_at_call 25; refine (orders_ref _).mono ?_; rintro e w6 ⟨ov, rfl, ho6, hb6⟩; have HO6 := Lib.hid ho6; have HB6 := Lib.hid (HB5.out.trans (hb6.mono HB5.out.size)); have HP6 := Lib.hid (HP5.out.keep (hb6.block _ HP5.out.lt)); have HM6 := Lib.hid (HM5.out.keep (hb6.block _ HM5.out.lt)); have hz6 := hb6.size; clear ho6 hb6)
          | (go_at_call 26; refine (places_ref _).mono ?_; rintro e w7 ⟨pv, rfl, hp7, hb7⟩; have HPS : Hid (PS w w7 g gm s0 (Bl.words b 16) ov pv 0 wc.heap.size w6.heap.size) := ⟨HP6.out.keep (hb7.block _ HP6.out.lt), HM6.out.keep (hb7.block _ HM6.out.lt), HO6.out.keep (fun q hq _ => hb7.block q hq), hp7, HB6.out.trans (hb7.mono HB6.out.size), by omega, by omega, by omega, by omega⟩; clear hp7 hb7))
        clear HO6 HB6 HP6 HM6 HP5 HB5 HM5
        obtain ⟨go, co, hov, _, _, _⟩ := HPS.out.o
        obtain ⟨gq, cq, hpv, _, _, _⟩ := HPS.out.p
        have hov : ov = .slice (some ⟨go, 0, none⟩) 10 co := hov
        have hpv : pv = .slice (some ⟨gq, 0, none⟩) 8 cq := hpv
        subst hov hpv
        have HML := Lib.hid (words_len b 16)
        generalize hbo : wc.heap.size = Bo at *
        generalize hbp : w6.heap.size = Bp at *
        clear hbo hbp
        go_wp2_with fail
        go_loopw [14] (fun r wr => ∃ k : Nat, k ≤ 10 ∧ r = .int .i64 k ∧ PS w wr g gm (Bl.rounds s0 (Bl.words b 16) k) (Bl.words b 16) (.slice (some ⟨go, 0, none⟩) 10 co) (.slice (some ⟨gq, 0, none⟩) 8 cq) 0 Bo Bp) (fun r _ => 10 - (intOf r).toNat)
        case atStart => exact ⟨0, by omega, rfl, HPS.out⟩
        case round =>
          clear HPS
          obtain ⟨k, hk, rfl, hps⟩ := hrel
          have HPS := Lib.hid hps
          clear hps
          by_cases hlt : k < 10
          · obtain ⟨l, hl1, hl2, hl3, hl4⟩ := orders_at k hlt
            have HL1 := Lib.hid hl1
            have HL2 := Lib.hid hl2
            have HL3 := Lib.hid hl3
            have HL4 := Lib.hid hl4
            clear hl1 hl2 hl3 hl4
            have hk1 : (k : Int) < 10 := by omega
            obtain ⟨wo, rfl⟩ : ∃ wo : World, wo = wr := ⟨_, rfl⟩
            have HSK : Hid ((Bl.rounds s0 (Bl.words b 16) k).length = 16) := by unfold Hid; rw [Bl.len_rounds]; exact HSL5.out
            generalize hsk : Bl.rounds s0 (Bl.words b 16) k = sk at HPS HSK
            have HSR := Lib.hid hsk
            clear hsk
            go_wp2_with fail
            go_loopw [15] (fun i wr => ∃ j : Nat, j ≤ 8 ∧ i = .int .i64 j ∧ PS w wr g gm (Bl.round sk (Bl.words b 16) l j) (Bl.words b 16) (.slice (some ⟨go, 0, none⟩) 10 co) (.slice (some ⟨gq, 0, none⟩) 8 cq) 0 Bo Bp) (fun i _ => 8 - (intOf i).toNat)
            case atStart => exact ⟨0, by omega, rfl, HPS.out⟩
            case round =>
              clear HPS
              obtain ⟨j, hj, rfl, hps⟩ := hrel
              have HPS := Lib.hid hps
              clear hps
              by_cases hjt : j < 8
              · have HRL : Hid ((Bl.round sk (Bl.words b 16) l j).length = 16) := by unfold Hid; rw [Bl.len_round]; exact HSK.out
                have HKS : Hid (Bl.round sk (Bl.words b 16) l (j + 1) = Bl.kstir (Bl.round sk (Bl.words b 16) l j) (Bl.words b 16) l j) := rfl
                generalize hst : Bl.round sk (Bl.words b 16) l j = st at HPS HRL HKS
                clear hst
                have hj1 : (j : Int) < 8 := by omega
                obtain ⟨q, hq1, cq1, hq2⟩ := HPS.out.p.at_ (places_at j hjt)
                obtain ⟨qo, hqo1, co1, hqo2⟩ := HPS.out.o.at_ HL1.out
                rw [HL3.out] at co1
                have cd := num_cell hqo2 (j := 2 * j) (by rw [HL3.out]; omega)
                have hd := HL4.out (2 * j) (by omega)
                generalize hdx : l.getD (2 * j) 0 = d1 at cd hd
                obtain ⟨x, ex, cx, _⟩ := HPS.out.m.get (i := d1) (by rw [HML.out]; exact hd)
                have HQ := Lib.hid hq2
                have HQO := Lib.hid hqo2
                have HDX := Lib.hid hdx
                clear hq2 hqo2 hdx
                have hd1 : (d1 : Int) < 16 := by omega
                have cq1 : wr.cell? ⟨gq, j, none⟩ = some (.slice (some ⟨q, 0, none⟩) 4 4) := cq1
                have hgq : q ≠ g := by have := HPS.out.gp; omega
                have hqog : qo ≠ g := by have := HPS.out.go; omega
                go_wp2_with fail
                have hw0 : IntKind.i64.wrap (2 * (j : Int)) = 2 * (j : Int) := IntWalk.i64_in _ (by omega)
                have ha0 : 0 ≤ 2 * (j : Int) := by omega
                have hb0 : 2 * (j : Int) < 16 := by omega
                have ht0 : (2 * (j : Int)).toNat = 2 * j := by omega
                refine region_tail 16 (by kernel_rfl) (by kernel_rfl) ?_
                simp only [List.take_succ_cons, List.take_zero, List.drop_succ_cons, List.drop_zero]
                repeat still_step
                refine wpStill_nil ?_
                clear hw0 ha0 hb0 ht0
                go_wp2_with (go_at_call 27; refine (half16 g q c _ _ _ _ x st _ HPS.out.drew.s HQ.out hgq HRL.out (by omega) (by omega) (by omega) (by omega)).mono ?_; rintro e w8 ⟨rfl, hr8, hf8⟩; have HPS8 := Lib.hid (HPS.out.drew.step hr8 hf8); have HF8 := Lib.hid hf8; clear hr8 hf8)
                have HRL8 : Hid ((Bl.half st (j % 4) (4 + (j % 4 + j / 4) % 4) (8 + (j % 4 + 2 * (j / 4)) % 4) (12 + (j % 4 + 3 * (j / 4)) % 4) x 16 12).length = 16) := by unfold Hid; rw [Bl.len_half]; exact HRL.out
                obtain ⟨q', _, cq1', hq2'⟩ := HPS8.out.p.at_ (places_at j hjt)
                obtain ⟨qo', hqo1', co1', hqo2'⟩ := HPS8.out.o.at_ HL1.out
                rw [HL3.out] at co1'
                have cd' := num_cell hqo2' (j := 2 * j + 1) (by rw [HL3.out]; omega)
                have hd' := HL4.out (2 * j + 1) (by omega)
                generalize hdx' : l.getD (2 * j + 1) 0 = d2 at cd' hd'
                obtain ⟨y, ey, cy, _⟩ := HPS8.out.m.get (i := d2) (by rw [HML.out]; exact hd')
                have HQ' := Lib.hid hq2'
                have HDX' := Lib.hid hdx'
                clear hq2' hqo2' hdx' HQO HQ cq1 co1 cd cx HPS HF8
                have hd2 : (d2 : Int) < 16 := by omega
                have cq1' : w8.cell? ⟨gq, j, none⟩ = some (.slice (some ⟨q', 0, none⟩) 4 4) := cq1'
                have hgq' : q' ≠ g := by have := HPS8.out.gp; omega
                have hw0 : IntKind.i64.wrap (2 * (j : Int)) = 2 * (j : Int) := IntWalk.i64_in _ (by omega)
                have hw1 : IntKind.i64.wrap (2 * (j : Int) + 1) = 2 * (j : Int) + 1 := IntWalk.i64_in _ (by omega)
                have ha0 : 0 ≤ 2 * (j : Int) + 1 := by omega
                have hb0 : 2 * (j : Int) + 1 < 16 := by omega
                have ht0 : (2 * (j : Int) + 1).toNat = 2 * j + 1 := by omega
                refine region_tail 17 (by kernel_rfl) (by kernel_rfl) ?_
                simp only [List.take_succ_cons, List.take_zero, List.drop_succ_cons, List.drop_zero]
                repeat still_step
                refine wpStill_nil ?_
                clear hw0 ha0 hb0 ht0 hw1
                go_wp2_with (go_at_call 27; refine (half8 g q' c _ _ _ _ y _ _ HPS8.out.drew.s HQ'.out hgq' HRL8.out (by omega) (by omega) (by omega) (by omega)).mono ?_; rintro e w9 ⟨rfl, hr9, hf9⟩; have HPS9 := Lib.hid (HPS8.out.drew.step hr9 hf9); clear hr9 hf9)
                go_roundw
                case rel =>
                  refine ⟨j + 1, by omega, by go_num, ?_⟩
                  rw [HKS.out]
                  unfold Bl.kstir Bl.stir
                  rw [HDX.out, HDX'.out, ex.out, ey.out]
                  exact HPS9.out
                case measure => simp [intOf]; omega
              · obtain rfl : j = 8 := by omega
                rw [show ((8 : Nat) : Int) = 8 from rfl]
                go_wp2_with fail
                go_roundw
                case rel =>
                  refine ⟨k + 1, by omega, by go_num, ?_⟩
                  show PS w _ g gm (Bl.round (Bl.rounds s0 (Bl.words b 16) k) (Bl.words b 16) (Bl.orders.getD k []) 8) _ _ _ _ _ _
                  rw [HL2.out, HSR.out]
                  exact HPS.out
                case measure => simp [intOf]; omega
          · obtain rfl : k = 10 := by omega
            rw [show ((10 : Nat) : Int) = 10 from rfl]
            have HSK : Hid ((Bl.rounds s0 (Bl.words b 16) 10).length = 16) := by unfold Hid; rw [Bl.len_rounds]; exact HSL5.out
            have HPR : Hid (Bl.press h b count last = Bl.fin h (Bl.rounds s0 (Bl.words b 16) 10) 8) := by unfold Hid Bl.press; rw [HS0.out]
            have HRS := Lib.hid HPS.out.s
            have HRB := Lib.hid HPS.out.b
            generalize Bl.rounds s0 (Bl.words b 16) 10 = s at HRS HSK HPR
            obtain ⟨wz, rfl⟩ : ∃ wz : World, wz = wr := ⟨_, rfl⟩
            clear HPS HS0 HSL5 HML
            go_wp2_with fail
            go_loopw [16, 17] (fun v i wr => ∃ k : Nat, k ≤ 8 ∧ i = .int .i64 k ∧ OwnW wr wz.heap.size v (Bl.fin h s k) ∧ Below wz.heap.size wz wr) (fun _ i _ => 8 - (intOf i).toNat)
            case atStart => exact ⟨0, by omega, rfl, OwnW.nil _ _, Below.refl _ _⟩
            case round =>
              obtain ⟨i, hi, rfl, hown, hB⟩ := hrel
              have HO := Lib.hid hown
              have HBz := Lib.hid hB
              have hsz := hB.size
              clear hown hB
              have hgz : g < wz.heap.size := HRS.out.lt
              by_cases hlt : i < 8
              · have hbw := HRB.out.trans (HBz.out.mono HRB.out.size)
                obtain ⟨gh, oh, xh, rfl, ⟨hghl, _⟩, hxh, ch0⟩ := HH.out.word (k := i) (by omega)
                have chh : wr.cell? ⟨gh, oh + i, none⟩ = some (.int .u32 (xh.toNat : Int)) := (hbw.cell (p := ⟨gh, oh + i, none⟩) hghl).trans ch0
                obtain ⟨y, ey, cy, _⟩ := (HRS.out.keep (HBz.out.block g hgz)).get (i := i) (by rw [HSK.out]; omega)
                obtain ⟨z, ez, cz, _⟩ := (HRS.out.keep (HBz.out.block g hgz)).get (i := i + 8) (by rw [HSK.out]; omega)
                have HXH := Lib.hid hxh
                have hghz : gh < wz.heap.size := by have := HRB.out.size; omega
                clear hxh ch0 hbw
                have hi1 : (i : Int) < 8 := by omega
                have hi16 : (i : Int) < 16 := by omega
                have hw1 : IntKind.i64.wrap ((i : Int) + 8) = (i : Int) + 8 := IntWalk.i64_in _ (by omega)
                have ha1 : 0 ≤ (i : Int) + 8 := by omega
                have hb1 : (i : Int) + 8 < 16 := by omega
                have ht1 : ((i : Int) + 8).toNat = i + 8 := by omega
                have hlen : (Bl.fin h s i).length + 1 ≤ 1099511627776 := by rw [Bl.len_fin]; omega
                have hgo := fun k hk => (HO.out.lt k hk).1
                have HGO := Lib.hid hgo
                clear hgo
                go_wp2_with fail
                go_region_held3 (fun W => W.cell? ⟨gh, oh + i, none⟩ = some (.int .u32 (xh.toNat : Int)) ∧ W.cell? ⟨g, i, none⟩ = some (.int .u32 (y.toNat : Int)) ∧ W.cell? ⟨g, i + 8, none⟩ = some (.int .u32 (z.toNat : Int)))
                  (first
                    | go_keep
                    | (go_split_ands
                       refine ⟨?_, ?_, ?_⟩
                       · (rw [hgrow.cell_far _ (by simp; omega) (fun e => by have := HGO.out _ e.symm; simp at this; omega)]; assumption)
                       · (rw [hgrow.cell_far _ (by simp; omega) (fun e => by have := HGO.out _ e.symm; simp at this; omega)]; assumption)
                       · (rw [hgrow.cell_far _ (by simp; omega) (fun e => by have := HGO.out _ e.symm; simp at this; omega)]; assumption)))
                  (first
                    | (refine step_app_w rfl (.tmp 134) (.tmp 150) rfl wz.heap.size _ (Bl.fin h s i) rfl (OwnW.drew (HO.out.alloc _)) (wr.heap.size ≤ ·) (some ⟨wr.heap.size, 0, none⟩) 1 1 [xor32 (xor32 xh y) z] rfl (Rd.oneW _ _) hlen (by simp; omega) ?_; intro v' w1 hown' hgrow _))
                go_wp2_with fail
                have hb2 : Below wz.heap.size wz w1 := (below_drew (HBz.out.alloc hsz _)).grown hgrow (by simp; omega) (fun g hg => (HO.out.lt g hg).1)
                go_roundw
                case rel =>
                  refine ⟨i + 1, by omega, by go_num, ?_, hb2⟩
                  rw [fin_succ, HXH.out, ey.out, ez.out, ← xor32_assoc]
                  exact hown'
                case measure => simp [intOf]; omega
              · obtain rfl : i = 8 := by omega
                rw [show ((8 : Nat) : Int) = 8 from rfl]
                go_wp2_with fail
                go_ret
                exact ⟨_, rfl, by rw [HPR.out]; exact HO.out.low HRB.out.size, HRB.out.trans (HBz.out.mono HRB.out.size)⟩
end Go.Proofs.YtdlbighnmbjofaaDoor
