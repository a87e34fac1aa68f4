/- Texts of this claim, laid together: Zs, K57, K58. -/
import Derived.Test.YtfhhfhdnhadooaaGreatDoorMSP
import Derived.Test.YtfhhfhdnhadooaaGreatDoorMBL
import Derived.Test.YtfhhfhdnhadooaaGreatDoorMBG
set_option linter.unusedVariables false
set_option linter.unusedSimpArgs false

namespace Go.Proofs.YtfhhfhdnhadooaaGreatDoor
open Go Go.RowKit

/-- A transaction by its cells. -/
structure ZD where
  A : Option Addr
  c : Nat
  B : Option Addr
  d : Nat
  t : DTx
def ZD.cs (z : ZD) : List Value := txC z.A z.t.ins.length z.c z.B z.t.outs.length z.d z.t.lock
def Zs (eI eO : Nat) : List ZD → (Nat → Prop) → World → Prop
  | [], _, _ => True
  | z :: l, S, W => ∃ S1 S2, Zp eI eO S1 z.A z.c z.B z.d z.t W ∧ Zs eI eO l S2 W ∧ (∀ g, S1 g → S g ∧ ¬ S2 g) ∧ ∀ g, S2 g → S g
section
variable {eI eO : Nat} {W W' : World}
theorem Zs.keep : ∀ {l : List ZD} {S : Nat → Prop}, Zs eI eO l S W → (∀ g, S g → W'.heap[g]? = W.heap[g]?) → Zs eI eO l S W'
  | [], _, _, _ => trivial
  | z :: l, S, ⟨S1, S2, h1, h2, h3, h4⟩, k => ⟨S1, S2, h1.keep (fun g hg => k g (h3 g hg).1), h2.keep (fun g hg => k g (h4 g hg)), h3, h4⟩
theorem Zs.snoc {z : ZD} {S1 : Nat → Prop} (hz : Zp eI eO S1 z.A z.c z.B z.d z.t W) : ∀ {l : List ZD} {S : Nat → Prop}, Zs eI eO l S W → (∀ g, S1 g → ¬ S g) → Zs eI eO (l ++ [z]) (fun g => S1 g ∨ S g) W
  | [], S, _, _ => ⟨S1, fun _ => False, hz, trivial, fun g hg => ⟨.inl hg, fun h => h⟩, fun g hg => hg.elim⟩
  | x :: l, S, ⟨Sx, Sr, h1, h2, h3, h4⟩, hd => ⟨Sx, fun g => S1 g ∨ Sr g, h1, Zs.snoc hz h2 (fun g hg hr => hd g hg (h4 g hr)), fun g hg => ⟨.inr (h3 g hg).1, fun e => e.elim (fun e => hd g e (h3 g hg).1) (h3 g hg).2⟩, fun g hg => hg.imp_right (h4 g)⟩
theorem Zs.rep : ∀ {l : List ZD} {S : Nat → Prop} {i : Nat} {z : ZD}, Zs eI eO l S W → l[i]? = some z → RTx W (0 ≤ ·) z.cs z.t
  | [], _, _, _, _, h => by simp at h
  | x :: l, S, 0, z, ⟨S1, S2, h1, _⟩, h => by
    obtain rfl : x = z := by simpa using h
    exact mono_Tx _ _ _ _ _ h1.r (fun g _ _ => Nat.zero_le _)
  | x :: l, S, i + 1, z, ⟨S1, S2, _, h2, _⟩, h => Zs.rep h2 (by simpa using h)
end
def Fact.zs (eI eO : Nat) (S : Nat → Prop) (l : List ZD) : Fact := ⟨S, Zs eI eO l S, fun _ _ h k => h.keep (fun g hg => k g hg)⟩
abbrev zcs (l : List ZD) : List Value := (l.map ZD.cs).flatten
theorem zcs_snoc {l : List ZD} {z : ZD} : zcs (l ++ [z]) = zcs l ++ z.cs := by simp [zcs]
theorem zcs_sub {l : List ZD} {i : Nat} {z : ZD} (h : l[i]? = some z) : sub (zcs l) (i * 3) 3 = z.cs :=
  sub_flat (s := 3) (l.map ZD.cs) i z.cs (fun c hc => by
    obtain ⟨x, _, rfl⟩ := List.mem_map.1 hc
    rfl) (by rw [List.getElem?_map, h]; rfl)
/-- Cells of a row, and what they lead to. -/
def Zb (e eI eO : Nat) (S : Nat → Prop) (A : Option Addr) (n c : Nat) (l : List ZD) (W : World) : Prop := W.ownsRow 0 e 3 (.slice A n c) n (zcs l) ∧ Zs eI eO l S W ∧ ∀ g, ownB A n c g → ¬ S g
def Fact.zb (e eI eO : Nat) (S : Nat → Prop) (A : Option Addr) (n c : Nat) (l : List ZD) : Fact :=
  ⟨fun g => ownB A n c g ∨ S g, Zb e eI eO S A n c l, fun _ _ h k => ⟨ownsRow_keep h.1 (fun g hg => k g (.inl hg)), h.2.1.keep (fun g hg => k g (.inr hg)), h.2.2⟩⟩
section
variable {T : Nat → Prop} {w0 W : World} {L : List Fact} {eI eO e : Nat}
/-- One fact told as two. -/
theorem St.split2 {F f1 f2 : Fact} (H : St T w0 W (F :: L)) (p1 : f1.p W) (p2 : f2.p W) (a1 : ∀ g, f1.fp g → F.fp g ∧ ¬ f2.fp g) (a2 : ∀ g, f2.fp g → F.fp g) : St T w0 W (f1 :: f2 :: L) := by
  have h1 := List.pairwise_cons.1 H.apart
  refine ⟨H.fr, fun x hx => ?_, fun x hx g hg => ?_, List.pairwise_cons.2 ⟨fun x hx g hg => ?_, List.pairwise_cons.2 ⟨fun x hx g hg => h1.1 x hx g (a2 g hg), h1.2⟩⟩⟩
  · simp only [List.mem_cons] at hx
    rcases hx with rfl | rfl | hx
    · exact p1
    · exact p2
    · exact H.holds x (.tail _ hx)
  · simp only [List.mem_cons] at hx
    rcases hx with rfl | rfl | hx
    · exact H.own _ (.head _) g (a1 g hg).1
    · exact H.own _ (.head _) g (a2 g hg)
    · exact H.own x (.tail _ hx) g hg
  · simp only [List.mem_cons] at hx
    rcases hx with rfl | hx
    · exact (a1 g hg).2
    · exact h1.1 x hx g (a1 g hg).1
theorem St.zs0 (H : St T w0 W L) (eI eO : Nat) : St T w0 W (Fact.zs eI eO (fun _ => False) [] :: L) := by
  refine ⟨H.fr, fun x hx => ?_, fun x hx g hg => ?_, List.pairwise_cons.2 ⟨fun x _ g hg => (hg : False).elim, H.apart⟩⟩
  · rcases List.mem_cons.1 hx with rfl | hx
    · exact trivial
    · exact H.holds x hx
  · rcases List.mem_cons.1 hx with rfl | hx
    · exact (hg : False).elim
    · exact H.own x hx g hg
theorem St.zsnoc {S1 S : Nat → Prop} {A : Option Addr} {c : Nat} {B : Option Addr} {d : Nat} {t : DTx} {l : List ZD} (H : St T w0 W (Fact.z eI eO S1 A c B d t :: Fact.zs eI eO S l :: L)) : St T w0 W (Fact.zs eI eO (fun g => S1 g ∨ S g) (l ++ [⟨A, c, B, d, t⟩]) :: L) := by
  have h1 : Zp eI eO S1 A c B d t W := H.holds _ (.head _)
  have h2 : Zs eI eO l S W := H.holds _ (.tail _ (.head _))
  exact H.merge (F := Fact.zs eI eO _ _) (Zs.snoc (z := ⟨A, c, B, d, t⟩) h1 h2 (fun g hg => (List.pairwise_cons.1 H.apart).1 _ (.head _) g hg)) (fun g hg => hg)
theorem St.zhead {S : Nat → Prop} {z : ZD} {l : List ZD} (H : St T w0 W (Fact.zs eI eO S (z :: l) :: L)) : ∃ S1 S2, St T w0 W (Fact.z eI eO S1 z.A z.c z.B z.d z.t :: Fact.zs eI eO S2 l :: L) := by
  obtain ⟨S1, S2, h1, h2, h3, h4⟩ : Zs eI eO (z :: l) S W := H.holds _ (.head _)
  exact ⟨S1, S2, H.split2 (f1 := Fact.z eI eO S1 z.A z.c z.B z.d z.t) (f2 := Fact.zs eI eO S2 l) h1 h2 h3 h4⟩
theorem St.zbmk {S : Nat → Prop} {A : Option Addr} {n c : Nat} {l : List ZD} (H : St T w0 W (Fact.row e 3 (.slice A n c) n (zcs l) :: Fact.zs eI eO S l :: L)) : St T w0 W (Fact.zb e eI eO S A n c l :: L) := by
  have h1 : W.ownsRow 0 e 3 (.slice A n c) n (zcs l) := H.holds _ (.head _)
  have h2 : Zs eI eO l S W := H.holds _ (.tail _ (.head _))
  exact H.merge (F := Fact.zb e eI eO S A n c l) ⟨h1, h2, fun g hg => (List.pairwise_cons.1 H.apart).1 _ (.head _) g hg⟩ (fun g hg => hg)
theorem zb_rl {S : Nat → Prop} {A : Option Addr} {c : Nat} {l : List ZD} {ts : List DTx} {n : Nat} (h : Zb e eI eO S A n c l W) (hn : l.length = n) (ht : l.map (·.t) = ts) : RL 3 RTx W (0 ≤ ·) [.slice A ts.length c] ts := by
  subst hn ht
  have hr := Rd.of_own h.1
  obtain ⟨_, _, hv, hc1, hc2⟩ := row_form h.1
  cases hv
  refine ⟨A, c, zcs l, by rw [List.length_map], by rw [List.length_map]; exact hc1, hc2, by rw [List.length_map]; exact hr, fun i x hx => ?_⟩
  rw [List.getElem?_map] at hx
  cases hz : l[i]? with
  | none => rw [hz] at hx; cases hx
  | some z =>
    rw [hz] at hx
    obtain rfl : z.t = x := by simpa using hx
    rw [zcs_sub hz]
    exact h.2.1.rep hz
end
end Go.Proofs.YtfhhfhdnhadooaaGreatDoor

namespace Go.Proofs.YtfhhfhdnhadooaaGreatDoor
open Go Go.RowKit
attribute [local irreducible] wpList

theorem markT (i : Int) (w : World) (h1 : 0 ≤ i ∧ i ≤ 1000000000000000) : Calls Tryz.prog 111 [.int .i64 i].toArray w (Ret (Is w (.agg (txC none 0 0 none 0 0 (-9 - i)).toArray))) := by
 refine k_enter (l := [_]) Tryz.func111 rfl rfl ?_
 have H := St.start nT w
 refine k_seq (k_region (s_eff (e_alloc (w_none rfl) rfl rfl [.slice none 0 0, .slice none 0 0, .int .i64 0] tz34 H ?_)))
 clear H; intro go W H
 refine l_nil (k_seq (k_region (sMi rfl rfl rfl rfl (sR rfl rfl (d_sub rfl rfl rfl (by omega)) (sR rfl rfl (d_build (vs := txC none 0 0 none 0 0 (-9 - i)) rfl (built_fields (places := [(0, 1), (1, 1), (2, 1)]) tz34 (by kernel_rfl) (by kernel_rfl) (fill_skip 2 (fill_next (vs := [.int .i64 (-9 - i)]) (.int .i64 (-9 - i)) rfl (by rfl) rfl rfl (Nat.le_of_ble_eq_true rfl) (fill_end (by rfl)))))) ?_)))))
 refine s_eff (e_stoK (txC none 0 0 none 0 0 (-9 - i)) (w_none rfl) rfl rfl rfl rfl rfl ts34 rfl rfl H (by decide) rfl ?_)
 clear H; intro W H
 refine l_nil (k_ret ?_)
 repeat (first | refine r_then ?_ | refine r_blk ?_)
 exact q_retc rfl (c := txC none 0 0 none 0 0 (-9 - i)) (g := go) H rfl ta34 (by rw [show (txC none 0 0 none 0 0 (-9 - i)).length = 3 from rfl]; exact ts34) ⟨_, rfl, rfl, H.under⟩

set_option maxHeartbeats 4000000 in
theorem spoilTs {A : Option Addr} {m c : Nat} {xs : List Value} (w : World) (hR : w.ownsRow 0 34 3 (.slice A m c) m xs) (hm : m ≤ 1000000000000) : Calls Tryz.prog 58 [.slice A m c].toArray w (Ret (fun v' w' => v' = .tuple #[] ∧ Fr (fun g => (Value.slice A m c).ownBlock = some g) w w')) := by
 have H0 := St.begin (f := Fact.row 34 3 (.slice A m c) m xs) hR (fun g hg => own_lt hR hg)
 refine k_enter (l := [_]) Tryz.func58 rfl rfl ?_
 have H := H0
 refine k_seq (k_region (sAi rfl rfl rfl rfl (l_nil (k_block (k_loop 2 [] (fun mm sl W => ∃ i : Nat, ∃ ys : List Value, m - i = mm ∧ sl = [(2, .int .i64 (i : Int))] ∧ (i ≤ m) ∧ St (fun g => (Value.slice A m c).ownBlock = some g) w W [Fact.row 34 3 (.slice A m c) m ys]) _ _ ⟨0, xs, rfl, rfl, Nat.zero_le _, H⟩ ⟨rfl, trivial⟩ (fun mm sl ρv W hJ => ?_))))))
 clear H; obtain ⟨i, ys, rfl, rfl, hi, H⟩ := hJ
 refine k_one (k_seq (k_seq (k_region (sMi rfl rfl rfl rfl (sMs rfl rfl rfl rfl (sR rfl rfl (d_len rfl rfl tu22) (sR rfl rfl (d_lt rfl rfl rfl) (l_nil (k_cond rfl (fun hc6 => ?_) (fun hc6 => ?_))))))))))
 ·replace hc6 := of_decide_eq_true hc6
  have hlt : i < m := by omega
  obtain ⟨g0, rfl⟩ := row_own (H.get (f := Fact.row 34 3 (.slice A m c) m ys)) (by omega)
  have hmul := Nat.mul_le_mul_right 3 (show i + 1 ≤ m by omega)
  rw [Nat.add_mul] at hmul
  refine k_skip (k_seq (k_block (k_region (sMs rfl rfl rfl rfl (sMi rfl rfl rfl rfl (sMi rfl rfl rfl rfl (sR rfl rfl (d_add rfl rfl rfl (by omega)) (sC rfl rfl rfl Tryz.func111 rfl rfl rfl (markT _ _ ⟨by omega, by omega⟩) ?_))))))))
  rintro _ W ⟨rfl, hb⟩
  replace H := H.below hb
  clear hb
  refine sR rfl rfl (d_iaP (q := i) rfl rfl rfl rfl hlt tu22 ts34) (s_eff (e_stoGM (g := g0) (q := 0 + i * 3) (e := 34) (s := 3) (m := m) (c := c) (vs := txC none 0 0 none 0 0 (-9 - ((i : Int) + 7))) (w_none rfl) rfl rfl rfl rfl rfl (by rw [show (txC none 0 0 none 0 0 (-9 - ((i : Int) + 7))).length = 3 from rfl]; exact ts34) rfl H (by rw [show (txC none 0 0 none 0 0 (-9 - ((i : Int) + 7))).length = 3 from rfl]; omega) ?_))
  clear H; intro W ys2 H
  refine l_nil (k_nil (b_end (k_region (sMi rfl rfl rfl rfl (sR rfl rfl (d_add rfl rfl rfl (by omega)) (sAi rfl rfl rfl rfl (l_nil (k_nil (k_next ?_)))))))))
  refine ⟨_, _, _, ?_, rfl, ?_, ?_, ⟨i + 1, _, rfl, rfl, by omega, H⟩⟩
  ·omega
  ·repeat (first | (with_reducible refine .updl _ .ovr ?_); exact rfl | (with_reducible refine .updl _ (.ovr2 ?_ ?_) ?_); rotate_left; exact rfl; exact rfl | (with_reducible refine .upd ?_ ?_); rotate_left; exact rfl)
  ·refine ⟨?_, trivial⟩
   ·exact vi (by omega)
 ·skip
  refine k_exit (x_then (x_then ?_))
  exact x_hit (k_nil (q_end0 rfl ⟨_, rfl, rfl, H.fr⟩))

theorem lt_ofB {T : Nat → Prop} {w0 W : World} {L : List Fact} {f : Fact} (H : St T w0 W L) [hi : In f L] : ∀ g, f.fp g → g < W.heap.size := fun g hg => (H.own f hi.mem g hg).2

set_option maxHeartbeats 4000000 in
theorem spoilBlock {S : Nat → Prop} {A : Option Addr} {n c : Nat} {l : List ZD} {h : DHeader} (w : World) (hh : Bk.OkH h) (hz : Zb 34 64 66 S A n c l w) (hlt : ∀ g, (ownB A n c g ∨ S g) → g < w.heap.size) (hn : n = l.length) (hm : n ≤ 1000000) : Calls Tryz.prog 27 [.agg (blkC h A n c).toArray].toArray w (Ret (fun v' w' => v' = .tuple #[] ∧ Fr (fun g => ownB A n c g ∨ S g) w w')) := by
 have H9 := St.begin (f := Fact.zb 34 64 66 S A n c l) hz hlt
 have H0 : St (fun g => ownB A n c g ∨ S g) w w [Fact.row 34 3 (.slice A n c) n (zcs l), Fact.zs 64 66 S (l)] := H9.split2 (f1 := Fact.row 34 3 (.slice A n c) n (zcs l)) (f2 := Fact.zs 64 66 S (l)) hz.1 hz.2.1 (fun g hg => ⟨.inl hg, hz.2.2 g hg⟩) (fun g hg => .inr hg)
 clear H9
 refine k_enter (l := [_]) Tryz.func27 rfl rfl ?_
 have H := H0
 refine k_seq (k_region (s_eff (e_box (vs := (blkC h A n c)) (w_none rfl) rfl rfl rfl rfl H ?_)))
 clear H; intro gm W H
 refine l_nil (k_seq (k_seq (k_region (sAi rfl rfl rfl rfl (l_nil (k_block (k_loop 2 [] (fun mm sl W => ∃ i : Nat, ∃ S' : Nat → Prop, n - i = mm ∧ sl = [(2, .int .i64 (i : Int))] ∧ (i ≤ n) ∧ St (fun g => ownB A n c g ∨ S g) w W [Fact.blk gm (blkC h A n c) 28, Fact.row 34 3 (.slice A n c) n (zcs l), Fact.zs 64 66 S' (l.drop i)]) _ _ ⟨0, S, rfl, rfl, Nat.zero_le _, H⟩ ⟨rfl, trivial⟩ (fun mm sl ρv W hJ => ?_))))))))
 clear H; obtain ⟨i, S', rfl, rfl, hi, H⟩ := hJ
 refine k_one (k_seq (k_seq (k_region (sMi rfl rfl rfl rfl (sR rfl rfl (d_fa rfl rfl tf28_1) (sR rfl rfl (d_ldX (g := gm) (off := 65) rfl H (sub_b_txs hh) rfl rfl ta22) (sR rfl rfl (d_len rfl rfl tu22) (sR rfl rfl (d_lt rfl rfl rfl) (l_nil (k_cond rfl (fun hc7 => ?_) (fun hc7 => ?_)))))))))))
 ·have hlt2 : i < n := by simp at hc7; omega
  obtain ⟨g1, rfl⟩ := row_own (H.get (f := Fact.row 34 3 (.slice A n c) n (zcs l))) (by omega)
  obtain ⟨z, hz1⟩ := get_lt (l := l) (i := i) (by omega)
  have hdr : l.drop i = z :: l.drop (i + 1) := by
   obtain ⟨q1, q2⟩ := List.getElem?_eq_some_iff.1 hz1
   rw [← q2, List.drop_eq_getElem_cons q1]
  rw [hdr] at H
  obtain ⟨S1, S2, H9⟩ := St.zhead (H.perm (List.perm_middle (l₁ := [_, _])))
  clear H
  have H : St _ w W [Fact.z 64 66 S1 z.A z.c z.B z.d z.t, Fact.zs 64 66 S2 (l.drop (i + 1)), Fact.blk gm (blkC h (some ⟨g1, 0, none⟩) n c) 28, Fact.row 34 3 (.slice (some ⟨g1, 0, none⟩) n c) n (zcs l)] := H9
  clear H9
  refine k_skip (k_seq (k_block (k_region (sR rfl rfl (d_fa rfl rfl tf28_1) (sR rfl rfl (d_ldX (g := gm) (off := 65) rfl H (sub_b_txs hh) rfl rfl ta22) (sMi rfl rfl rfl rfl (sR rfl rfl (d_iaP (q := i) rfl rfl rfl rfl hlt2 tu22 ts34) (sR rfl rfl (d_ldEM (off := 0) (q := i) rfl (Rd.of_own (H.get (f := Fact.row 34 3 (.slice (some ⟨g1, 0, none⟩) n c) n (zcs l)))) hlt2 (zcs_sub hz1) (sub_all (a := z.cs) (m := 3) rfl) rfl rfl (by omega) ta34 ts34) (sC rfl rfl rfl Tryz.func57 rfl rfl rfl (spoilTx _ (H.get (f := Fact.z 64 66 S1 z.A z.c z.B z.d z.t)) (lt_ofB (f := Fact.z 64 66 S1 z.A z.c z.B z.d z.t) H)) ?_)))))))))
  rintro _ W ⟨rfl, hf_⟩
  replace H := H.mut (f := Fact.z 64 66 S1 z.A z.c z.B z.d z.t) (f' := Fact.gone) hf_ trivial (fun _ h => h.elim)
  clear hf_
  refine l_nil (k_nil (b_end (k_region (sMi rfl rfl rfl rfl (sR rfl rfl (d_add rfl rfl rfl (by omega)) (sAi rfl rfl rfl rfl (l_nil (k_nil (k_next ?_)))))))))
  refine ⟨_, _, _, ?_, rfl, ?_, ?_, ⟨i + 1, S2, rfl, rfl, by omega, (H.drop.perm (List.perm_middle (l₁ := [_, _])).symm)⟩⟩
  ·omega
  ·repeat (first | (with_reducible refine .updl _ .ovr ?_); exact rfl | (with_reducible refine .updl _ (.ovr2 ?_ ?_) ?_); rotate_left; exact rfl; exact rfl | (with_reducible refine .upd ?_ ?_); rotate_left; exact rfl)
  ·refine ⟨?_, trivial⟩
   ·exact vi (by omega)
 ·skip
  refine k_exit (x_then (x_then ?_))
  refine x_hit (k_region (sR rfl rfl (d_fa rfl rfl tf28_1) (sR rfl rfl (d_ldX (g := gm) (off := 65) rfl H (sub_b_txs hh) rfl rfl ta22) (sC rfl rfl rfl Tryz.func58 rfl rfl rfl (spoilTs _ (H.get (f := Fact.row 34 3 (.slice A n c) n (zcs l))) (by omega)) ?_))))
  rintro _ W ⟨rfl, hf_⟩
  replace H := H.mut (f := Fact.row 34 3 (.slice A n c) n (zcs l)) (f' := Fact.gone) hf_ trivial (fun _ h => h.elim)
  clear hf_
  exact l_nil (k_nil (q_end0 rfl ⟨_, rfl, rfl, H.fr⟩))
end Go.Proofs.YtfhhfhdnhadooaaGreatDoor

namespace Go.Proofs.YtfhhfhdnhadooaaGreatDoor
open Go Go.RowKit
attribute [local irreducible] wpList

/-- What a call of block.Get leaves, to be written over. -/
def GotBZ (w : World) (b : List UInt8) (v : Value) (w' : World) : Prop := ∃ S A c zl, v = .tuple #[.agg (blkC (Bk.get BTG b).1.header A (Bk.get BTG b).1.txs.length c).toArray, .int .i64 (Bk.get BTG b).2] ∧ zl.map (fun z : ZD => z.t) = (Bk.get BTG b).1.txs ∧ St nT w w' [Fact.zb 34 64 66 S A (Bk.get BTG b).1.txs.length c zl]
end Go.Proofs.YtfhhfhdnhadooaaGreatDoor
