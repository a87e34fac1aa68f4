/- Texts of this claim, laid together: K43, K44, TxGet, K45. -/
import Derived.Test.YtfhhfhdnhadooaaGreatDoorMY
import Derived.Test.YtfhhfhdnhadooaaGreatDoorMO
import Derived.Test.YtfhhfhdnhadooaaGreatDoorML
set_option linter.unusedVariables false
set_option linter.unusedSimpArgs false

namespace Go.Proofs.YtfhhfhdnhadooaaGreatDoor
open Go Go.RowKit
attribute [local irreducible] wpList

theorem St.gl {w W : World} {L : List Fact} (H : St nT w W L) (h : Old.Gl w) : Old.Gl W := h.below H.under (Nat.le_refl _)
/-- The digest under a tag, the program's. -/
theorem taggedB {S : Nat → Prop} {v : Value} {b : List UInt8} {s : ByteArray} (w : World) (hG : Old.Gl w) (hb : Bs w S v b) (hs : s.size ≤ 1000000000) (hbl : b.length ≤ 1000000000) : Calls Tryz.prog 38 [.string s, v].toArray w (Ret (Is w (.agg ((Old.Bl.tagged s.data.toList b).map u8v).toArray))) :=
 Calls.mono (Old.tagged_any s v b w hb hs hbl hG) (fun e w' h => by
  obtain ⟨h1, h2⟩ := h
  exact ⟨_, h1, rfl, h2⟩)
namespace Tx
/-- The digest of the bare bytes, under a tag. -/
def dig (s : ByteArray) (t : DTx) : List UInt8 := if chk t = 0 then Old.Bl.tagged s.data.toList (bareB t) else List.replicate 32 0
theorem len_dig {s : ByteArray} {t : DTx} : (dig s t).length = 32 := by
 unfold dig
 split
 ·exact Old.Bl.len_tagged _ _
 ·exact List.length_replicate
def tTx : ByteArray := ⟨#[116, 120]⟩
def tSign : ByteArray := ⟨#[115, 105, 103, 110]⟩
end Tx

namespace Tx
theorem len_bare {t : DTx} (ht : Ok t) : (bare t).length ≤ 2547 := by
 unfold bare
 split
 ·rename_i h; exact len_bareB h ht
 ·simp
theorem len_put {t : DTx} (ht : Ok t) : (put t).length ≤ 11963 := by
 unfold put
 split
 ·rename_i h; exact len_putB h ht
 ·simp
end Tx

set_option maxHeartbeats 4000000 in
theorem taggedT {S : Nat → Prop} {cs : List Value} {t : DTx} {s : ByteArray} (w : World) (ht : RTx w S cs t) (hG : Gat w 0 formsC) (hB : Old.Gl w) (hs : s.size ≤ 1000) : Calls Tryz.prog 79 [.string s, .agg cs.toArray].toArray w (Ret (Is w (.agg ((Tx.dig s t).map u8v).toArray))) := by
 obtain ⟨A, c, B, d, rfl, hI, hO, hk⟩ := tx_of ht
 have hok := tx_ok ht
 refine k_enter (l := [_, _]) Tryz.func79 rfl rfl ?_
 have H := St.start nT w
 refine k_seq (k_region (s_eff (e_box (vs := (txC A t.ins.length c B t.outs.length d t.lock)) (w_none rfl) rfl rfl rfl rfl H ?_)))
 clear H; intro gm W H
 refine s_eff (e_alloc (w_none rfl) rfl rfl (List.replicate 32 (u8v 0)) tz24 H ?_)
 clear H; intro go W H
 refine l_nil (k_seq (k_seq (k_region (sR rfl rfl (d_ldXM (g := gm) (off := 0) rfl H (sub_all (a := txC A t.ins.length c B t.outs.length d t.lock) (m := 3) rfl) rfl rfl rfl rfl ta34 ts34) (sC rfl rfl rfl Tryz.func84 rfl rfl rfl (bareTP _ (keeps_Tx _ _ _ _ _ ht (fun g hg _ => H.fr.block g hg (fun h => h))) (H.gat hG)) ?_)))))
 rintro _ W ⟨_, rfl, A1, c1, rfl, hc1, hd1, hn⟩
 replace H := H.new hn
 clear hn
 refine sR rfl rfl (mv_t rfl rfl) (sR rfl rfl (d_ext rfl rfl rfl) (sR rfl rfl (d_ext rfl rfl rfl) (sAs rfl rfl rfl rfl (sAi rfl rfl rfl rfl (l_nil (k_seq (k_region (sMi rfl rfl rfl rfl (sR rfl rfl (d_eq rfl rfl rfl) (l_nil ?_))))))))))
 refine k_cond rfl (fun hc13 => ?_) (fun hc13 => ?_)
 ·have hne : Tx.chk t = 0 := by simpa using hc13
  have e1 : Tx.dig s t = Old.Bl.tagged s.data.toList (Tx.bare t) := by unfold Tx.dig Tx.bare; rw [if_pos hne, if_pos hne]
  have hlb := Tx.len_bare hok
  refine k_seq (k_region (sR rfl rfl (mv_str rfl rfl) (sMs rfl rfl rfl rfl (sC rfl rfl rfl Tryz.func38 rfl rfl rfl (taggedB _ (H.gl hB) (H.rowbs (A := A1) (l := Tx.bare t) rfl) (by omega) (by omega)) ?_))))
  rintro _ W ⟨rfl, hb⟩
  replace H := H.below hb
  clear hb
  refine s_eff (e_stoK ((Old.Bl.tagged s.data.toList (Tx.bare t)).map u8v) (w_none rfl) rfl rfl rfl rfl rfl ts24 (by rw [List.length_map]; exact Old.Bl.len_tagged _ _) (all_u8L _) H (by decide) (spl_all (by rw [List.length_map, List.length_replicate]; exact Old.Bl.len_tagged _ _)) ?_)
  clear H; intro W H
  refine l_nil (k_ret ?_)
  repeat (first | refine r_then ?_ | refine r_blk ?_)
  rw [e1]
  exact q_retc rfl (c := (Old.Bl.tagged s.data.toList (Tx.bare t)).map u8v) (g := go) H rfl ta24 (by rw [List.length_map, Old.Bl.len_tagged]; exact ts24) ⟨_, rfl, rfl, H.under⟩
 ·have hne : ¬ Tx.chk t = 0 := by simpa using hc13
  have e1 : Tx.dig s t = List.replicate 32 0 := by unfold Tx.dig; rw [if_neg hne]
  refine k_skip (k_seq (k_region (sR rfl rfl (d_build (vs := (List.replicate 32 (0 : UInt8)).map u8v) rfl (by kernel_rfl)) ?_)))
  refine s_eff (e_stoK ((List.replicate 32 (0 : UInt8)).map u8v) (w_none rfl) rfl rfl rfl rfl rfl ts24 (by simp) (all_u8L _) H (by decide) (spl_all (by simp)) ?_)
  clear H; intro W H
  refine l_nil (k_ret ?_)
  repeat (first | refine r_then ?_ | refine r_blk ?_)
  rw [e1]
  exact q_retc rfl (c := (List.replicate 32 (0 : UInt8)).map u8v) (g := go) H rfl ta24 ts24 ⟨_, rfl, rfl, H.under⟩

set_option maxHeartbeats 4000000 in
theorem idTP {S : Nat → Prop} {cs : List Value} {t : DTx} (w : World) (ht : RTx w S cs t) (hG : Gat w 0 formsC) (hB : Old.Gl w) : Calls Tryz.prog 35 [.agg cs.toArray].toArray w (Ret (Is w (.agg ((Tx.dig Tx.tTx t).map u8v).toArray))) := by
 obtain ⟨A, c, B, d, rfl, hI, hO, hk⟩ := tx_of ht
 have hok := tx_ok ht
 refine k_enter (l := [_]) Tryz.func35 rfl rfl ?_
 have H := St.start nT w
 refine k_seq (k_region (s_eff (e_box (vs := (txC A t.ins.length c B t.outs.length d t.lock)) (w_none rfl) rfl rfl rfl rfl H ?_)))
 clear H; intro gm W H
 refine s_eff (e_alloc (w_none rfl) rfl rfl (List.replicate 32 (u8v 0)) tz24 H ?_)
 clear H; intro go W H
 refine l_nil (k_seq (k_region (sR rfl rfl (d_ldXM (g := gm) (off := 0) rfl H (sub_all (a := txC A t.ins.length c B t.outs.length d t.lock) (m := 3) rfl) rfl rfl rfl rfl ta34 ts34) (sC rfl rfl rfl Tryz.func79 rfl rfl rfl (taggedT (s := Tx.tTx) _ (keeps_Tx _ _ _ _ _ ht (fun g hg _ => H.fr.block g hg (fun h => h))) (H.gat hG) (H.gl hB) (by decide)) ?_))))
 rintro _ W ⟨rfl, hb⟩
 replace H := H.below hb
 clear hb
 refine s_eff (e_stoK ((Tx.dig Tx.tTx t).map u8v) (w_none rfl) rfl rfl rfl rfl rfl ts24 (by rw [List.length_map]; exact Tx.len_dig) (all_u8L _) H (by decide) (spl_all (by rw [List.length_map, List.length_replicate]; exact Tx.len_dig)) ?_)
 clear H; intro W H
 refine l_nil (k_ret ?_)
 repeat (first | refine r_then ?_ | refine r_blk ?_)
 exact q_retc rfl (c := (Tx.dig Tx.tTx t).map u8v) (g := go) H rfl ta24 (by rw [List.length_map, Tx.len_dig]; exact ts24) ⟨_, rfl, rfl, H.under⟩

end Go.Proofs.YtfhhfhdnhadooaaGreatDoor

namespace Go.Proofs.YtfhhfhdnhadooaaGreatDoor
open Go Go.RowKit
attribute [local irreducible] wpList

/-- A list in a row of its own. -/
def RLO {α : Type} (e s : Nat) (R : Rep α) : Rep (List α) := fun W S cs l => RL s R W S cs l ∧ ∃ v xs, cs = [v] ∧ W.ownsRow 0 e s v l.length xs ∧ ∀ g, v.ownBlock = some g → S g
theorem own_lt {W : World} {e s n : Nat} {v : Value} {xs : List Value} {g : Nat} (h : W.ownsRow 0 e s v n xs) (hg : v.ownBlock = some g) : g < W.heap.size := by
 rcases h.2 with ⟨rfl, _⟩ | ⟨g', cap, cur, rfl, _, hh, _⟩
 ·cases hg
 ·obtain rfl : g' = g := by simpa [Value.ownBlock] using hg
  exact (List.getElem?_eq_some_iff.1 (by simpa using hh)).1
instance repk_LO {α : Type} {e s : Nat} {R : Rep α} [h : RepK R] : RepK (RLO e s R) := ⟨fun W W' S cs a h1 k => by
 obtain ⟨h2, v, xs, e1, e2, e3⟩ := h1
 exact ⟨keeps_L h.keeps _ _ _ _ _ h2 k, v, xs, e1, ownsRow_keep e2 (fun g hg => k g (own_lt e2 hg) (e3 g hg)), e3⟩, fun W S S' cs a h1 k => by
 obtain ⟨h2, v, xs, e1, e2, e3⟩ := h1
 exact ⟨mono_L h.mono _ _ _ _ _ h2 k, v, xs, e1, e2, fun g hg => k g (own_lt e2 hg) (e3 g hg)⟩⟩
theorem St.tolistO {α : Type} {R : Rep α} {T : Nat → Prop} {w0 W : World} {L : List Fact} {e s c : Nat} {A : Option Addr} {S : Nat → Prop} {xs : List Value} {l : List α} [h : RepK R] (H : St T w0 W (Fact.row e s (.slice A l.length c) l.length xs :: Fact.els R s S xs l :: L)) : St T w0 W (Fact.rep (RLO e s R) (fun g => (Value.slice A l.length c).ownBlock = some g ∨ S g) [.slice A l.length c] l :: L) := by
 have h1 : W.ownsRow 0 e s (.slice A l.length c) l.length xs := H.holds _ (.head _)
 have h2 := H.tolist.holds _ (.head _)
 exact H.merge (F := Fact.rep (RLO e s R) _ _ l) ⟨h2, _, xs, rfl, h1, fun g hg => .inl hg⟩ (fun g hg => hg)
def RInH (A0 : Option Addr) (b : List UInt8) : Rep DIn := fun W S cs x => ∃ c0 c1, cs = c0 ++ c1 ∧ RPoint W S c0 x.point ∧ RLO 41 1 (RBH A0 b) W S c1 x.wit
def ROutH (A0 : Option Addr) (b : List UInt8) : Rep DOut := fun W S cs x => ∃ c0 c1, cs = c0 ++ c1 ∧ RI W S c0 x.value ∧ RBH A0 b W S c1 x.script
instance repk_InH {A0 : Option Addr} {b : List UInt8} : RepK (RInH A0 b) := ⟨fun W W' S cs a h k => by
 obtain ⟨c0, c1, h0, e0, e1⟩ := h
 exact ⟨c0, c1, h0, keeps_Point _ _ _ _ _ e0 k, repk_LO.keeps _ _ _ _ _ e1 k⟩, fun W S S' cs a h k => by
 obtain ⟨c0, c1, h0, e0, e1⟩ := h
 exact ⟨c0, c1, h0, mono_Point _ _ _ _ _ e0 k, repk_LO.mono _ _ _ _ _ e1 k⟩⟩
instance repk_OutH {A0 : Option Addr} {b : List UInt8} : RepK (ROutH A0 b) := ⟨fun W W' S cs a h k => by
 obtain ⟨c0, c1, h0, e0, e1⟩ := h
 exact ⟨c0, c1, h0, e0, e1⟩, fun W S S' cs a h k => by
 obtain ⟨c0, c1, h0, e0, e1⟩ := h
 exact ⟨c0, c1, h0, e0, e1⟩⟩
theorem d_iaP {P : Program} {o : Oper} {n : Nat} {ρ : Nat → Value} {W : World} {t e : TypeId} {x y : Operand} {k : IntKind} {a : Int} {g i m c q s : Nat} (ho : o.op = .indexAddr t x y) (hx : ev n ρ x = .slice (some ⟨g, i, none⟩) m c) (hy : ev n ρ y = .int k a) (ha : a = (q : Int)) (hq : q < m) (hu : P.underlying t = some (.slice e)) (hs : (P.info? e).map (·.size) = some s) :
  Runs P n ρ o W (.pointer (some ⟨g, i + q * s, none⟩)) W := by
 subst ha
 cases hi : P.info? e with
 | none => rw [hi] at hs; cases hs
 | some ie =>
  have hs' : ie.size = s := by simpa [hi] using hs
  unfold Runs execOp
  simp [ho, hx, hy, Instr.indexAt, asIntOf, run_underlying hu, sizeOf, typeInfo, hi, hs', hq, Addr.add_mid]

end Go.Proofs.YtfhhfhdnhadooaaGreatDoor

namespace Go.Proofs.YtfhhfhdnhadooaaGreatDoor
open Go Go.RowKit

namespace Tx
abbrev G1 (b : List UInt8) := rList 8 rIn (b, 0)
abbrev G2 (b : List UInt8) := rList 8 rOut (G1 b).2
abbrev G3 (b : List UInt8) := Pk.rInt (G2 b).2
abbrev GW (b : List UInt8) (i : Nat) := rMany rWit i (G3 b).2
/-- The ins, the first i of them with their witnesses. -/
def insAt (b : List UInt8) (i : Nat) : List DIn := List.zipWith setW ((G1 b).1.take i) (GW b i).1 ++ (G1 b).1.drop i
def gotTx (b : List UInt8) : DTx := ⟨insAt b (G1 b).1.length, (G2 b).1, ((G3 b).1 : Int)⟩
end Tx
section
variable {W : World} {S S' : Nat → Prop} {A0 : Option Addr} {b : List UInt8}
theorem set_in_w {p : DPoint} {A A' : Option Addr} {m c m' c' : Nat} (h : p.tx.length = 32) : (inC p A m c).set 33 (.slice A' m' c') = inC p A' m' c' := by
  unfold inC
  rw [List.set_append_right _ _ (by rw [len_point h]; exact Nat.le_refl _), len_point h]
  rfl
theorem rbh_conv {u t r c0 : Nat} {s : RS} {v : Value} {d : List UInt8} (hP : (RdYB u t r A0 b.length c0 (· = b) v d s).p W) (hS : ∀ g, (Value.slice A0 b.length c0).ownBlock = some g → S' g) {cs : List Value} {x : List UInt8} (h : RBH A0 b W S cs x) : RB W S' cs x := by
  obtain ⟨v, rfl, hH⟩ := h
  exact ⟨v, rfl, (held_own hP hH).mono (fun g _ hg => hS g hg)⟩
theorem inh_conv {u t r c0 : Nat} {s : RS} {v : Value} {d : List UInt8} (hP : (RdYB u t r A0 b.length c0 (· = b) v d s).p W) (hS : ∀ g, (Value.slice A0 b.length c0).ownBlock = some g → S' g) (hS2 : ∀ g, S g → S' g) {cs : List Value} {x : DIn} (h : RInH A0 b W S cs x) : RIn W S' cs x := by
  obtain ⟨c0, c1, rfl, h0, h1⟩ := h
  exact ⟨c0, c1, rfl, mono_Point _ _ _ _ _ h0 (fun g _ hg => hS2 g hg), rl_conv h1.1 hS2 (fun _ _ h => rbh_conv hP hS h)⟩
theorem outh_conv {u t r c0 : Nat} {s : RS} {v : Value} {d : List UInt8} (hP : (RdYB u t r A0 b.length c0 (· = b) v d s).p W) (hS : ∀ g, (Value.slice A0 b.length c0).ownBlock = some g → S' g) {cs : List Value} {x : DOut} (h : ROutH A0 b W S cs x) : ROut W S' cs x := by
  obtain ⟨c0, c1, rfl, h0, h1⟩ := h
  exact ⟨c0, c1, rfl, h0, rbh_conv hP hS h1⟩
end
/-- What tx.Get has read, in its parts. -/
structure Parts (T : Nat → Prop) (w W : World) (b : List UInt8) (t : DTx) (eI eO u tR : Nat) (A B : Option Addr) (c d : Nat) (L : List Fact) : Prop where
  st : ∃ r A0 c0 s xs ys S0 S1, St T w W (Fact.row eI 34 (.slice A t.ins.length c) t.ins.length xs :: Fact.els (RInH A0 b) 34 S0 xs t.ins :: Fact.row eO 2 (.slice B t.outs.length d) t.outs.length ys :: Fact.els (ROutH A0 b) 2 S1 ys t.outs :: RdYP u tR r A0 b.length c0 (· = b) s :: L)
theorem parts_rep {T : Nat → Prop} {w W : World} {b : List UInt8} {t : DTx} {eI eO u tR : Nat} {A B : Option Addr} {c d : Nat} {L : List Fact} (h : Parts T w W b t eI eO u tR A B c d L) (hk : I64 t.lock) : ∃ S, St T w W (Fact.rep RTx S (txC A t.ins.length c B t.outs.length d t.lock) t :: L) := by
  obtain ⟨r, A0, c0, s, xs, ys, S0, S1, H⟩ := h.st
  have H2 := (H.tolist.perm (.trans (.swap _ _ _) (.cons _ (.swap _ _ _)))).tolist
  obtain ⟨SO, hSO⟩ : ∃ SO, SO = (fun g => (Value.slice B t.outs.length d).ownBlock = some g ∨ S1 g) := ⟨_, rfl⟩
  obtain ⟨SI, hSI⟩ : ∃ SI, SI = (fun g => (Value.slice A t.ins.length c).ownBlock = some g ∨ S0 g) := ⟨_, rfl⟩
  rw [← hSO, ← hSI] at H2
  have hP := H2.holds _ (.tail _ (.tail _ (.head _)))
  have hI : RL 34 (RInH A0 b) W SI [.slice A t.ins.length c] t.ins := H2.holds _ (.tail _ (.head _))
  have hO : RL 2 (ROutH A0 b) W SO [.slice B t.outs.length d] t.outs := H2.holds _ (.head _)
  have hp : RTx W (fun g => (SO g ∨ SI g) ∨ RdT r A0 b.length c0 g) (txC A t.ins.length c B t.outs.length d t.lock) t :=
    ⟨_, _, _, rfl, rl_conv hI (fun g hg => .inl (.inr hg)) (fun _ _ h => inh_conv hP (fun g hg => .inr (.inr hg)) (fun g hg => .inl (.inr hg)) h), rl_conv hO (fun g hg => .inl (.inl hg)) (fun _ _ h => outh_conv hP (fun g hg => .inr (.inr hg)) h), rfl, hk⟩
  exact ⟨_, H2.two.merge (F := Fact.rep RTx _ _ t) hp (fun g hg => hg)⟩
end Go.Proofs.YtfhhfhdnhadooaaGreatDoor

namespace Go.Proofs.YtfhhfhdnhadooaaGreatDoor
open Go Go.RowKit
attribute [local irreducible] wpList

/-- What a call of tx.Get leaves. -/
def GotTx (w : World) (b : List UInt8) (v : Value) (w' : World) : Prop := ∃ cs, v = .tuple #[.agg cs.toArray, .int .i64 (Tx.get b).2] ∧ (((Tx.get b).2 ≠ 0 ∧ cs = txC none 0 0 none 0 0 0 ∧ Below w.heap.size w w') ∨ ((Tx.get b).2 = 0 ∧ ∃ A c B d, cs = txC A (Tx.get b).1.ins.length c B (Tx.get b).1.outs.length d (Tx.get b).1.lock ∧ Parts nT w w' b (Tx.get b).1 64 66 5 134 A B c d []))
theorem GotTx.rep {w W W' : World} {T : Nat → Prop} {L : List Fact} {b : List UInt8} {v : Value} (h : GotTx W b v W') (H : St T w W L) : ∃ S A c B d, v = .tuple #[.agg (txC A (Tx.get b).1.ins.length c B (Tx.get b).1.outs.length d (Tx.get b).1.lock).toArray, .int .i64 (Tx.get b).2] ∧ St T w W' (Fact.rep RTx S (txC A (Tx.get b).1.ins.length c B (Tx.get b).1.outs.length d (Tx.get b).1.lock) (Tx.get b).1 :: L) := by
 obtain ⟨cs, hv, ⟨h1, rfl, hb⟩ | ⟨h1, A, c, B, d, rfl, hp⟩⟩ := h
 ·have e := Tx.get_zero h1
  refine ⟨fun _ => False, none, 0, none, 0, by rw [hv, e]; rfl, ?_⟩
  rw [e]
  exact (H.below hb).flat (R := RTx) (a := Tx.zero) ⟨_, _, _, rfl, rl_nil, rl_nil, rfl, by decide, by decide⟩
 ·obtain ⟨S, K⟩ := parts_rep hp Tx.ok_get.2.2
  exact ⟨S, A, c, B, d, hv, H.add1 K⟩

end Go.Proofs.YtfhhfhdnhadooaaGreatDoor
