/- Texts of this claim, laid together: K43, K44, TxGet, K45. -/
import Derived.Test.YteakkflhndifbaaGreatDoorMY
import Derived.Test.YteakkflhndifbaaGreatDoorMO
import Derived.Test.YteakkflhndifbaaGreatDoorML
set_option linter.unusedVariables false
set_option linter.unusedSimpArgs false

namespace Go.Proofs.YteakkflhndifbaaGreatDoor
open Go Go.RowKit
attribute [local irreducible] wpList

theorem St.gl {w W : World} {L : List Fact} (H : St nT w W L) (h : Old.Gl w) : Old.Gl W := h.below H.under (Nat.le_refl _)
/-- The digest under a tag, the program's. -/
theorem taggedB {S : Nat → Prop} {v : Value} {b : List UInt8} {s : ByteArray} (w : World) (hG : Old.Gl w) (hb : Bs w S v b) (hs : s.size ≤ 1000000000) (hbl : b.length ≤ 1000000000) : Calls Tryz.prog 31 [.string s, v].toArray w (Ret (Is w (.agg ((Old.Bl.tagged s.data.toList b).map u8v).toArray))) :=
 Calls.mono (Old.tagged_any s v b w hb hs hbl hG) (fun e w' h => by
  obtain ⟨h1, h2⟩ := h
  exact ⟨_, h1, rfl, h2⟩)
namespace Tx
/-- The digest of the bare bytes, under a tag. -/
def dig (s : ByteArray) (t : DTx) : List UInt8 := if chk t = 0 then Old.Bl.tagged s.data.toList (bareB t) else List.replicate 32 0
theorem len_dig {s : ByteArray} {t : DTx} : (dig s t).length = 32 := by
 unfold dig
 split
 ·exact Old.Bl.len_tagged _ _
 ·exact List.length_replicate
def tTx : ByteArray := ⟨#[116, 120]⟩
def tSign : ByteArray := ⟨#[115, 105, 103, 110]⟩
end Tx

namespace Tx
theorem len_bare {t : DTx} (ht : Ok t) : (bare t).length ≤ 2547 := by
 unfold bare
 split
 ·rename_i h; exact len_bareB h ht
 ·simp
theorem len_put {t : DTx} (ht : Ok t) : (put t).length ≤ 11963 := by
 unfold put
 split
 ·rename_i h; exact len_putB h ht
 ·simp
end Tx

set_option maxHeartbeats 4000000 in
theorem taggedT {S : Nat → Prop} {cs : List Value} {t : DTx} {s : ByteArray} (w : World) (ht : RTx w S cs t) (hG : Gat w 0 formsC) (hB : Old.Gl w) (hs : s.size ≤ 1000) : Calls Tryz.prog 62 [.string s, .agg cs.toArray].toArray w (Ret (Is w (.agg ((Tx.dig s t).map u8v).toArray))) := by
 obtain ⟨A, c, B, d, rfl, hI, hO, hk⟩ := tx_of ht
 have hok := tx_ok ht
 refine k_enter (l := [_, _]) Tryz.func62 rfl rfl ?_
 have H := St.start nT w
 refine k_seq (k_region (s_eff (e_box (vs := (txC A t.ins.length c B t.outs.length d t.lock)) (w_none rfl) rfl rfl rfl rfl H ?_)))
 clear H; intro gm W H
 refine s_eff (e_alloc (w_none rfl) rfl rfl (List.replicate 32 (u8v 0)) tz29 H ?_)
 clear H; intro go W H
 refine l_nil (k_seq (k_seq (k_region (sR rfl rfl (d_ldXM (g := gm) (off := 0) rfl H (sub_all (a := txC A t.ins.length c B t.outs.length d t.lock) (m := 3) rfl) rfl rfl rfl rfl ta26 ts26) (sC rfl rfl rfl Tryz.func16 rfl rfl rfl (bareTP _ (keeps_Tx _ _ _ _ _ ht (fun g hg _ => H.fr.block g hg (fun h => h))) (H.gat hG)) ?_)))))
 rintro _ W ⟨_, rfl, A1, c1, rfl, hc1, hd1, hn⟩
 replace H := H.new hn
 clear hn
 refine sR rfl rfl (mv_t rfl rfl) (sR rfl rfl (d_ext rfl rfl rfl) (sR rfl rfl (d_ext rfl rfl rfl) (sAs rfl rfl rfl rfl (sAi rfl rfl rfl rfl (l_nil (k_seq (k_region (sMi rfl rfl rfl rfl (sR rfl rfl (d_eq rfl rfl rfl) (l_nil ?_))))))))))
 refine k_cond rfl (fun hc13 => ?_) (fun hc13 => ?_)
 ·have hne : Tx.chk t = 0 := by simpa using hc13
  have e1 : Tx.dig s t = Old.Bl.tagged s.data.toList (Tx.bare t) := by unfold Tx.dig Tx.bare; rw [if_pos hne, if_pos hne]
  have hlb := Tx.len_bare hok
  refine k_seq (k_region (sR rfl rfl (mv_str rfl rfl) (sMs rfl rfl rfl rfl (sC rfl rfl rfl Tryz.func31 rfl rfl rfl (taggedB _ (H.gl hB) (H.rowbs (A := A1) (l := Tx.bare t) rfl) (by omega) (by omega)) ?_))))
  rintro _ W ⟨rfl, hb⟩
  replace H := H.below hb
  clear hb
  refine s_eff (e_stoK ((Old.Bl.tagged s.data.toList (Tx.bare t)).map u8v) (w_none rfl) rfl rfl rfl rfl rfl ts29 (by rw [List.length_map]; exact Old.Bl.len_tagged _ _) (all_u8L _) H (by decide) (spl_all (by rw [List.length_map, List.length_replicate]; exact Old.Bl.len_tagged _ _)) ?_)
  clear H; intro W H
  refine l_nil (k_ret ?_)
  repeat (first | refine r_then ?_ | refine r_blk ?_)
  rw [e1]
  exact q_retc rfl (c := (Old.Bl.tagged s.data.toList (Tx.bare t)).map u8v) (g := go) H rfl ta29 (by rw [List.length_map, Old.Bl.len_tagged]; exact ts29) ⟨_, rfl, rfl, H.under⟩
 ·have hne : ¬ Tx.chk t = 0 := by simpa using hc13
  have e1 : Tx.dig s t = List.replicate 32 0 := by unfold Tx.dig; rw [if_neg hne]
  refine k_skip (k_seq (k_region (sR rfl rfl (d_build (vs := (List.replicate 32 (0 : UInt8)).map u8v) rfl (by kernel_rfl)) ?_)))
  refine s_eff (e_stoK ((List.replicate 32 (0 : UInt8)).map u8v) (w_none rfl) rfl rfl rfl rfl rfl ts29 (by simp) (all_u8L _) H (by decide) (spl_all (by simp)) ?_)
  clear H; intro W H
  refine l_nil (k_ret ?_)
  repeat (first | refine r_then ?_ | refine r_blk ?_)
  rw [e1]
  exact q_retc rfl (c := (List.replicate 32 (0 : UInt8)).map u8v) (g := go) H rfl ta29 ts29 ⟨_, rfl, rfl, H.under⟩

set_option maxHeartbeats 4000000 in
theorem idTP {S : Nat → Prop} {cs : List Value} {t : DTx} (w : World) (ht : RTx w S cs t) (hG : Gat w 0 formsC) (hB : Old.Gl w) : Calls Tryz.prog 22 [.agg cs.toArray].toArray w (Ret (Is w (.agg ((Tx.dig Tx.tTx t).map u8v).toArray))) := by
 obtain ⟨A, c, B, d, rfl, hI, hO, hk⟩ := tx_of ht
 have hok := tx_ok ht
 refine k_enter (l := [_]) Tryz.func22 rfl rfl ?_
 have H := St.start nT w
 refine k_seq (k_region (s_eff (e_box (vs := (txC A t.ins.length c B t.outs.length d t.lock)) (w_none rfl) rfl rfl rfl rfl H ?_)))
 clear H; intro gm W H
 refine s_eff (e_alloc (w_none rfl) rfl rfl (List.replicate 32 (u8v 0)) tz29 H ?_)
 clear H; intro go W H
 refine l_nil (k_seq (k_region (sR rfl rfl (d_ldXM (g := gm) (off := 0) rfl H (sub_all (a := txC A t.ins.length c B t.outs.length d t.lock) (m := 3) rfl) rfl rfl rfl rfl ta26 ts26) (sC rfl rfl rfl Tryz.func62 rfl rfl rfl (taggedT (s := Tx.tTx) _ (keeps_Tx _ _ _ _ _ ht (fun g hg _ => H.fr.block g hg (fun h => h))) (H.gat hG) (H.gl hB) (by decide)) ?_))))
 rintro _ W ⟨rfl, hb⟩
 replace H := H.below hb
 clear hb
 refine s_eff (e_stoK ((Tx.dig Tx.tTx t).map u8v) (w_none rfl) rfl rfl rfl rfl rfl ts29 (by rw [List.length_map]; exact Tx.len_dig) (all_u8L _) H (by decide) (spl_all (by rw [List.length_map, List.length_replicate]; exact Tx.len_dig)) ?_)
 clear H; intro W H
 refine l_nil (k_ret ?_)
 repeat (first | refine r_then ?_ | refine r_blk ?_)
 exact q_retc rfl (c := (Tx.dig Tx.tTx t).map u8v) (g := go) H rfl ta29 (by rw [List.length_map, Tx.len_dig]; exact ts29) ⟨_, rfl, rfl, H.under⟩

set_option maxHeartbeats 4000000 in
theorem digestTP {S : Nat → Prop} {cs : List Value} {t : DTx} (w : World) (ht : RTx w S cs t) (hG : Gat w 0 formsC) (hB : Old.Gl w) : Calls Tryz.prog 24 [.agg cs.toArray].toArray w (Ret (Is w (.agg ((Tx.dig Tx.tSign t).map u8v).toArray))) := by
 obtain ⟨A, c, B, d, rfl, hI, hO, hk⟩ := tx_of ht
 have hok := tx_ok ht
 refine k_enter (l := [_]) Tryz.func24 rfl rfl ?_
 have H := St.start nT w
 refine k_seq (k_region (s_eff (e_box (vs := (txC A t.ins.length c B t.outs.length d t.lock)) (w_none rfl) rfl rfl rfl rfl H ?_)))
 clear H; intro gm W H
 refine s_eff (e_alloc (w_none rfl) rfl rfl (List.replicate 32 (u8v 0)) tz29 H ?_)
 clear H; intro go W H
 refine l_nil (k_seq (k_region (sR rfl rfl (d_ldXM (g := gm) (off := 0) rfl H (sub_all (a := txC A t.ins.length c B t.outs.length d t.lock) (m := 3) rfl) rfl rfl rfl rfl ta26 ts26) (sC rfl rfl rfl Tryz.func62 rfl rfl rfl (taggedT (s := Tx.tSign) _ (keeps_Tx _ _ _ _ _ ht (fun g hg _ => H.fr.block g hg (fun h => h))) (H.gat hG) (H.gl hB) (by decide)) ?_))))
 rintro _ W ⟨rfl, hb⟩
 replace H := H.below hb
 clear hb
 refine s_eff (e_stoK ((Tx.dig Tx.tSign t).map u8v) (w_none rfl) rfl rfl rfl rfl rfl ts29 (by rw [List.length_map]; exact Tx.len_dig) (all_u8L _) H (by decide) (spl_all (by rw [List.length_map, List.length_replicate]; exact Tx.len_dig)) ?_)
 clear H; intro W H
 refine l_nil (k_ret ?_)
 repeat (first | refine r_then ?_ | refine r_blk ?_)
 exact q_retc rfl (c := (Tx.dig Tx.tSign t).map u8v) (g := go) H rfl ta29 (by rw [List.length_map, Tx.len_dig]; exact ts29) ⟨_, rfl, rfl, H.under⟩

set_option maxHeartbeats 4000000 in
theorem weightTP {S : Nat → Prop} {cs : List Value} {t : DTx} (w : World) (ht : RTx w S cs t) (hG : Gat w 0 formsC) : Calls Tryz.prog 26 [.agg cs.toArray].toArray w (Ret (Is w (.int .i64 (Tx.weight t)))) := by
 obtain ⟨A, c, B, d, rfl, hI, hO, hk⟩ := tx_of ht
 have hok := tx_ok ht
 have hl1 := Tx.len_bare hok
 have hl2 := Tx.len_put hok
 refine k_enter (l := [_]) Tryz.func26 rfl rfl ?_
 have H := St.start nT w
 refine k_seq (k_region (s_eff (e_box (vs := (txC A t.ins.length c B t.outs.length d t.lock)) (w_none rfl) rfl rfl rfl rfl H ?_)))
 clear H; intro gm W H
 refine sAi rfl rfl rfl rfl (l_nil (k_seq (k_region (sR rfl rfl (d_ldXM (g := gm) (off := 0) rfl H (sub_all (a := txC A t.ins.length c B t.outs.length d t.lock) (m := 3) rfl) rfl rfl rfl rfl ta26 ts26) (sC rfl rfl rfl Tryz.func16 rfl rfl rfl (bareTP _ (keeps_Tx _ _ _ _ _ ht (fun g hg _ => H.fr.block g hg (fun h => h))) (H.gat hG)) ?_)))))
 rintro _ W ⟨_, rfl, A1, c1, rfl, hc1, hd1, hn⟩
 replace H := H.new hn
 clear hn
 refine sR rfl rfl (mv_t rfl rfl) (sR rfl rfl (d_ext rfl rfl rfl) (sR rfl rfl (d_ext rfl rfl rfl) (sAs rfl rfl rfl rfl (sAi rfl rfl rfl rfl (l_nil (k_seq (k_region (sR rfl rfl (d_ldXM (g := gm) (off := 0) rfl H (sub_all (a := txC A t.ins.length c B t.outs.length d t.lock) (m := 3) rfl) rfl rfl rfl rfl ta26 ts26) (sC rfl rfl rfl Tryz.func9 rfl rfl rfl (putTP _ (keeps_Tx _ _ _ _ _ ht (fun g hg _ => H.fr.block g hg (fun h => h))) (H.gat hG)) ?_)))))))))
 rintro _ W ⟨_, rfl, A2, c2, rfl, hc2, hd2, hn⟩
 replace H := H.new hn
 clear hn
 refine sR rfl rfl (mv_t rfl rfl) (sR rfl rfl (d_ext rfl rfl rfl) (sR rfl rfl (d_ext rfl rfl rfl) (sAs rfl rfl rfl rfl (sAi rfl rfl rfl rfl (l_nil (k_seq (k_region (sMs rfl rfl rfl rfl (sR rfl rfl (d_len rfl rfl tu35) (sR rfl rfl (d_mul rfl rfl rfl (by omega)) ?_))))))))))
 refine sMs rfl rfl rfl rfl (sR rfl rfl (d_len rfl rfl tu35) (sR rfl rfl (d_add rfl rfl rfl (by omega)) (sAi rfl rfl rfl rfl (l_nil (k_ret ?_)))))
 repeat (first | refine r_then ?_ | refine r_blk ?_)
 exact q_ret (v := .int _ _) rfl rfl ⟨_, rfl, rfl, H.under⟩
end Go.Proofs.YteakkflhndifbaaGreatDoor

namespace Go.Proofs.YteakkflhndifbaaGreatDoor
open Go Go.RowKit
attribute [local irreducible] wpList

/-- A list in a row of its own. -/
def RLO {α : Type} (e s : Nat) (R : Rep α) : Rep (List α) := fun W S cs l => RL s R W S cs l ∧ ∃ v xs, cs = [v] ∧ W.ownsRow 0 e s v l.length xs ∧ ∀ g, v.ownBlock = some g → S g
theorem own_lt {W : World} {e s n : Nat} {v : Value} {xs : List Value} {g : Nat} (h : W.ownsRow 0 e s v n xs) (hg : v.ownBlock = some g) : g < W.heap.size := by
 rcases h.2 with ⟨rfl, _⟩ | ⟨g', cap, cur, rfl, _, hh, _⟩
 ·cases hg
 ·obtain rfl : g' = g := by simpa [Value.ownBlock] using hg
  exact (List.getElem?_eq_some_iff.1 (by simpa using hh)).1
instance repk_LO {α : Type} {e s : Nat} {R : Rep α} [h : RepK R] : RepK (RLO e s R) := ⟨fun W W' S cs a h1 k => by
 obtain ⟨h2, v, xs, e1, e2, e3⟩ := h1
 exact ⟨keeps_L h.keeps _ _ _ _ _ h2 k, v, xs, e1, ownsRow_keep e2 (fun g hg => k g (own_lt e2 hg) (e3 g hg)), e3⟩, fun W S S' cs a h1 k => by
 obtain ⟨h2, v, xs, e1, e2, e3⟩ := h1
 exact ⟨mono_L h.mono _ _ _ _ _ h2 k, v, xs, e1, e2, fun g hg => k g (own_lt e2 hg) (e3 g hg)⟩⟩
theorem rlo_nil {α : Type} {e s : Nat} {R : Rep α} {W : World} {S : Nat → Prop} : RLO e s R W S [.slice none 0 0] [] := ⟨rl_nil, _, [], rfl, ⟨by simp, .inl ⟨rfl, rfl⟩⟩, fun g hg => by cases hg⟩
theorem St.tolistO {α : Type} {R : Rep α} {T : Nat → Prop} {w0 W : World} {L : List Fact} {e s c : Nat} {A : Option Addr} {S : Nat → Prop} {xs : List Value} {l : List α} [h : RepK R] (H : St T w0 W (Fact.row e s (.slice A l.length c) l.length xs :: Fact.els R s S xs l :: L)) : St T w0 W (Fact.rep (RLO e s R) (fun g => (Value.slice A l.length c).ownBlock = some g ∨ S g) [.slice A l.length c] l :: L) := by
 have h1 : W.ownsRow 0 e s (.slice A l.length c) l.length xs := H.holds _ (.head _)
 have h2 := H.tolist.holds _ (.head _)
 exact H.merge (F := Fact.rep (RLO e s R) _ _ l) ⟨h2, _, xs, rfl, h1, fun g hg => .inl hg⟩ (fun g hg => hg)
def RInH (A0 : Option Addr) (b : List UInt8) : Rep DIn := fun W S cs x => ∃ c0 c1, cs = c0 ++ c1 ∧ RPoint W S c0 x.point ∧ RLO 35 1 (RBH A0 b) W S c1 x.wit
def ROutH (A0 : Option Addr) (b : List UInt8) : Rep DOut := fun W S cs x => ∃ c0 c1, cs = c0 ++ c1 ∧ RI W S c0 x.value ∧ RBH A0 b W S c1 x.script
instance repk_InH {A0 : Option Addr} {b : List UInt8} : RepK (RInH A0 b) := ⟨fun W W' S cs a h k => by
 obtain ⟨c0, c1, h0, e0, e1⟩ := h
 exact ⟨c0, c1, h0, keeps_Point _ _ _ _ _ e0 k, repk_LO.keeps _ _ _ _ _ e1 k⟩, fun W S S' cs a h k => by
 obtain ⟨c0, c1, h0, e0, e1⟩ := h
 exact ⟨c0, c1, h0, mono_Point _ _ _ _ _ e0 k, repk_LO.mono _ _ _ _ _ e1 k⟩⟩
instance repk_OutH {A0 : Option Addr} {b : List UInt8} : RepK (ROutH A0 b) := ⟨fun W W' S cs a h k => by
 obtain ⟨c0, c1, h0, e0, e1⟩ := h
 exact ⟨c0, c1, h0, e0, e1⟩, fun W S S' cs a h k => by
 obtain ⟨c0, c1, h0, e0, e1⟩ := h
 exact ⟨c0, c1, h0, e0, e1⟩⟩
theorem in_nil {A0 : Option Addr} {b : List UInt8} {p : DPoint} {W : World} {S : Nat → Prop} (h : p.tx.length = 32) (hn : I64 p.n) : RInH A0 b W S (inC p none 0 0) ⟨p, []⟩ := ⟨_, _, rfl, point_rep h hn, rlo_nil⟩
theorem out_held {A0 B : Option Addr} {b s : List UInt8} {v : Int} {c : Nat} {W : World} {S : Nat → Prop} (hn : I64 v) (hH : HeldP A0 b.length b (.slice B s.length c) s) : ROutH A0 b W S (outC v B s.length c) ⟨v, s⟩ := ⟨_, _, rfl, ⟨rfl, hn⟩, _, rfl, hH⟩
theorem d_iaP {P : Program} {o : Oper} {n : Nat} {ρ : Nat → Value} {W : World} {t e : TypeId} {x y : Operand} {k : IntKind} {a : Int} {g i m c q s : Nat} (ho : o.op = .indexAddr t x y) (hx : ev n ρ x = .slice (some ⟨g, i, none⟩) m c) (hy : ev n ρ y = .int k a) (ha : a = (q : Int)) (hq : q < m) (hu : P.underlying t = some (.slice e)) (hs : (P.info? e).map (·.size) = some s) :
  Runs P n ρ o W (.pointer (some ⟨g, i + q * s, none⟩)) W := by
 subst ha
 cases hi : P.info? e with
 | none => rw [hi] at hs; cases hs
 | some ie =>
  have hs' : ie.size = s := by simpa [hi] using hs
  unfold Runs execOp
  simp [ho, hx, hy, Instr.indexAt, asIntOf, run_underlying hu, sizeOf, typeInfo, hi, hs', hq, Addr.add_mid]

set_option maxHeartbeats 4000000 in
theorem getInF {A0 : Option Addr} {c0 r : Nat} {b : List UInt8} {s : RS} (w : World) (hR : (RdYP 5 117 r A0 b.length c0 (· = b) s).p w) {q : Nat} (hq : Gat w q [.pointer (some ⟨r, 0, none⟩)]) (hTq : ¬ (RdT r A0 b.length c0) q) (hok : Pk.Ok s) (hG : Gat w 0 formsC) (h0 : ¬ (RdT r A0 b.length c0) 0) : Calls Tryz.prog 68 [.pointer (some ⟨q, 0, none⟩)].toArray w (Ret (fun v' w' => v' = .agg (inC (Tx.rIn s).1.point none 0 0).toArray ∧ (RdYP 5 117 r A0 b.length c0 (· = b) (Tx.rIn s).2).p w' ∧ Fr (RdT r A0 b.length c0) w w')) := by
 have H0 := St.begin (f := RdYP 5 117 r A0 b.length c0 (· = b) s) hR (RdB.lt hR)
 refine k_enter (l := [_]) Tryz.func68 rfl rfl ?_
 have H := H0
 have hp : (Tx.rIn s).1.point.tx.length = 32 := Pk.len_rBytes
 have hl32 : ((Pk.rBytes 32 s).1.map u8v).length = 32 := by rw [List.length_map]; exact hp
 refine k_seq (k_region (s_eff (e_alloc (w_none rfl) rfl rfl (inC zPt none 0 0) tzIn H ?_)))
 clear H; intro go W H
 refine l_nil (k_seq (k_draw [(0, true), (2, true), (1, false), (3, false), (4, true), (5, true), (6, false)] [] (by kernel_rfl) (by kernel_rfl) H (List.nil_sublist _) ?_))
 clear H; intro W H
 refine cR rfl rfl rfl (fun W H => d_ldG rfl ((H.gatT hq hTq)) rfl ta85 rfl) (cR rfl rfl rfl (fun W H => d_ldG rfl ((H.gatT hq hTq)) rfl ta85 rfl) (c_eff rfl (e_call (w_none rfl) rfl rfl Tryz.func69 rfl rfl rfl (prgHash _ (H.get (f := RdYP 5 117 r A0 b.length c0 (· = b) s)) hok) ?_)))
 rintro _ W ⟨rfl, hp_, hf_⟩
 replace H := H.mut (f := RdYP 5 117 r A0 b.length c0 (· = b) s) (f' := RdYP 5 117 r A0 b.length c0 (· = b) (Pk.rBytes 32 s).2) hf_ hp_ (fun _ h => h)
 clear hp_ hf_
 refine ⟨H.sub (by repeat (first | exact .refl _ | exact List.nil_sublist _ | refine .cons_cons _ ?_ | refine .cons _ ?_)), ?_⟩
 refine c_eff rfl (e_call (w_none rfl) rfl rfl Tryz.func70 rfl rfl rfl (prgInt _ (H.get (f := RdYP 5 117 r A0 b.length c0 (· = b) (Pk.rBytes 32 s).2)) (Pk.ok_next hok) (H.gatT hG h0) h0) ?_)
 rintro _ W ⟨rfl, hp_, hf_⟩
 replace H := H.mut (f := RdYP 5 117 r A0 b.length c0 (· = b) (Pk.rBytes 32 s).2) (f' := RdYP 5 117 r A0 b.length c0 (· = b) (Pk.rInt (Pk.rBytes 32 s).2).2) hf_ hp_ (fun _ h => h)
 clear hp_ hf_
 refine ⟨H.sub (by repeat (first | exact .refl _ | exact List.nil_sublist _ | refine .cons_cons _ ?_ | refine .cons _ ?_)), ?_⟩
 refine cR rfl rfl rfl (fun W H => d_build (vs := pointC (Tx.rIn s).1.point) rfl (built_fields (places := [(0, 32), (32, 1)]) tz31 (by kernel_rfl) (by kernel_rfl) (fill_next (vs := (Pk.rBytes 32 s).1.map u8v) (.agg ((Pk.rBytes 32 s).1.map u8v).toArray) rfl rfl rfl hl32 (Nat.le_of_ble_eq_true rfl) (fill_next (vs := [.int .i64 ((Pk.rInt (Pk.rBytes 32 s).2).1 : Int)]) (.int .i64 ((Pk.rInt (Pk.rBytes 32 s).2).1 : Int)) rfl (by first | (simp [hl32]; done) | (simp [hl32]; omega)) rfl rfl (Nat.le_of_ble_eq_true rfl) (fill_end (by rw [List.nil_append]; exact List.append_nil _)))))) ?_
 refine cR rfl rfl rfl (fun W H => d_build (vs := inC (Tx.rIn s).1.point none 0 0) rfl (built_fields (places := [(0, 33), (33, 1)]) tz34 (by kernel_rfl) (by kernel_rfl) (fill_next (vs := pointC (Tx.rIn s).1.point) (.agg (pointC (Tx.rIn s).1.point).toArray) rfl rfl rfl (len_point hp) (Nat.le_of_ble_eq_true rfl) (fill_end (by rfl))))) ?_
 refine c_eff rfl (e_stoK (inC (Tx.rIn s).1.point none 0 0) (w_none rfl) rfl rfl rfl rfl rfl ts34 (len_in hp) in_one H (by rw [len_in (p := zPt) rfl]; decide) (spl_all ((len_in hp).trans (len_in (p := zPt) rfl).symm)) ?_)
 clear H; intro W H
 refine ⟨H.sub (by repeat (first | exact .refl _ | exact List.nil_sublist _ | refine .cons_cons _ ?_ | refine .cons _ ?_)), ?_⟩
 refine c_nil (k_ret ?_)
 repeat (first | refine r_then ?_ | refine r_blk ?_)
 exact q_retc rfl (c := inC (Tx.rIn s).1.point none 0 0) (g := go) H rfl ta34 (by rw [len_in hp]; exact ts34) ⟨_, rfl, rfl, H.get (f := RdYP 5 117 r A0 b.length c0 (· = b) (Pk.rInt (Pk.rBytes 32 s).2).2), H.fr⟩

set_option maxHeartbeats 4000000 in
theorem getOutF {A0 : Option Addr} {c0 r : Nat} {b : List UInt8} {s : RS} (w : World) (hR : (RdYP 5 117 r A0 b.length c0 (· = b) s).p w) {q : Nat} (hq : Gat w q [.pointer (some ⟨r, 0, none⟩)]) (hTq : ¬ (RdT r A0 b.length c0) q) (hok : Pk.Ok s) (hG : Gat w 0 formsC) (h0 : ¬ (RdT r A0 b.length c0) 0) : Calls Tryz.prog 72 [.pointer (some ⟨q, 0, none⟩)].toArray w (Ret (fun v' w' => (∃ B d, v' = .agg (outC (Tx.rOut s).1.value B (Tx.rOut s).1.script.length d).toArray ∧ HeldP A0 b.length b (.slice B (Tx.rOut s).1.script.length d) (Tx.rOut s).1.script) ∧ (RdYP 5 117 r A0 b.length c0 (· = b) (Tx.rOut s).2).p w' ∧ Fr (RdT r A0 b.length c0) w w')) := by
 have H0 := St.begin (f := RdYP 5 117 r A0 b.length c0 (· = b) s) hR (RdB.lt hR)
 refine k_enter (l := [_]) Tryz.func72 rfl rfl ?_
 have H := H0
 refine k_seq (k_region (s_eff (e_alloc (w_none rfl) rfl rfl [.int .i64 0, .slice none 0 0] tz37 H ?_)))
 clear H; intro go W H
 refine l_nil (k_seq (k_draw [(0, true), (2, true), (1, false), (3, false), (4, true), (5, false)] [] (by kernel_rfl) (by kernel_rfl) H (List.nil_sublist _) ?_))
 clear H; intro W H
 refine cR rfl rfl rfl (fun W H => d_ldG rfl ((H.gatT hq hTq)) rfl ta85 rfl) (cR rfl rfl rfl (fun W H => d_ldG rfl ((H.gatT hq hTq)) rfl ta85 rfl) (c_eff rfl (e_call (w_none rfl) rfl rfl Tryz.func70 rfl rfl rfl (prgInt _ (H.get (f := RdYP 5 117 r A0 b.length c0 (· = b) s)) hok (H.gatT hG h0) h0) ?_)))
 rintro _ W ⟨rfl, hp_, hf_⟩
 replace H := H.mut (f := RdYP 5 117 r A0 b.length c0 (· = b) s) (f' := RdYP 5 117 r A0 b.length c0 (· = b) (Pk.rInt s).2) hf_ hp_ (fun _ h => h)
 clear hp_ hf_
 refine ⟨H.sub (by repeat (first | exact .refl _ | exact List.nil_sublist _ | refine .cons_cons _ ?_ | refine .cons _ ?_)), ?_⟩
 refine c_eff rfl (e_call (w_none rfl) rfl rfl Tryz.func73 rfl rfl rfl (prgBlob (m := 256) _ (H.get (f := RdYP 5 117 r A0 b.length c0 (· = b) (Pk.rInt s).2)) (Pk.ok_rInt hok) (H.gatT hG h0) h0) ?_)
 rintro _ W ⟨hp_, hf_⟩
 obtain ⟨B1, d1, rfl⟩ := RdB.form hp_
 have hH := held_of hp_
 replace H := H.mut (f := RdYP 5 117 r A0 b.length c0 (· = b) (Pk.rInt s).2) (f' := RdYP 5 117 r A0 b.length c0 (· = b) (Pk.rBlob 256 (Pk.rInt s).2).2) hf_ (RdB.toP hp_) (fun _ h => h)
 clear hp_ hf_
 refine ⟨H.sub (by repeat (first | exact .refl _ | exact List.nil_sublist _ | refine .cons_cons _ ?_ | refine .cons _ ?_)), ?_⟩
 refine cR rfl rfl rfl (fun W H => d_build (vs := outC (Tx.rOut s).1.value B1 (Tx.rOut s).1.script.length d1) rfl (built_fields (places := [(0, 1), (1, 1)]) tz37 (by kernel_rfl) (by kernel_rfl) (fill_next (vs := [.int .i64 ((Pk.rInt s).1 : Int)]) (.int .i64 ((Pk.rInt s).1 : Int)) rfl rfl rfl rfl (Nat.le_of_ble_eq_true rfl) (fill_next (vs := [.slice B1 (Tx.rOut s).1.script.length d1]) (.slice B1 (Tx.rOut s).1.script.length d1) rfl (by rfl) rfl rfl (Nat.le_of_ble_eq_true rfl) (fill_end (by rfl)))))) ?_
 refine c_eff rfl (e_sto (w_none rfl) rfl rfl rfl rfl rfl ts37 rfl H rfl ?_)
 clear H; intro W H
 refine ⟨H.sub (by repeat (first | exact .refl _ | exact List.nil_sublist _ | refine .cons_cons _ ?_ | refine .cons _ ?_)), ?_⟩
 refine c_nil (k_ret ?_)
 repeat (first | refine r_then ?_ | refine r_blk ?_)
 exact q_retc rfl (c := outC (Tx.rOut s).1.value B1 (Tx.rOut s).1.script.length d1) (g := go) H rfl ta37 ts37 ⟨_, rfl, ⟨B1, d1, rfl, hH⟩, H.get (f := RdYP 5 117 r A0 b.length c0 (· = b) (Pk.rBlob 256 (Pk.rInt s).2).2), H.fr⟩

set_option maxHeartbeats 4000000 in
theorem getItemF {A0 : Option Addr} {c0 r : Nat} {b : List UInt8} {s : RS} (w : World) (hR : (RdYP 5 117 r A0 b.length c0 (· = b) s).p w) {q : Nat} (hq : Gat w q [.pointer (some ⟨r, 0, none⟩)]) (hTq : ¬ (RdT r A0 b.length c0) q) (hok : Pk.Ok s) (hG : Gat w 0 formsC) (h0 : ¬ (RdT r A0 b.length c0) 0) : Calls Tryz.prog 75 [.pointer (some ⟨q, 0, none⟩)].toArray w (Ret (fun v' w' => (∃ B d, v' = .slice B (Pk.rBlob 64 s).1.length d ∧ HeldP A0 b.length b (.slice B (Pk.rBlob 64 s).1.length d) (Pk.rBlob 64 s).1) ∧ (RdYP 5 117 r A0 b.length c0 (· = b) (Pk.rBlob 64 s).2).p w' ∧ Fr (RdT r A0 b.length c0) w w')) := by
 have H0 := St.begin (f := RdYP 5 117 r A0 b.length c0 (· = b) s) hR (RdB.lt hR)
 refine k_enter (l := [_]) Tryz.func75 rfl rfl ?_
 have H := H0
 refine k_seq (k_region (sAs rfl rfl rfl rfl (l_nil (k_seq (k_region (sR rfl rfl (d_ldG rfl ((H.gatT hq hTq)) rfl ta85 rfl) (sC rfl rfl rfl Tryz.func73 rfl rfl rfl (prgBlob (m := 64) _ (H.get (f := RdYP 5 117 r A0 b.length c0 (· = b) s)) hok (H.gatT hG h0) h0) ?_)))))))
 rintro _ W ⟨hp_, hf_⟩
 obtain ⟨B1, d1, rfl⟩ := RdB.form hp_
 have hH := held_of hp_
 replace H := H.mut (f := RdYP 5 117 r A0 b.length c0 (· = b) s) (f' := RdYP 5 117 r A0 b.length c0 (· = b) (Pk.rBlob 64 s).2) hf_ (RdB.toP hp_) (fun _ h => h)
 clear hp_ hf_
 refine sAs rfl rfl rfl rfl (l_nil (k_ret ?_))
 repeat (first | refine r_then ?_ | refine r_blk ?_)
 exact q_ret (v := .slice _ _ _) rfl rfl ⟨_, rfl, ⟨B1, d1, rfl, hH⟩, H.get (f := RdYP 5 117 r A0 b.length c0 (· = b) (Pk.rBlob 64 s).2), H.fr⟩

set_option maxHeartbeats 4000000 in
theorem listIn {A0 : Option Addr} {c0 r : Nat} {b : List UInt8} {s : RS} (w : World) (hR : (RdYP 5 117 r A0 b.length c0 (· = b) s).p w) {q : Nat} (hq : Gat w q [.pointer (some ⟨r, 0, none⟩)]) (hTq : ¬ (RdT r A0 b.length c0) q) (hok : Pk.Ok s) (hG : Gat w 0 formsC) (h0 : ¬ (RdT r A0 b.length c0) 0) : Calls Tryz.prog 67 [.pointer (some ⟨r, 0, none⟩), .int .i64 8, .func (.func 68) #[] [.pointer (some ⟨q, 0, none⟩)].toArray].toArray w (Ret (fun v' w' => ∃ A c xs S2, v' = .slice A (rList 8 Tx.rIn s).1.length c ∧ (rList 8 Tx.rIn s).1.length ≤ c ∧ c ≤ 9223372036854775807 ∧ St (RdT r A0 b.length c0) w w' [Fact.row 34 34 (.slice A (rList 8 Tx.rIn s).1.length c) (rList 8 Tx.rIn s).1.length xs, Fact.els (RInH A0 b) 34 S2 xs (rList 8 Tx.rIn s).1, RdYP 5 117 r A0 b.length c0 (· = b) (rList 8 Tx.rIn s).2])) := by
 have H0 := St.begin (f := RdYP 5 117 r A0 b.length c0 (· = b) s) hR (RdB.lt hR)
 refine k_enter (l := [_, _, _]) Tryz.func67 rfl rfl ?_
 have H := H0
 have hcb := count_bound (m := 8) (s := s) (by decide)
 have hlr : (rList 8 Tx.rIn s).1.length = (Pk.rCount 8 s).1 := len_rMany _ _
 refine k_seq (k_region (sAs rfl rfl rfl rfl (l_nil (k_seq (k_seq (k_region (sMp rfl rfl rfl rfl (sMi rfl rfl rfl rfl (sC rfl rfl rfl Tryz.func96 rfl rfl rfl (prgCount (m := 8) _ (H.get (f := RdYP 5 117 r A0 b.length c0 (· = b) s)) hok (H.gatT hG h0) h0) ?_)))))))))
 rintro _ W ⟨rfl, hp_, hf_⟩
 replace H := H.mut (f := RdYP 5 117 r A0 b.length c0 (· = b) s) (f' := RdYP 5 117 r A0 b.length c0 (· = b) (Pk.rCount 8 s).2) hf_ hp_ (fun _ h => h)
 clear hp_ hf_
 refine sMi rfl rfl rfl rfl (l_nil (k_block (k_loop 10 [6] (fun mm sl W => ∃ i : Nat, ∃ A2 : Option Addr, ∃ c2 : Nat, ∃ ys : List Value, ∃ S2 : Nat → Prop, (Pk.rCount 8 s).1 - i = mm ∧ sl = [(10, .int .i64 (i : Int)), (6, .slice A2 i c2)] ∧ (i ≤ (Pk.rCount 8 s).1) ∧ (i ≤ c2 ∧ c2 ≤ 9223372036854775807) ∧ St (RdT r A0 b.length c0) w W [Fact.row 34 34 (.slice A2 i c2) i ys, Fact.els (RInH A0 b) 34 S2 ys (rMany Tx.rIn i (Pk.rCount 8 s).2).1, RdYP 5 117 r A0 b.length c0 (· = b) (rMany Tx.rIn i (Pk.rCount 8 s).2).2]) _ _ ⟨0, none, 0, [], (fun _ => False), rfl, rfl, Nat.zero_le _, ⟨Nat.le_refl _, by omega⟩, ((H.els0 (RInH A0 b) 34).nilrow 34 34)⟩ ⟨rfl, rfl, trivial⟩ (fun mm sl ρv W hJ => ?_))))
 clear H; obtain ⟨i, A2, c2, ys, S2, rfl, rfl, hi, hd, H⟩ := hJ
 refine k_one (k_seq (k_region (sR rfl rfl (d_lt rfl rfl rfl) (l_nil (k_seq (k_cond rfl (fun hc11 => ?_) (fun hc11 => ?_)))))))
 ·replace hc11 := of_decide_eq_true hc11
  have hlt : i < (Pk.rCount 8 s).1 := by omega
  have hoki := (sane_many Tx.sane_in i).2 _ (Pk.ok_rCount (m := 8) hok)
  refine k_skip (k_seq (k_block (k_region (sMs rfl rfl rfl rfl (sR rfl rfl (mv_f rfl rfl) (s_eff (e_callv (w_none rfl) rfl rfl rfl Tryz.func68 rfl rfl rfl (getInF _ (H.get (f := RdYP 5 117 r A0 b.length c0 (· = b) (rMany Tx.rIn i (Pk.rCount 8 s).2).2)) (H.gatT hq hTq) hTq hoki (H.gatT hG h0) h0) ?_)))))))
  rintro _ W ⟨rfl, hp_, hf_⟩
  replace H := H.mut (f := RdYP 5 117 r A0 b.length c0 (· = b) (rMany Tx.rIn i (Pk.rCount 8 s).2).2) (f' := RdYP 5 117 r A0 b.length c0 (· = b) (Tx.rIn (rMany Tx.rIn i (Pk.rCount 8 s).2).2).2) hf_ hp_ (fun _ h => h)
  clear hp_ hf_
  have hp : (Tx.rIn (rMany Tx.rIn i (Pk.rCount 8 s).2).2).1.point.tx.length = 32 := Pk.len_rBytes
  replace H := H.flat (R := RInH A0 b) (cs := inC (Tx.rIn (rMany Tx.rIn i (Pk.rCount 8 s).2).2).1.point none 0 0) (a := (Tx.rIn (rMany Tx.rIn i (Pk.rCount 8 s).2).2).1) (in_nil hp Tx.int_ok)
  refine s_eff (e_bsl (xs := [.tmp 14]) (vals := [.agg (inC (Tx.rIn (rMany Tx.rIn i (Pk.rCount 8 s).2).2).1.point none 0 0).toArray]) (vs := (inC (Tx.rIn (rMany Tx.rIn i (Pk.rCount 8 s).2).2).1.point none 0 0)) (w_none rfl) rfl rfl rfl rfl rfl rfl tu23 ts34 ty34 rfl (by simp [agg_cells, len_in hp]) (by simp [agg_cells]) H ?_)
  clear H; intro g3_3 W H
  refine s_eff (e_app (w_none rfl) rfl rfl tu23 tx34 rfl rfl rfl H (rd_blk (m := 1) H.blk (len_in hp)) (in_one) (by omega) rfl ?_)
  clear H; intro A1 c1 W hc1 hd1 H
  replace H := H.drop
  refine sAs rfl rfl rfl rfl (l_nil ?_)
  replace H := (St.elsnoc (H.perm (.cons _ (.swap _ _ _))) (len_in hp)).perm (.swap _ _ _)
  refine k_nil (b_end (k_region (sR rfl rfl (d_add rfl rfl rfl (by omega)) (sMi rfl rfl rfl rfl (l_nil (k_nil (k_next ?_)))))))
  refine ⟨_, _, _, ?_, rfl, ?_, ?_, ⟨i + 1, A1, c1, _, _, rfl, rfl, by omega, ⟨hc1, hd1⟩, H⟩⟩
  ·omega
  ·repeat (first | (with_reducible refine .updl _ .ovr ?_); exact rfl | (with_reducible refine .updl _ (.ovr2 ?_ ?_) ?_); rotate_left; exact rfl; exact rfl | (with_reducible refine .upd ?_ ?_); rotate_left; exact rfl)
  ·refine ⟨?_, ?_, trivial⟩
   ·exact vi (by omega)
   ·exact rfl
 ·replace hc11 := of_decide_eq_false hc11
  refine k_exit (x_then (x_then ?_))
  refine x_hit (k_seq ?_)
  obtain rfl : i = (Pk.rCount 8 s).1 := by omega
  rw [show rMany Tx.rIn (Pk.rCount 8 s).1 (Pk.rCount 8 s).2 = (rList 8 Tx.rIn s) from rfl] at H
  have hlr2 := hlr
  refine k_region (sMs rfl rfl rfl rfl (sAs rfl rfl rfl rfl (l_nil (k_ret ?_))))
  repeat (first | refine r_then ?_ | refine r_blk ?_)
  refine q_ret (v := .slice _ _ _) rfl rfl ⟨_, rfl, A2, c2, ys, S2, sl_eq hlr.symm, by rw [hlr]; exact hd.1, hd.2, ?_⟩
  rw [hlr]
  exact H

set_option maxHeartbeats 4000000 in
theorem listOut {A0 : Option Addr} {c0 r : Nat} {b : List UInt8} {s : RS} (w : World) (hR : (RdYP 5 117 r A0 b.length c0 (· = b) s).p w) {q : Nat} (hq : Gat w q [.pointer (some ⟨r, 0, none⟩)]) (hTq : ¬ (RdT r A0 b.length c0) q) (hok : Pk.Ok s) (hG : Gat w 0 formsC) (h0 : ¬ (RdT r A0 b.length c0) 0) : Calls Tryz.prog 71 [.pointer (some ⟨r, 0, none⟩), .int .i64 8, .func (.func 72) #[] [.pointer (some ⟨q, 0, none⟩)].toArray].toArray w (Ret (fun v' w' => ∃ A c xs S2, v' = .slice A (rList 8 Tx.rOut s).1.length c ∧ (rList 8 Tx.rOut s).1.length ≤ c ∧ c ≤ 9223372036854775807 ∧ St (RdT r A0 b.length c0) w w' [Fact.row 37 2 (.slice A (rList 8 Tx.rOut s).1.length c) (rList 8 Tx.rOut s).1.length xs, Fact.els (ROutH A0 b) 2 S2 xs (rList 8 Tx.rOut s).1, RdYP 5 117 r A0 b.length c0 (· = b) (rList 8 Tx.rOut s).2])) := by
 have H0 := St.begin (f := RdYP 5 117 r A0 b.length c0 (· = b) s) hR (RdB.lt hR)
 refine k_enter (l := [_, _, _]) Tryz.func71 rfl rfl ?_
 have H := H0
 have hcb := count_bound (m := 8) (s := s) (by decide)
 have hlr : (rList 8 Tx.rOut s).1.length = (Pk.rCount 8 s).1 := len_rMany _ _
 refine k_seq (k_region (sAs rfl rfl rfl rfl (l_nil (k_seq (k_seq (k_region (sMp rfl rfl rfl rfl (sMi rfl rfl rfl rfl (sC rfl rfl rfl Tryz.func96 rfl rfl rfl (prgCount (m := 8) _ (H.get (f := RdYP 5 117 r A0 b.length c0 (· = b) s)) hok (H.gatT hG h0) h0) ?_)))))))))
 rintro _ W ⟨rfl, hp_, hf_⟩
 replace H := H.mut (f := RdYP 5 117 r A0 b.length c0 (· = b) s) (f' := RdYP 5 117 r A0 b.length c0 (· = b) (Pk.rCount 8 s).2) hf_ hp_ (fun _ h => h)
 clear hp_ hf_
 refine sMi rfl rfl rfl rfl (l_nil (k_block (k_loop 10 [6] (fun mm sl W => ∃ i : Nat, ∃ A2 : Option Addr, ∃ c2 : Nat, ∃ ys : List Value, ∃ S2 : Nat → Prop, (Pk.rCount 8 s).1 - i = mm ∧ sl = [(10, .int .i64 (i : Int)), (6, .slice A2 i c2)] ∧ (i ≤ (Pk.rCount 8 s).1) ∧ (i ≤ c2 ∧ c2 ≤ 9223372036854775807) ∧ St (RdT r A0 b.length c0) w W [Fact.row 37 2 (.slice A2 i c2) i ys, Fact.els (ROutH A0 b) 2 S2 ys (rMany Tx.rOut i (Pk.rCount 8 s).2).1, RdYP 5 117 r A0 b.length c0 (· = b) (rMany Tx.rOut i (Pk.rCount 8 s).2).2]) _ _ ⟨0, none, 0, [], (fun _ => False), rfl, rfl, Nat.zero_le _, ⟨Nat.le_refl _, by omega⟩, ((H.els0 (ROutH A0 b) 2).nilrow 37 2)⟩ ⟨rfl, rfl, trivial⟩ (fun mm sl ρv W hJ => ?_))))
 clear H; obtain ⟨i, A2, c2, ys, S2, rfl, rfl, hi, hd, H⟩ := hJ
 refine k_one (k_seq (k_region (sR rfl rfl (d_lt rfl rfl rfl) (l_nil (k_seq (k_cond rfl (fun hc11 => ?_) (fun hc11 => ?_)))))))
 ·replace hc11 := of_decide_eq_true hc11
  have hlt : i < (Pk.rCount 8 s).1 := by omega
  have hoki := (sane_many Tx.sane_out i).2 _ (Pk.ok_rCount (m := 8) hok)
  refine k_skip (k_seq (k_block (k_region (sMs rfl rfl rfl rfl (sR rfl rfl (mv_f rfl rfl) (s_eff (e_callv (w_none rfl) rfl rfl rfl Tryz.func72 rfl rfl rfl (getOutF _ (H.get (f := RdYP 5 117 r A0 b.length c0 (· = b) (rMany Tx.rOut i (Pk.rCount 8 s).2).2)) (H.gatT hq hTq) hTq hoki (H.gatT hG h0) h0) ?_)))))))
  rintro _ W ⟨⟨B1, d1, rfl, hH⟩, hp_, hf_⟩
  replace H := H.mut (f := RdYP 5 117 r A0 b.length c0 (· = b) (rMany Tx.rOut i (Pk.rCount 8 s).2).2) (f' := RdYP 5 117 r A0 b.length c0 (· = b) (Tx.rOut (rMany Tx.rOut i (Pk.rCount 8 s).2).2).2) hf_ hp_ (fun _ h => h)
  clear hp_ hf_
  replace H := H.flat (R := ROutH A0 b) (cs := outC (Tx.rOut (rMany Tx.rOut i (Pk.rCount 8 s).2).2).1.value B1 (Tx.rOut (rMany Tx.rOut i (Pk.rCount 8 s).2).2).1.script.length d1) (a := (Tx.rOut (rMany Tx.rOut i (Pk.rCount 8 s).2).2).1) (out_held Tx.int_ok hH)
  refine s_eff (e_bsl (xs := [.tmp 14]) (vals := [.agg (outC (Tx.rOut (rMany Tx.rOut i (Pk.rCount 8 s).2).2).1.value B1 (Tx.rOut (rMany Tx.rOut i (Pk.rCount 8 s).2).2).1.script.length d1).toArray]) (vs := (outC (Tx.rOut (rMany Tx.rOut i (Pk.rCount 8 s).2).2).1.value B1 (Tx.rOut (rMany Tx.rOut i (Pk.rCount 8 s).2).2).1.script.length d1)) (w_none rfl) rfl rfl rfl rfl rfl rfl tu24 ts37 ty37 rfl (by simp [agg_cells, outC]) (by simp [agg_cells]) H ?_)
  clear H; intro g3_3 W H
  refine s_eff (e_app (w_none rfl) rfl rfl tu24 tx37 rfl rfl rfl H (rd_blk (m := 1) H.blk rfl) (rfl) (by omega) rfl ?_)
  clear H; intro A1 c1 W hc1 hd1 H
  replace H := H.drop
  refine sAs rfl rfl rfl rfl (l_nil ?_)
  replace H := (St.elsnoc (H.perm (.cons _ (.swap _ _ _))) rfl).perm (.swap _ _ _)
  refine k_nil (b_end (k_region (sR rfl rfl (d_add rfl rfl rfl (by omega)) (sMi rfl rfl rfl rfl (l_nil (k_nil (k_next ?_)))))))
  refine ⟨_, _, _, ?_, rfl, ?_, ?_, ⟨i + 1, A1, c1, _, _, rfl, rfl, by omega, ⟨hc1, hd1⟩, H⟩⟩
  ·omega
  ·repeat (first | (with_reducible refine .updl _ .ovr ?_); exact rfl | (with_reducible refine .updl _ (.ovr2 ?_ ?_) ?_); rotate_left; exact rfl; exact rfl | (with_reducible refine .upd ?_ ?_); rotate_left; exact rfl)
  ·refine ⟨?_, ?_, trivial⟩
   ·exact vi (by omega)
   ·exact rfl
 ·replace hc11 := of_decide_eq_false hc11
  refine k_exit (x_then (x_then ?_))
  refine x_hit (k_seq ?_)
  obtain rfl : i = (Pk.rCount 8 s).1 := by omega
  rw [show rMany Tx.rOut (Pk.rCount 8 s).1 (Pk.rCount 8 s).2 = (rList 8 Tx.rOut s) from rfl] at H
  have hlr2 := hlr
  refine k_region (sMs rfl rfl rfl rfl (sAs rfl rfl rfl rfl (l_nil (k_ret ?_))))
  repeat (first | refine r_then ?_ | refine r_blk ?_)
  refine q_ret (v := .slice _ _ _) rfl rfl ⟨_, rfl, A2, c2, ys, S2, sl_eq hlr.symm, by rw [hlr]; exact hd.1, hd.2, ?_⟩
  rw [hlr]
  exact H

set_option maxHeartbeats 4000000 in
theorem listItem {A0 : Option Addr} {c0 r : Nat} {b : List UInt8} {s : RS} (w : World) (hR : (RdYP 5 117 r A0 b.length c0 (· = b) s).p w) {q : Nat} (hq : Gat w q [.pointer (some ⟨r, 0, none⟩)]) (hTq : ¬ (RdT r A0 b.length c0) q) (hok : Pk.Ok s) (hG : Gat w 0 formsC) (h0 : ¬ (RdT r A0 b.length c0) 0) : Calls Tryz.prog 74 [.pointer (some ⟨r, 0, none⟩), .int .i64 16, .func (.func 75) #[] [.pointer (some ⟨q, 0, none⟩)].toArray].toArray w (Ret (fun v' w' => ∃ A c xs S2, v' = .slice A (rList 16 (Pk.rBlob 64) s).1.length c ∧ (rList 16 (Pk.rBlob 64) s).1.length ≤ c ∧ c ≤ 9223372036854775807 ∧ St (RdT r A0 b.length c0) w w' [Fact.row 35 1 (.slice A (rList 16 (Pk.rBlob 64) s).1.length c) (rList 16 (Pk.rBlob 64) s).1.length xs, Fact.els (RBH A0 b) 1 S2 xs (rList 16 (Pk.rBlob 64) s).1, RdYP 5 117 r A0 b.length c0 (· = b) (rList 16 (Pk.rBlob 64) s).2])) := by
 have H0 := St.begin (f := RdYP 5 117 r A0 b.length c0 (· = b) s) hR (RdB.lt hR)
 refine k_enter (l := [_, _, _]) Tryz.func74 rfl rfl ?_
 have H := H0
 have hcb := count_bound (m := 16) (s := s) (by decide)
 have hlr : (rList 16 (Pk.rBlob 64) s).1.length = (Pk.rCount 16 s).1 := len_rMany _ _
 refine k_seq (k_region (sAs rfl rfl rfl rfl (l_nil (k_seq (k_seq (k_region (sMp rfl rfl rfl rfl (sMi rfl rfl rfl rfl (sC rfl rfl rfl Tryz.func96 rfl rfl rfl (prgCount (m := 16) _ (H.get (f := RdYP 5 117 r A0 b.length c0 (· = b) s)) hok (H.gatT hG h0) h0) ?_)))))))))
 rintro _ W ⟨rfl, hp_, hf_⟩
 replace H := H.mut (f := RdYP 5 117 r A0 b.length c0 (· = b) s) (f' := RdYP 5 117 r A0 b.length c0 (· = b) (Pk.rCount 16 s).2) hf_ hp_ (fun _ h => h)
 clear hp_ hf_
 refine sMi rfl rfl rfl rfl (l_nil (k_block (k_loop 10 [6] (fun mm sl W => ∃ i : Nat, ∃ A2 : Option Addr, ∃ c2 : Nat, ∃ ys : List Value, ∃ S2 : Nat → Prop, (Pk.rCount 16 s).1 - i = mm ∧ sl = [(10, .int .i64 (i : Int)), (6, .slice A2 i c2)] ∧ (i ≤ (Pk.rCount 16 s).1) ∧ (i ≤ c2 ∧ c2 ≤ 9223372036854775807) ∧ St (RdT r A0 b.length c0) w W [Fact.row 35 1 (.slice A2 i c2) i ys, Fact.els (RBH A0 b) 1 S2 ys (rMany (Pk.rBlob 64) i (Pk.rCount 16 s).2).1, RdYP 5 117 r A0 b.length c0 (· = b) (rMany (Pk.rBlob 64) i (Pk.rCount 16 s).2).2]) _ _ ⟨0, none, 0, [], (fun _ => False), rfl, rfl, Nat.zero_le _, ⟨Nat.le_refl _, by omega⟩, ((H.els0 (RBH A0 b) 1).nilrow 35 1)⟩ ⟨rfl, rfl, trivial⟩ (fun mm sl ρv W hJ => ?_))))
 clear H; obtain ⟨i, A2, c2, ys, S2, rfl, rfl, hi, hd, H⟩ := hJ
 refine k_one (k_seq (k_region (sR rfl rfl (d_lt rfl rfl rfl) (l_nil (k_seq (k_cond rfl (fun hc11 => ?_) (fun hc11 => ?_)))))))
 ·replace hc11 := of_decide_eq_true hc11
  have hlt : i < (Pk.rCount 16 s).1 := by omega
  have hoki := (sane_many (sane_blob (m := 64)) i).2 _ (Pk.ok_rCount (m := 16) hok)
  refine k_skip (k_seq (k_block (k_region (sMs rfl rfl rfl rfl (sR rfl rfl (mv_f rfl rfl) (s_eff (e_callv (w_none rfl) rfl rfl rfl Tryz.func75 rfl rfl rfl (getItemF _ (H.get (f := RdYP 5 117 r A0 b.length c0 (· = b) (rMany (Pk.rBlob 64) i (Pk.rCount 16 s).2).2)) (H.gatT hq hTq) hTq hoki (H.gatT hG h0) h0) ?_)))))))
  rintro _ W ⟨⟨B1, d1, rfl, hH⟩, hp_, hf_⟩
  replace H := H.mut (f := RdYP 5 117 r A0 b.length c0 (· = b) (rMany (Pk.rBlob 64) i (Pk.rCount 16 s).2).2) (f' := RdYP 5 117 r A0 b.length c0 (· = b) (Pk.rBlob 64 (rMany (Pk.rBlob 64) i (Pk.rCount 16 s).2).2).2) hf_ hp_ (fun _ h => h)
  clear hp_ hf_
  replace H := H.flat (R := RBH A0 b) (cs := [.slice B1 (Pk.rBlob 64 (rMany (Pk.rBlob 64) i (Pk.rCount 16 s).2).2).1.length d1]) (a := (Pk.rBlob 64 (rMany (Pk.rBlob 64) i (Pk.rCount 16 s).2).2).1) (⟨_, rfl, hH⟩)
  refine s_eff (e_bsl (xs := [.tmp 14]) (vals := [.slice _ _ _]) (vs := [.slice _ _ _]) (w_none rfl) rfl rfl rfl rfl rfl rfl tu32 ts35 ty35 rfl rfl rfl H ?_)
  clear H; intro g3_3 W H
  refine s_eff (e_app (w_none rfl) rfl rfl tu32 tx35 rfl rfl rfl H (rd_blk (m := 1) H.blk rfl) (rfl) (by omega) rfl ?_)
  clear H; intro A1 c1 W hc1 hd1 H
  replace H := H.drop
  refine sAs rfl rfl rfl rfl (l_nil ?_)
  replace H := (St.elsnoc (H.perm (.cons _ (.swap _ _ _))) rfl).perm (.swap _ _ _)
  refine k_nil (b_end (k_region (sR rfl rfl (d_add rfl rfl rfl (by omega)) (sMi rfl rfl rfl rfl (l_nil (k_nil (k_next ?_)))))))
  refine ⟨_, _, _, ?_, rfl, ?_, ?_, ⟨i + 1, A1, c1, _, _, rfl, rfl, by omega, ⟨hc1, hd1⟩, H⟩⟩
  ·omega
  ·repeat (first | (with_reducible refine .updl _ .ovr ?_); exact rfl | (with_reducible refine .updl _ (.ovr2 ?_ ?_) ?_); rotate_left; exact rfl; exact rfl | (with_reducible refine .upd ?_ ?_); rotate_left; exact rfl)
  ·refine ⟨?_, ?_, trivial⟩
   ·exact vi (by omega)
   ·exact rfl
 ·replace hc11 := of_decide_eq_false hc11
  refine k_exit (x_then (x_then ?_))
  refine x_hit (k_seq ?_)
  obtain rfl : i = (Pk.rCount 16 s).1 := by omega
  rw [show rMany (Pk.rBlob 64) (Pk.rCount 16 s).1 (Pk.rCount 16 s).2 = (rList 16 (Pk.rBlob 64) s) from rfl] at H
  have hlr2 := hlr
  refine k_region (sMs rfl rfl rfl rfl (sAs rfl rfl rfl rfl (l_nil (k_ret ?_))))
  repeat (first | refine r_then ?_ | refine r_blk ?_)
  refine q_ret (v := .slice _ _ _) rfl rfl ⟨_, rfl, A2, c2, ys, S2, sl_eq hlr.symm, by rw [hlr]; exact hd.1, hd.2, ?_⟩
  rw [hlr]
  exact H
end Go.Proofs.YteakkflhndifbaaGreatDoor

namespace Go.Proofs.YteakkflhndifbaaGreatDoor
open Go Go.RowKit

namespace Tx
abbrev G1 (b : List UInt8) := rList 8 rIn (b, 0)
abbrev G2 (b : List UInt8) := rList 8 rOut (G1 b).2
abbrev G3 (b : List UInt8) := Pk.rInt (G2 b).2
abbrev GW (b : List UInt8) (i : Nat) := rMany rWit i (G3 b).2
/-- The ins, the first i of them with their witnesses. -/
def insAt (b : List UInt8) (i : Nat) : List DIn := List.zipWith setW ((G1 b).1.take i) (GW b i).1 ++ (G1 b).1.drop i
def gotTx (b : List UInt8) : DTx := ⟨insAt b (G1 b).1.length, (G2 b).1, ((G3 b).1 : Int)⟩
theorem gwlen {b : List UInt8} {i : Nat} : (GW b i).1.length = i := len_rMany _ _
theorem insAt_0 {b : List UInt8} : insAt b 0 = (G1 b).1 := by unfold insAt; simp
theorem zlen {b : List UInt8} {i : Nat} (h : i ≤ (G1 b).1.length) : (List.zipWith setW ((G1 b).1.take i) (GW b i).1).length = i := by
  rw [List.length_zipWith, gwlen, List.length_take]; omega
theorem insAt_len {b : List UInt8} {i : Nat} (h : i ≤ (G1 b).1.length) : (insAt b i).length = (G1 b).1.length := by
  unfold insAt
  rw [List.length_append, zlen h, List.length_drop]; omega
theorem insAt_get {b : List UInt8} {i : Nat} (h : i ≤ (G1 b).1.length) : (insAt b i)[i]? = (G1 b).1[i]? := by
  unfold insAt
  rw [List.getElem?_append_right (by rw [zlen h]; exact Nat.le_refl _), zlen h, Nat.sub_self, List.getElem?_drop, Nat.add_zero]
theorem zip_snoc {α β γ : Type} {f : α → β → γ} : ∀ (a : List α) (c : List β) (x : α) (y : β), a.length = c.length → List.zipWith f (a ++ [x]) (c ++ [y]) = List.zipWith f a c ++ [f x y]
  | [], [], x, y, _ => rfl
  | u :: a, v :: c, x, y, h => by
    rw [List.cons_append, List.cons_append, List.zipWith_cons_cons, zip_snoc a c x y (by simpa using h)]; rfl
  | [], _ :: _, _, _, h => by simp at h
  | _ :: _, [], _, _, h => by simp at h
theorem insAt_step {b : List UInt8} {i : Nat} {x : DIn} (hx : (G1 b).1[i]? = some x) : insAt b (i + 1) = (insAt b i).set i ⟨x.point, (rWit (GW b i).2).1⟩ := by
  have hi := (List.getElem?_eq_some_iff.1 hx).1
  have e1 : (GW b (i + 1)).1 = (GW b i).1 ++ [(rWit (GW b i).2).1] := rfl
  have hz := zlen (b := b) (i := i) (by omega)
  have e2 : (insAt b i).set i ⟨x.point, (rWit (GW b i).2).1⟩ = List.zipWith setW ((G1 b).1.take i) (GW b i).1 ++ ((⟨x.point, (rWit (GW b i).2).1⟩ : DIn) :: (G1 b).1.drop (i + 1)) := by
    unfold insAt
    rw [List.set_append_right _ _ (by rw [hz]; exact Nat.le_refl _), hz, Nat.sub_self]
    obtain ⟨h1, h2⟩ := List.getElem?_eq_some_iff.1 hx
    rw [List.drop_eq_getElem_cons h1, List.set_cons_zero]
  rw [e2]
  unfold insAt
  rw [take_get hx, e1, zip_snoc _ _ _ _ (by rw [gwlen, List.length_take]; omega), List.append_assoc]
  rfl
theorem got_read {b : List UInt8} : read (b, 0) = (gotTx b, (GW b (G1 b).1.length).2) := by
  have e : gotTx b = mk (((G1 b).1, ((G2 b).1, ((G3 b).1 : Int))), (GW b (G1 b).1.length).1) := by
    unfold gotTx mk insAt
    dsimp only
    rw [List.drop_length, List.append_nil, List.take_length]
  rw [e]
  rfl
theorem get_eq {b : List UInt8} : get b = fin (gotTx b, (GW b (G1 b).1.length).2) := by unfold get; rw [got_read]
theorem ok_got {b : List UInt8} : Ok (gotTx b) := by
  have := ok_read (s := (b, 0))
  rw [got_read] at this
  exact this
end Tx
section
variable {W : World} {S S' : Nat → Prop} {A0 : Option Addr} {b : List UInt8}
theorem in_held {cs : List Value} {x : DIn} (h : RInH A0 b W S cs x) : ∃ A c, cs = inC x.point A x.wit.length c ∧ x.point.tx.length = 32 ∧ I64 x.point.n := by
  obtain ⟨c0, c1, rfl, h0, h1⟩ := h
  obtain ⟨rfl, h2, h3⟩ := point_of h0
  obtain ⟨⟨A, c, xs, rfl, _⟩, _⟩ := h1
  exact ⟨A, c, rfl, h2, h3⟩
theorem in_heldR {p : DPoint} {A : Option Addr} {c : Nat} {w : List (List UInt8)} (h : p.tx.length = 32) (hn : I64 p.n) (hw : RLO 35 1 (RBH A0 b) W S [.slice A w.length c] w) : RInH A0 b W S (inC p A w.length c) ⟨p, w⟩ := ⟨_, _, rfl, point_rep h hn, hw⟩
theorem set_in_w {p : DPoint} {A A' : Option Addr} {m c m' c' : Nat} (h : p.tx.length = 32) : (inC p A m c).set 33 (.slice A' m' c') = inC p A' m' c' := by
  unfold inC
  rw [List.set_append_right _ _ (by rw [len_point h]; exact Nat.le_refl _), len_point h]
  rfl
theorem rbh_conv {u t r c0 : Nat} {s : RS} {v : Value} {d : List UInt8} (hP : (RdYB u t r A0 b.length c0 (· = b) v d s).p W) (hS : ∀ g, (Value.slice A0 b.length c0).ownBlock = some g → S' g) {cs : List Value} {x : List UInt8} (h : RBH A0 b W S cs x) : RB W S' cs x := by
  obtain ⟨v, rfl, hH⟩ := h
  exact ⟨v, rfl, (held_own hP hH).mono (fun g _ hg => hS g hg)⟩
theorem inh_conv {u t r c0 : Nat} {s : RS} {v : Value} {d : List UInt8} (hP : (RdYB u t r A0 b.length c0 (· = b) v d s).p W) (hS : ∀ g, (Value.slice A0 b.length c0).ownBlock = some g → S' g) (hS2 : ∀ g, S g → S' g) {cs : List Value} {x : DIn} (h : RInH A0 b W S cs x) : RIn W S' cs x := by
  obtain ⟨c0, c1, rfl, h0, h1⟩ := h
  exact ⟨c0, c1, rfl, mono_Point _ _ _ _ _ h0 (fun g _ hg => hS2 g hg), rl_conv h1.1 hS2 (fun _ _ h => rbh_conv hP hS h)⟩
theorem outh_conv {u t r c0 : Nat} {s : RS} {v : Value} {d : List UInt8} (hP : (RdYB u t r A0 b.length c0 (· = b) v d s).p W) (hS : ∀ g, (Value.slice A0 b.length c0).ownBlock = some g → S' g) {cs : List Value} {x : DOut} (h : ROutH A0 b W S cs x) : ROut W S' cs x := by
  obtain ⟨c0, c1, rfl, h0, h1⟩ := h
  exact ⟨c0, c1, rfl, h0, rbh_conv hP hS h1⟩
end
/-- What tx.Get has read, in its parts. -/
structure Parts (T : Nat → Prop) (w W : World) (b : List UInt8) (t : DTx) (eI eO u tR : Nat) (A B : Option Addr) (c d : Nat) (L : List Fact) : Prop where
  st : ∃ r A0 c0 s xs ys S0 S1, St T w W (Fact.row eI 34 (.slice A t.ins.length c) t.ins.length xs :: Fact.els (RInH A0 b) 34 S0 xs t.ins :: Fact.row eO 2 (.slice B t.outs.length d) t.outs.length ys :: Fact.els (ROutH A0 b) 2 S1 ys t.outs :: RdYP u tR r A0 b.length c0 (· = b) s :: L)
theorem parts_rep {T : Nat → Prop} {w W : World} {b : List UInt8} {t : DTx} {eI eO u tR : Nat} {A B : Option Addr} {c d : Nat} {L : List Fact} (h : Parts T w W b t eI eO u tR A B c d L) (hk : I64 t.lock) : ∃ S, St T w W (Fact.rep RTx S (txC A t.ins.length c B t.outs.length d t.lock) t :: L) := by
  obtain ⟨r, A0, c0, s, xs, ys, S0, S1, H⟩ := h.st
  have H2 := (H.tolist.perm (.trans (.swap _ _ _) (.cons _ (.swap _ _ _)))).tolist
  obtain ⟨SO, hSO⟩ : ∃ SO, SO = (fun g => (Value.slice B t.outs.length d).ownBlock = some g ∨ S1 g) := ⟨_, rfl⟩
  obtain ⟨SI, hSI⟩ : ∃ SI, SI = (fun g => (Value.slice A t.ins.length c).ownBlock = some g ∨ S0 g) := ⟨_, rfl⟩
  rw [← hSO, ← hSI] at H2
  have hP := H2.holds _ (.tail _ (.tail _ (.head _)))
  have hI : RL 34 (RInH A0 b) W SI [.slice A t.ins.length c] t.ins := H2.holds _ (.tail _ (.head _))
  have hO : RL 2 (ROutH A0 b) W SO [.slice B t.outs.length d] t.outs := H2.holds _ (.head _)
  have hp : RTx W (fun g => (SO g ∨ SI g) ∨ RdT r A0 b.length c0 g) (txC A t.ins.length c B t.outs.length d t.lock) t :=
    ⟨_, _, _, rfl, rl_conv hI (fun g hg => .inl (.inr hg)) (fun _ _ h => inh_conv hP (fun g hg => .inr (.inr hg)) (fun g hg => .inl (.inr hg)) h), rl_conv hO (fun g hg => .inl (.inl hg)) (fun _ _ h => outh_conv hP (fun g hg => .inr (.inr hg)) h), rfl, hk⟩
  exact ⟨_, H2.two.merge (F := Fact.rep RTx _ _ t) hp (fun g hg => hg)⟩
end Go.Proofs.YteakkflhndifbaaGreatDoor

namespace Go.Proofs.YteakkflhndifbaaGreatDoor
open Go Go.RowKit
attribute [local irreducible] wpList

/-- What a call of tx.Get leaves. -/
def GotTx (w : World) (b : List UInt8) (v : Value) (w' : World) : Prop := ∃ cs, v = .tuple #[.agg cs.toArray, .int .i64 (Tx.get b).2] ∧ (((Tx.get b).2 ≠ 0 ∧ cs = txC none 0 0 none 0 0 0 ∧ Below w.heap.size w w') ∨ ((Tx.get b).2 = 0 ∧ ∃ A c B d, cs = txC A (Tx.get b).1.ins.length c B (Tx.get b).1.outs.length d (Tx.get b).1.lock ∧ Parts nT w w' b (Tx.get b).1 34 37 5 117 A B c d []))
theorem GotTx.rep {w W W' : World} {T : Nat → Prop} {L : List Fact} {b : List UInt8} {v : Value} (h : GotTx W b v W') (H : St T w W L) : ∃ S A c B d, v = .tuple #[.agg (txC A (Tx.get b).1.ins.length c B (Tx.get b).1.outs.length d (Tx.get b).1.lock).toArray, .int .i64 (Tx.get b).2] ∧ St T w W' (Fact.rep RTx S (txC A (Tx.get b).1.ins.length c B (Tx.get b).1.outs.length d (Tx.get b).1.lock) (Tx.get b).1 :: L) := by
 obtain ⟨cs, hv, ⟨h1, rfl, hb⟩ | ⟨h1, A, c, B, d, rfl, hp⟩⟩ := h
 ·have e := Tx.get_zero h1
  refine ⟨fun _ => False, none, 0, none, 0, by rw [hv, e]; rfl, ?_⟩
  rw [e]
  exact (H.below hb).flat (R := RTx) (a := Tx.zero) ⟨_, _, _, rfl, rl_nil, rl_nil, rfl, by decide, by decide⟩
 ·obtain ⟨S, K⟩ := parts_rep hp Tx.ok_get.2.2
  exact ⟨S, A, c, B, d, hv, H.add1 K⟩

set_option maxHeartbeats 4000000 in
theorem getTP {S : Nat → Prop} {v : Value} {b : List UInt8} (w : World) (hb : Bs w S v b) (hbl : b.length ≤ 1000000000000) (hG : Gat w 0 formsC) : Calls Tryz.prog 29 [v].toArray w (Ret (GotTx w b)) := by
 have hb0 := hb
 obtain ⟨Ab, cb, rfl, _, _, _⟩ := hb.op
 have hok0 : Pk.Ok (b, 0) := ⟨fun h => absurd rfl h, (show (0 : Int) ≤ 0 by decide), (show (0 : Int) ≤ 24 by decide)⟩
 have hok1 : Pk.Ok (Tx.G1 b).2 := (sane_list Tx.sane_in).2 _ hok0
 have hok2 : Pk.Ok (Tx.G2 b).2 := (sane_list Tx.sane_out).2 _ hok1
 have hok3 : Pk.Ok (Tx.G3 b).2 := Pk.ok_rInt hok2
 have hn8 : (Tx.G1 b).1.length ≤ 8 := by have := count_bound (m := 8) (s := (b, 0)) (by decide); have e : (Tx.G1 b).1.length = (Pk.rCount 8 (b, 0)).1 := len_rMany _ _; omega
 refine k_enter (l := [_]) Tryz.func29 rfl rfl ?_
 have H := St.start nT w
 refine k_seq (k_region (s_eff (e_alloc (w_none rfl) rfl rfl [.slice none 0 0, .slice none 0 0, .int .i64 0] tz26 H ?_)))
 clear H; intro go W H
 refine sAi rfl rfl rfl rfl (l_nil (k_seq (k_region (sMs rfl rfl rfl rfl (sC rfl rfl rfl Tryz.func66 rfl rfl rfl (prgReadY _ (H.bs hb0) hbl) ?_)))))
 rintro _ W ⟨r, A0, c0, rfl, hn⟩
 replace H := H.add1 hn
 clear hn
 refine s_eff (e_alloc (w_none rfl) rfl rfl [.pointer none] tz85 H ?_)
 clear H; intro gr W H
 refine s_eff (e_sto (w_none rfl) rfl rfl rfl rfl rfl ts85 rfl H rfl ?_)
 clear H; intro W H
 have hTq : ¬ RdT r A0 b.length c0 gr := fun h => (List.pairwise_cons.1 H.apart).1 _ (.head _) gr rfl h
 have h0 : ¬ RdT r A0 b.length c0 0 := H.away (f := RdYP 5 117 r A0 b.length c0 (· = b) (b, 0)) hG.1
 refine l_nil (k_seq (k_region (s_eff (e_alloc (w_none rfl) rfl rfl [.slice none 0 0, .slice none 0 0, .int .i64 0] tz26 H ?_))))
 clear H; intro gt W H
 refine l_nil (k_seq (k_region (sR rfl rfl (d_ld rfl H rfl ta85 rfl) (sR rfl rfl (d_mkf rfl rfl rfl) (sC rfl rfl rfl Tryz.func67 rfl rfl rfl (listIn _ (H.get (f := RdYP 5 117 r A0 b.length c0 (· = b) (b, 0))) (gat_of (H.blk (g := gr))) hTq hok0 (H.gat hG) h0) ?_)))))
 rintro _ W ⟨A1, c1, xs1, S1, rfl, hc1, hd1, hK⟩
 replace H := H.mutK2 (f := RdYP 5 117 r A0 b.length c0 (· = b) (b, 0)) (f' := RdYP 5 117 r A0 b.length c0 (· = b) (Tx.G1 b).2) hK rfl
 clear hK
 replace hc1 : (Tx.G1 b).1.length ≤ c1 := hc1
 refine sR rfl rfl (d_fa rfl rfl tf26_0) (s_eff (e_sto (w_none rfl) rfl rfl rfl rfl rfl ts23 rfl H rfl ?_))
 clear H; intro W H
 refine l_nil (k_seq (k_region (sR rfl rfl (d_ld rfl H rfl ta85 rfl) (sR rfl rfl (d_mkf rfl rfl rfl) (sC rfl rfl rfl Tryz.func71 rfl rfl rfl (listOut _ (H.get (f := RdYP 5 117 r A0 b.length c0 (· = b) (Tx.G1 b).2)) (gat_of (H.blk (g := gr))) hTq hok1 (H.gat hG) h0) ?_)))))
 rintro _ W ⟨A2, c2, xs2, S2, rfl, hc2, hd2, hK⟩
 replace H := H.mutK2 (f := RdYP 5 117 r A0 b.length c0 (· = b) (Tx.G1 b).2) (f' := RdYP 5 117 r A0 b.length c0 (· = b) (Tx.G2 b).2) hK rfl
 clear hK
 replace hc2 : (Tx.G2 b).1.length ≤ c2 := hc2
 refine sR rfl rfl (d_fa rfl rfl tf26_1) (s_eff (e_sto (w_none rfl) rfl rfl rfl rfl rfl ts24 rfl H rfl ?_))
 clear H; intro W H
 refine l_nil (k_seq (k_region (sR rfl rfl (d_ld rfl H rfl ta85 rfl) (sC rfl rfl rfl Tryz.func70 rfl rfl rfl (prgInt _ (H.get (f := RdYP 5 117 r A0 b.length c0 (· = b) (Tx.G2 b).2)) hok2 (H.gat hG) h0) ?_))))
 rintro _ W ⟨rfl, hp_, hf_⟩
 replace H := H.mut (f := RdYP 5 117 r A0 b.length c0 (· = b) (Tx.G2 b).2) (f' := RdYP 5 117 r A0 b.length c0 (· = b) (Tx.G3 b).2) hf_ hp_ (fun _ h => h)
 clear hp_ hf_
 refine sR rfl rfl (d_fa rfl rfl tf26_2) (s_eff (e_sto (w_none rfl) rfl rfl rfl rfl rfl ts3 rfl H rfl ?_))
 clear H; intro W H
 refine l_nil (k_seq (k_seq (k_region (sR rfl rfl (d_fa rfl rfl tf26_0) (sR rfl rfl (d_ld rfl H rfl ta23 rfl) (sR rfl rfl (d_len rfl rfl tu23) (sMi rfl rfl rfl rfl (l_nil (k_block (k_loop 24 [6] (fun mm sl W => ∃ i : Nat, ∃ xs : List Value, ∃ S3 : Nat → Prop, (Tx.G1 b).1.length - i = mm ∧ sl = [(24, .int .i64 (i : Int))] ∧ (i ≤ (Tx.G1 b).1.length) ∧ St nT w W [Fact.row 37 2 (.slice A2 (Tx.G2 b).1.length c2) (Tx.G2 b).1.length xs2, Fact.els (ROutH A0 b) 2 S2 xs2 (Tx.G2 b).1, Fact.row 34 34 (.slice A1 (Tx.G1 b).1.length c1) (Tx.G1 b).1.length xs, Fact.els (RInH A0 b) 34 S3 xs (Tx.insAt b i), Fact.blk gt (txC A1 (Tx.G1 b).1.length c1 A2 (Tx.G2 b).1.length c2 ((Tx.G3 b).1 : Int)) 26, Fact.blk gr [.pointer (some ⟨r, 0, none⟩)] 85, RdYP 5 117 r A0 b.length c0 (· = b) (Tx.GW b i).2, Fact.blk go [.slice none 0 0, .slice none 0 0, .int .i64 0] 26]) _ _ ⟨0, xs1, S1, rfl, rfl, Nat.zero_le _, (by rw [Tx.insAt_0]; exact H)⟩ ⟨rfl, trivial⟩ (fun mm sl ρv W hJ => ?_)))))))))))
 clear H; obtain ⟨i, xs, S3, rfl, rfl, hi, H⟩ := hJ
 refine k_one (k_seq (k_region (sR rfl rfl (d_lt rfl rfl rfl) (l_nil (k_seq (k_cond rfl (fun hc25 => ?_) (fun hc25 => ?_)))))))
 ·replace hc25 : (i : Int) < ((Tx.G1 b).1.length : Int) := of_decide_eq_true hc25
  have hlt : i < (Tx.G1 b).1.length := by omega
  obtain ⟨x, hx⟩ := get_lt hlt
  obtain ⟨g1, rfl⟩ : ∃ g1, A1 = some ⟨g1, 0, none⟩ := row_own (H.get (f := Fact.row 34 34 (.slice A1 (Tx.G1 b).1.length c1) (Tx.G1 b).1.length xs)) (by omega)
  have hels := H.get (f := Fact.els (RInH A0 b) 34 S3 xs (Tx.insAt b i))
  obtain ⟨Ax, cx, hL, hp, hn⟩ := in_held (hels.2 i x (by rw [Tx.insAt_get hi]; exact hx))
  have hxl : xs.length = (Tx.G1 b).1.length * 34 := by have := hels.1; rw [Tx.insAt_len hi] at this; exact this
  have hoki := (sane_many Tx.sane_wit i).2 _ hok3
  have hmul := Nat.mul_le_mul_right 34 (show i + 1 ≤ (Tx.G1 b).1.length by omega)
  rw [Nat.add_mul] at hmul
  refine k_skip (k_seq (k_block (k_seq (k_region (sMi rfl rfl rfl rfl (sAi rfl rfl rfl rfl (l_nil (k_draw [(0, true), (1, true), (2, true), (3, true), (4, true), (5, false), (6, true), (7, true), (8, false)] [Fact.blk gt (txC (some ⟨g1, 0, none⟩) (Tx.G1 b).1.length c1 A2 (Tx.G2 b).1.length c2 ((Tx.G3 b).1 : Int)) 26, Fact.blk gr [.pointer (some ⟨r, 0, none⟩)] 85] (by kernel_rfl) (by kernel_rfl) H (by repeat (first | exact .refl _ | exact List.nil_sublist _ | refine .cons_cons _ ?_ | refine .cons _ ?_)) ?_))))))))
  clear H; intro W H
  refine cR rfl rfl rfl (fun W H => d_fa rfl rfl tf26_0) (cR rfl rfl rfl (fun W H => d_ld rfl H rfl ta23 rfl) (cR rfl rfl rfl (fun W H => mv_i rfl rfl) (cR rfl rfl rfl (fun W H => d_ld rfl H rfl ta85 rfl) (cR rfl rfl rfl (fun W H => d_mkf rfl rfl rfl) (c_eff rfl (e_call (w_none rfl) rfl rfl Tryz.func74 rfl rfl rfl (listItem _ (H.get (f := RdYP 5 117 r A0 b.length c0 (· = b) (Tx.GW b i).2)) (gat_of (H.blk (g := gr))) hTq hoki (H.gat hG) h0) ?_))))))
  rintro _ W ⟨A9, c9, xs9, S9, rfl, hc9, hd9, hK⟩
  replace H := H.mutK2 (f := RdYP 5 117 r A0 b.length c0 (· = b) (Tx.GW b i).2) (f' := RdYP 5 117 r A0 b.length c0 (· = b) (Tx.rWit (Tx.GW b i).2).2) hK rfl
  clear hK
  replace hc9 : (Tx.rWit (Tx.GW b i).2).1.length ≤ c9 := hc9
  refine ⟨H.sub (by repeat (first | exact .refl _ | exact List.nil_sublist _ | refine .cons_cons _ ?_ | refine .cons _ ?_)), ?_⟩
  refine cR rfl rfl rfl (fun W H => d_iaP (q := i) rfl rfl rfl rfl hlt tu23 ts34) (cR rfl rfl rfl (fun W H => d_fa rfl rfl tf34_1) (c_eff rfl (e_stoG (k := i * 34 + 33) (s := 34) (e := 34) (m := (Tx.G1 b).1.length) (c := c1) (w_none rfl) rfl rfl rfl (by omega) rfl rfl ts32 rfl H (by omega) ?_)))
  clear H; intro W H
  refine ⟨H.sub (by repeat (first | exact .refl _ | exact List.nil_sublist _ | refine .cons_cons _ ?_ | refine .cons _ ?_)), ?_⟩
  refine c_nil ?_
  replace H := H.tolistO
  replace H := H.rerep (R' := RInH A0 b) (cs' := inC x.point A9 (Tx.rWit (Tx.GW b i).2).1.length c9) (b := ⟨x.point, (Tx.rWit (Tx.GW b i).2).1⟩) (fun h => in_heldR hp hn h)
  replace H := els_set (i := i) (xs' := xs.set (i * 34 + 33) (.slice A9 (Tx.rWit (Tx.GW b i).2).1.length c9)) (H.perm (.cons _ (List.perm_middle (l₁ := [_, _, _])))) (by rw [Tx.insAt_len hi]; exact hlt) (by rw [sub_set_self (by decide), hL]; exact set_in_w hp) (fun j hj hji => sub_set_other (by decide) hji) (by rw [List.length_set])
  replace H := H.perm (List.perm_middle (l₁ := [_, _, _])).symm
  refine k_nil (b_end (k_region (sR rfl rfl (d_add rfl rfl rfl (by omega)) (sMi rfl rfl rfl rfl (l_nil (k_nil (k_next ?_)))))))
  refine ⟨_, _, _, ?_, rfl, ?_, ?_, ⟨i + 1, _, _, rfl, rfl, by omega, by rw [Tx.insAt_step hx]; exact H⟩⟩
  ·omega
  ·repeat (first | (with_reducible refine .updl _ .ovr ?_); exact rfl | (with_reducible refine .updl _ (.ovr2 ?_ ?_) ?_); rotate_left; exact rfl; exact rfl | (with_reducible refine .upd ?_ ?_); rotate_left; exact rfl)
  ·refine ⟨?_, trivial⟩
   ·exact vi (by omega)
 ·replace hc25 : ¬ (i : Int) < ((Tx.G1 b).1.length : Int) := of_decide_eq_false hc25
  obtain rfl : i = (Tx.G1 b).1.length := by omega
  refine k_exit (x_then (x_then ?_))
  refine x_hit (k_seq (k_region (sR rfl rfl (d_ld rfl H rfl ta85 rfl) (sC rfl rfl rfl Tryz.func76 rfl rfl rfl (prgEnd _ (H.get (f := RdYP 5 117 r A0 b.length c0 (· = b) (Tx.GW b (Tx.G1 b).1.length).2))) ?_))))
  rintro _ W ⟨rfl, hb⟩
  replace H := H.below hb
  clear hb
  refine sAi rfl rfl rfl rfl (l_nil (k_seq (k_seq (k_region (sMi rfl rfl rfl rfl (sR rfl rfl (d_eq rfl rfl rfl) (l_nil (k_cond rfl (fun hc39 => ?_) (fun hc39 => ?_)))))))))
  ·have he : Pk.rEnd (Tx.GW b (Tx.G1 b).1.length).2 = 0 := by simpa using hc39
   have hgl : (Tx.gotTx b).ins.length = (Tx.G1 b).1.length := Tx.insAt_len (Nat.le_refl _)
   have hPt : Parts nT w W b (Tx.gotTx b) 34 37 5 117 A1 A2 c1 c2 [_, _, _] := ⟨r, A0, c0, (Tx.GW b (Tx.G1 b).1.length).2, xs, xs2, S3, S2, by rw [hgl]; exact H.perm ((List.perm_append_comm (l₁ := [_, _]) (l₂ := [_, _])).append (List.perm_middle (l₁ := [_, _]) (l₂ := [_])))⟩
   refine k_region (sR rfl rfl (d_ldXM (g := gt) (off := 0) rfl H (sub_all (a := txC A1 (Tx.G1 b).1.length c1 A2 (Tx.G2 b).1.length c2 ((Tx.G3 b).1 : Int)) (m := 3) rfl) rfl rfl rfl rfl ta26 ts26) ?_)
   refine s_eff (e_call (w_none rfl) rfl rfl Tryz.func19 rfl rfl rfl (checkTP (S := (0 ≤ ·)) (t := Tx.gotTx b) _ (by
     obtain ⟨SR, HR⟩ := parts_rep hPt Tx.ok_got.2.2
     rw [hgl] at HR
     exact mono_Tx _ _ _ _ _ (HR.holds _ (.head _)) (fun g _ _ => Nat.zero_le _))) ?_)
   rintro _ W2 ⟨rfl, hb2⟩
   clear hPt
   replace H := H.below hb2
   clear hb2
   refine sAi rfl rfl rfl rfl (l_nil (k_seq (k_seq (k_region (sMi rfl rfl rfl rfl (sR rfl rfl (d_ne rfl rfl rfl) (l_nil (k_cond rfl (fun hc43 => ?_) (fun hc43 => ?_)))))))))
   ·have hne : Tx.chk (Tx.gotTx b) ≠ 0 := by simpa using hc43
    refine k_seq (k_region (sR rfl rfl (d_build (vs := txC none 0 0 none 0 0 0) rfl (by kernel_rfl)) ?_))
    refine sMi rfl rfl rfl rfl (s_eff (e_sto (w_none rfl) rfl rfl rfl rfl rfl ts26 rfl H rfl ?_))
    clear H; intro W H
    refine sAi rfl rfl rfl rfl (l_nil (k_ret ?_))
    repeat (first | refine r_then ?_ | refine r_blk ?_)
    have hge : Tx.get b = (Tx.zero, Tx.chk (Tx.gotTx b)) := by rw [Tx.get_eq]; unfold Tx.fin; rw [if_pos he, if_neg hne]
    exact q_cell2 rfl (c := txC none 0 0 none 0 0 0) (g := go) (v := .int .i64 (Tx.chk (Tx.gotTx b))) H rfl ta26 ts26 rfl ⟨_, rfl, _, by rw [hge], .inl ⟨by rw [hge]; exact hne, rfl, H.under⟩⟩
   ·have hne : Tx.chk (Tx.gotTx b) = 0 := by simpa using hc43
    refine k_skip (k_seq (k_region (sR rfl rfl (d_ldXM (g := gt) (off := 0) rfl H (sub_all (a := txC A1 (Tx.G1 b).1.length c1 A2 (Tx.G2 b).1.length c2 ((Tx.G3 b).1 : Int)) (m := 3) rfl) rfl rfl rfl rfl ta26 ts26) (s_eff (e_sto (w_none rfl) rfl rfl rfl rfl rfl ts26 rfl H rfl ?_)))))
    clear H; intro W H
    refine sAi rfl rfl rfl rfl (l_nil (k_ret ?_))
    repeat (first | refine r_then ?_ | refine r_blk ?_)
    have hge : Tx.get b = (Tx.gotTx b, 0) := by rw [Tx.get_eq]; unfold Tx.fin; rw [if_pos he, if_pos hne]
    refine q_cell2 rfl (c := txC A1 (Tx.G1 b).1.length c1 A2 (Tx.G2 b).1.length c2 ((Tx.G3 b).1 : Int)) (g := go) (v := .int .i64 0) H rfl ta26 ts26 rfl ⟨_, rfl, txC A1 (Tx.G1 b).1.length c1 A2 (Tx.G2 b).1.length c2 ((Tx.G3 b).1 : Int), by rw [hge], .inr ⟨by rw [hge], ?_⟩⟩
    rw [hge]
    dsimp only
    exact ⟨A1, c1, A2, c2, by rw [hgl]; rfl, ⟨r, A0, c0, _, xs, xs2, S3, S2, by rw [hgl]; exact (H.perm ((List.perm_append_comm (l₁ := [_, _]) (l₂ := [_, _])).append (List.perm_middle (l₁ := [_, _]) (l₂ := [_])))).sub (L' := [_, _, _, _, _]) (by repeat (first | exact .refl _ | exact List.nil_sublist _ | refine .cons_cons _ ?_ | refine .cons _ ?_))⟩⟩
  ·have he : ¬ Pk.rEnd (Tx.GW b (Tx.G1 b).1.length).2 = 0 := by simpa using hc39
   refine k_skip (k_seq (k_seq (k_region (sMi rfl rfl rfl rfl (sR rfl rfl (d_ne rfl rfl rfl) (l_nil (k_condT rfl (by simpa using he) ?_)))))))
   refine k_seq (k_region (sR rfl rfl (d_build (vs := txC none 0 0 none 0 0 0) rfl (by kernel_rfl)) ?_))
   refine sMi rfl rfl rfl rfl (s_eff (e_sto (w_none rfl) rfl rfl rfl rfl rfl ts26 rfl H rfl ?_))
   clear H; intro W H
   refine sAi rfl rfl rfl rfl (l_nil (k_ret ?_))
   repeat (first | refine r_then ?_ | refine r_blk ?_)
   have hne := he
   have hge : Tx.get b = (Tx.zero, Pk.rEnd (Tx.GW b (Tx.G1 b).1.length).2) := by rw [Tx.get_eq]; unfold Tx.fin; rw [if_neg he]
   exact q_cell2 rfl (c := txC none 0 0 none 0 0 0) (g := go) (v := .int .i64 (Pk.rEnd (Tx.GW b (Tx.G1 b).1.length).2)) H rfl ta26 ts26 rfl ⟨_, rfl, _, by rw [hge], .inl ⟨by rw [hge]; exact hne, rfl, H.under⟩⟩
end Go.Proofs.YteakkflhndifbaaGreatDoor
