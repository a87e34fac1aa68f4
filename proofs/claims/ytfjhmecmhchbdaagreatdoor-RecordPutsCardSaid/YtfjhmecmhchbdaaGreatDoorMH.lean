/- Texts of this claim, laid together: RecGet, K63, RecLaw, K64. -/
import Derived.Test.YtfjhmecmhchbdaaGreatDoorMP
set_option linter.unusedVariables false
set_option linter.unusedSimpArgs false

namespace Go.Proofs.YtfjhmecmhchbdaaGreatDoor
open Go Go.RowKit

section
variable {T : Nat → Prop} {w0 W W' : World} {L : List Fact} {f f2 f' f2' : Fact}
theorem St.begin2 (hp : f.p W) (hf : ∀ g, f.fp g → g < W.heap.size) (hp2 : f2.p W) (hf2 : ∀ g, f2.fp g → g < W.heap.size) (ha : ∀ g, f.fp g → ¬ f2.fp g) : St (Fact.two f f2).fp W W [f, f2] :=
  ⟨Fr.refl, fun x hx => by
    rcases List.mem_cons.1 hx with rfl | hx
    · exact hp
    · obtain rfl : x = f2 := by simpa using hx
      exact hp2, fun x hx g hg => by
    rcases List.mem_cons.1 hx with rfl | hx
    · exact ⟨.inl (.inl hg), hf g hg⟩
    · obtain rfl : x = f2 := by simpa using hx
      exact ⟨.inl (.inr hg), hf2 g hg⟩, List.pairwise_cons.2 ⟨fun x hx g hg => by
    obtain rfl : x = f2 := by simpa using hx
    exact ha g hg, List.pairwise_singleton _ _⟩⟩
/-- A call that turns two facts. -/
theorem St.mutT (H : St T w0 W (f :: f2 :: L)) (K : St (Fact.two f f2).fp W W' [f', f2']) (e1 : f'.fp = f.fp) (e2 : f2'.fp = f2.fp) : St T w0 W' (f' :: f2' :: L) := by
  have H2 := H.two.mut (f := Fact.two f f2) (f' := Fact.two f' f2') K.fr ⟨K.holds _ (.head _), K.holds _ (.tail _ (.head _))⟩ (fun g hg => by
    rcases hg with hg | hg
    · exact .inl (e1 ▸ hg)
    · exact .inr (e2 ▸ hg))
  have h1 := List.pairwise_cons.1 H2.apart
  have h2 := H2.holds _ (.head _)
  have ha := List.pairwise_cons.1 H.apart
  refine ⟨H2.fr, fun x hx => ?_, fun x hx g hg => ?_, List.pairwise_cons.2 ⟨fun x hx g hg hxg => ?_, List.pairwise_cons.2 ⟨fun x hx g hg hxg => h1.1 x hx g (.inr hg) hxg, h1.2⟩⟩⟩
  · rcases List.mem_cons.1 hx with rfl | hx
    · exact h2.1
    · rcases List.mem_cons.1 hx with rfl | hx
      · exact h2.2
      · exact H2.holds x (.tail _ hx)
  · rcases List.mem_cons.1 hx with rfl | hx
    · exact H2.own _ (.head _) g (.inl hg)
    · rcases List.mem_cons.1 hx with rfl | hx
      · exact H2.own _ (.head _) g (.inr hg)
      · exact H2.own x (.tail _ hx) g hg
  · rcases List.mem_cons.1 hx with rfl | hx
    · exact ha.1 _ (.head _) g (e1 ▸ hg) (e2 ▸ hxg)
    · exact h1.1 x hx g (.inl hg) hxg
end
abbrev zt : List Value := txC none 0 0 none 0 0 0
/-- A record of which only the kind and the name are read. -/
abbrev Rc.start (k i : Int) : DRecord := ⟨k, i, Rc.zDeal, Rc.z32, 0, 0, Tx.zero⟩
section
variable {r : DRecord} {ct x : List Value} {h s : List UInt8} {n : Int}
theorem rec_le {i m : Nat} (hd : r.deal.hash.length = 32) (hs : r.secret.length = 32) (hc : ct.length = 3) (h : i + m ≤ 80) : i + m ≤ (recC r ct).length := by rw [len_rec hd hs hc]; exact h
theorem spl_r_did : spl (recC r ct) 2 [.int .i64 n] = recC { r with deal := { r.deal with id := n } } ct := by
  have := spl_mid (a := [.int .i64 r.kind, .int .i64 r.id]) (b := [.int .i64 r.deal.id]) (c := [.int .i64 r.deal.role] ++ (legC r.deal.paid ++ (legC r.deal.got ++ (r.deal.hash.map u8v ++ ([.int .i64 r.deal.peer] ++ (r.secret.map u8v ++ ([.int .i64 r.move] ++ ([.int .i64 r.state] ++ ct)))))))) (x := [.int .i64 n]) (k := 2) rfl rfl
  simpa [recC, dealC, legC, List.append_assoc] using this
theorem spl_r_role : spl (recC r ct) 3 [.int .i64 n] = recC { r with deal := { r.deal with role := n } } ct := by
  have := spl_mid (a := [.int .i64 r.kind, .int .i64 r.id, .int .i64 r.deal.id]) (b := [.int .i64 r.deal.role]) (c := legC r.deal.paid ++ (legC r.deal.got ++ (r.deal.hash.map u8v ++ ([.int .i64 r.deal.peer] ++ (r.secret.map u8v ++ ([.int .i64 r.move] ++ ([.int .i64 r.state] ++ ct))))))) (x := [.int .i64 n]) (k := 3) rfl rfl
  simpa [recC, dealC, legC, List.append_assoc] using this
theorem spl_r_paid {l : DLeg} : spl (recC r ct) 4 (legC l) = recC { r with deal := { r.deal with paid := l } } ct := by
  have := spl_mid (a := [.int .i64 r.kind, .int .i64 r.id, .int .i64 r.deal.id, .int .i64 r.deal.role]) (b := legC r.deal.paid) (c := legC r.deal.got ++ (r.deal.hash.map u8v ++ ([.int .i64 r.deal.peer] ++ (r.secret.map u8v ++ ([.int .i64 r.move] ++ ([.int .i64 r.state] ++ ct)))))) (x := legC l) (k := 4) rfl rfl
  simpa [recC, dealC, legC, List.append_assoc] using this
theorem spl_r_got {l : DLeg} : spl (recC r ct) 7 (legC l) = recC { r with deal := { r.deal with got := l } } ct := by
  have := spl_mid (a := [.int .i64 r.kind, .int .i64 r.id, .int .i64 r.deal.id, .int .i64 r.deal.role] ++ legC r.deal.paid) (b := legC r.deal.got) (c := r.deal.hash.map u8v ++ ([.int .i64 r.deal.peer] ++ (r.secret.map u8v ++ ([.int .i64 r.move] ++ ([.int .i64 r.state] ++ ct))))) (x := legC l) (k := 7) rfl rfl
  simpa [recC, dealC, legC, List.append_assoc] using this
theorem spl_r_hash (h0 : r.deal.hash.length = 32) (h1 : h.length = 32) : spl (recC r ct) 10 (h.map u8v) = recC { r with deal := { r.deal with hash := h } } ct := by
  have := spl_mid (a := [.int .i64 r.kind, .int .i64 r.id, .int .i64 r.deal.id, .int .i64 r.deal.role] ++ (legC r.deal.paid ++ legC r.deal.got)) (b := r.deal.hash.map u8v) (c := [.int .i64 r.deal.peer] ++ (r.secret.map u8v ++ ([.int .i64 r.move] ++ ([.int .i64 r.state] ++ ct)))) (x := h.map u8v) (k := 10) rfl (by rw [List.length_map, List.length_map, h0, h1])
  simpa [recC, dealC, legC, List.append_assoc] using this
theorem spl_r_peer (h0 : r.deal.hash.length = 32) : spl (recC r ct) 42 [.int .i64 n] = recC { r with deal := { r.deal with peer := n } } ct := by
  have := spl_mid (a := [.int .i64 r.kind, .int .i64 r.id, .int .i64 r.deal.id, .int .i64 r.deal.role] ++ (legC r.deal.paid ++ (legC r.deal.got ++ r.deal.hash.map u8v))) (b := [.int .i64 r.deal.peer]) (c := r.secret.map u8v ++ ([.int .i64 r.move] ++ ([.int .i64 r.state] ++ ct))) (x := [.int .i64 n]) (k := 42) (by simp [legC, h0]) rfl
  simpa [recC, dealC, legC, List.append_assoc] using this
theorem spl_r_secret (h0 : r.deal.hash.length = 32) (h1 : r.secret.length = 32) (h2 : s.length = 32) : spl (recC r ct) 43 (s.map u8v) = recC { r with secret := s } ct := by
  have := spl_mid (a := [.int .i64 r.kind, .int .i64 r.id] ++ dealC r.deal) (b := r.secret.map u8v) (c := [.int .i64 r.move] ++ ([.int .i64 r.state] ++ ct)) (x := s.map u8v) (k := 43) (by simp [len_deal h0]) (by rw [List.length_map, List.length_map, h1, h2])
  simpa [recC, List.append_assoc] using this
theorem spl_r_id : spl (recC r ct) 1 [.int .i64 n] = recC { r with id := n } ct := by
  have := spl_mid (a := [.int .i64 r.kind]) (b := [.int .i64 r.id]) (c := dealC r.deal ++ (r.secret.map u8v ++ ([.int .i64 r.move] ++ ([.int .i64 r.state] ++ ct)))) (x := [.int .i64 n]) (k := 1) rfl rfl
  simpa [recC, List.append_assoc] using this
theorem spl_r_move (h0 : r.deal.hash.length = 32) (h1 : r.secret.length = 32) : spl (recC r ct) 75 [.int .i64 n] = recC { r with move := n } ct := by
  have := spl_mid (a := [.int .i64 r.kind, .int .i64 r.id] ++ (dealC r.deal ++ r.secret.map u8v)) (b := [.int .i64 r.move]) (c := [.int .i64 r.state] ++ ct) (x := [.int .i64 n]) (k := 75) (by simp [len_deal h0, h1]) rfl
  simpa [recC, List.append_assoc] using this
theorem spl_r_state (h0 : r.deal.hash.length = 32) (h1 : r.secret.length = 32) : spl (recC r ct) 76 [.int .i64 n] = recC { r with state := n } ct := by
  have := spl_mid (a := [.int .i64 r.kind, .int .i64 r.id] ++ (dealC r.deal ++ (r.secret.map u8v ++ [.int .i64 r.move]))) (b := [.int .i64 r.state]) (c := ct) (x := [.int .i64 n]) (k := 76) (by simp [len_deal h0, h1]) rfl
  simpa [recC, List.append_assoc] using this
theorem spl_r_tx {t : DTx} (h0 : r.deal.hash.length = 32) (h1 : r.secret.length = 32) (h2 : x.length = ct.length) : spl (recC r ct) 77 x = recC (Rc.setTx r t) x := by
  have := spl_end (a := [.int .i64 r.kind, .int .i64 r.id] ++ (dealC r.deal ++ (r.secret.map u8v ++ ([.int .i64 r.move] ++ [.int .i64 r.state])))) (b := ct) (x := x) (k := 77) (by simp [len_deal h0, h1]) h2
  simpa [recC, Rc.setTx, List.append_assoc] using this
end
namespace Rc
section
variable {b : List UInt8} {k i : Int} {s : RS}
theorem rEnd_bad (hok : Pk.Ok s) (h : s.2 ≠ 0) : Pk.rEnd s = s.2 := by
  have e := hok.1 h
  unfold Pk.rEnd
  rw [e]
  rfl
theorem body_1 (h : k = 1) : rBody k i s = ((⟨k, i, (rDeal i s).1, z32, 0, 0, Tx.zero⟩, []), (rDeal i s).2) := by unfold rBody; rw [if_pos h]; rfl
theorem body_2 (h : k = 2) : rBody k i s = ((⟨k, i, zDeal, (Pk.rBytes 32 s).1, 0, 0, Tx.zero⟩, []), (Pk.rBytes 32 s).2) := by unfold rBody; rw [if_neg (by omega), if_pos h]; rfl
theorem body_3 (h : k = 3) : rBody k i s = ((⟨k, i, zDeal, z32, ((Pk.rInt s).1 : Int), 0, Tx.zero⟩, (Pk.rBlob 400 (Pk.rInt s).2).1), (Pk.rBlob 400 (Pk.rInt s).2).2) := by unfold rBody; rw [if_neg (by omega), if_neg (by omega), if_pos h]; rfl
theorem body_4 (h : k = 4) : rBody k i s = ((⟨k, i, zDeal, z32, 0, ((Pk.rInt s).1 : Int), Tx.zero⟩, []), (Pk.rInt s).2) := by unfold rBody; rw [if_neg (by omega), if_neg (by omega), if_neg (by omega)]; rfl
theorem body_tx : (rBody k i s).1.1.tx = Tx.zero := by
  unfold rBody
  split
  · rfl
  · split
    · rfl
    · split <;> rfl
/- The stages of a record's reading. -/
abbrev hK (b : List UInt8) : Int := ((Pk.rInt (b, 0)).1 : Int)
abbrev hS1 (b : List UInt8) : RS := (Pk.rInt (b, 0)).2
abbrev hI (b : List UInt8) : Int := ((Pk.rInt (hS1 b)).1 : Int)
abbrev hS2 (b : List UInt8) : RS := (Pk.rInt (hS1 b)).2
abbrev hB (b : List UInt8) : (DRecord × List UInt8) × RS := rBody (hK b) (hI b) (hS2 b)
theorem get_e1 (h : (hS2 b).2 ≠ 0) : get b = (zero, (hS2 b).2) := by
  unfold get
  have e : (rHead (b, 0)).2 = hS2 b := rfl
  rw [e, if_pos h]
theorem get_e2 (h : (hS2 b).2 = 0) (hk : hK b < 1 ∨ 4 < hK b) : get b = (zero, 2) := by
  unfold get
  have e : rHead (b, 0) = ((hK b, hI b), hS2 b) := rfl
  rw [e]
  dsimp only
  rw [if_neg (by simpa using h), if_pos hk]
theorem get_e3 (h : (hS2 b).2 = 0) (hk : 1 ≤ hK b ∧ hK b ≤ 4) : get b = fin b.length (hB b) := by
  unfold get
  have e : rHead (b, 0) = ((hK b, hI b), hS2 b) := rfl
  rw [e]
  dsimp only
  rw [if_neg (by simpa using h), if_neg (by omega)]
theorem fin_e1 {n : Nat} {x : (DRecord × List UInt8) × RS} (h : Pk.rEnd x.2 ≠ 0) : fin n x = (zero, Pk.rEnd x.2) := by unfold fin; rw [if_pos h]
theorem fin_e2 {n : Nat} {x : (DRecord × List UInt8) × RS} (h : Pk.rEnd x.2 = 0) (ht : x.1.2 = []) : fin n x = fin2 n x.1.1 := by unfold fin; rw [if_neg (by simpa using h), if_pos ht]
theorem fin_e3 {n : Nat} {x : (DRecord × List UInt8) × RS} (h : Pk.rEnd x.2 = 0) (ht : x.1.2 ≠ []) (hg : (Tx.get x.1.2).2 ≠ 0) : fin n x = (zero, (Tx.get x.1.2).2) := by unfold fin; rw [if_neg (by simpa using h), if_neg ht, if_pos hg]
theorem fin_e4 {n : Nat} {x : (DRecord × List UInt8) × RS} (h : Pk.rEnd x.2 = 0) (ht : x.1.2 ≠ []) (hg : (Tx.get x.1.2).2 = 0) : fin n x = fin2 n (setTx x.1.1 (Tx.get x.1.2).1) := by unfold fin; rw [if_neg (by simpa using h), if_neg ht, if_neg (by simpa using hg)]
theorem fin2_e1 {n : Nat} {r : DRecord} (h : chk r ≠ 0) : fin2 n r = (zero, chk r) := by unfold fin2; rw [if_pos h]
theorem fin2_e2 {n : Nat} {r : DRecord} (h : chk r = 0) (hn : 400 < n) : fin2 n r = (zero, 5) := by unfold fin2; rw [if_neg (by simpa using h), if_pos hn]
theorem fin2_e3 {n : Nat} {r : DRecord} (h : chk r = 0) (hn : ¬ 400 < n) : fin2 n r = (r, 0) := by unfold fin2; rw [if_neg (by simpa using h), if_neg hn]
end
end Rc
/-- What a call of record.Get leaves. -/
def GotRec (w : World) (b : List UInt8) (v : Value) (w' : World) : Prop := ∃ ct S, v = .tuple #[.agg (recC (Rc.get b).1 ct).toArray, .int .i64 (Rc.get b).2] ∧ St nT w w' [Fact.rep RTx S ct (Rc.get b).1.tx]
theorem GotRec.rep {w W W' : World} {T : Nat → Prop} {L : List Fact} {b : List UInt8} {v : Value} (h : GotRec W b v W') (H : St T w W L) : ∃ S A c B d, v = .tuple #[.agg (recC (Rc.get b).1 (txC A (Rc.get b).1.tx.ins.length c B (Rc.get b).1.tx.outs.length d (Rc.get b).1.tx.lock)).toArray, .int .i64 (Rc.get b).2] ∧ St T w W' (Fact.rep RTx S (txC A (Rc.get b).1.tx.ins.length c B (Rc.get b).1.tx.outs.length d (Rc.get b).1.tx.lock) (Rc.get b).1.tx :: L) := by
  obtain ⟨ct, S, rfl, K⟩ := h
  have K' := H.add1 K
  obtain ⟨A, c, B, d, rfl, _⟩ := tx_of (K'.rep1 (R := RTx) (S := S) (cs := ct) (a := (Rc.get b).1.tx))
  exact ⟨S, A, c, B, d, rfl, K'⟩
end Go.Proofs.YtfjhmecmhchbdaaGreatDoor

namespace Go.Proofs.YtfjhmecmhchbdaaGreatDoor
open Go Go.RowKit
attribute [local irreducible] wpList

set_option maxHeartbeats 4000000 in
theorem legRd {A0 : Option Addr} {c0 r : Nat} {b : List UInt8} {s : RS} (w : World) (hR : (RdYP 5 102 r A0 b.length c0 (· = b) s).p w) (hok : Pk.Ok s) (hG : Gat w 0 formsC) (h0 : ¬ (RdT r A0 b.length c0) 0) : Calls Tryz.prog 77 [.pointer (some ⟨r, 0, none⟩)].toArray w (Ret (fun v' w' => v' = .agg (legC (Rc.rLeg s).1).toArray ∧ (RdYP 5 102 r A0 b.length c0 (· = b) (Rc.rLeg s).2).p w' ∧ Fr (RdT r A0 b.length c0) w w')) := by
  have H0 := St.begin (f := RdYP 5 102 r A0 b.length c0 (· = b) s) hR (RdB.lt hR)
  refine k_enter (l := [_]) Tryz.func77 rfl rfl ?_
  have H := H0
  refine k_seq ?_
  refine k_region ?_
  refine s_eff (e_alloc (w_none rfl) rfl rfl [.int .i64 0, .int .i64 0, .int .i64 0] tz23 H ?_)
  clear H; intro go W H
  refine l_nil ?_
  refine k_seq ?_
  refine k_region ?_
  refine s_run (w_none rfl) rfl (mv_p rfl rfl) ?_
  refine s_eff (e_call (w_none rfl) rfl rfl Tryz.func43 rfl rfl rfl (prgInt _ (H.get (f := RdYP 5 102 r A0 b.length c0 (· = b) s)) hok (H.gatT hG h0) h0) ?_)
  rintro _ W ⟨rfl, hp_, hf_⟩
  replace H := H.mut (f := RdYP 5 102 r A0 b.length c0 (· = b) s) (f' := RdYP 5 102 r A0 b.length c0 (· = b) (Pk.rInt s).2) hf_ hp_ (fun _ h => h)
  clear hp_ hf_
  refine s_run (w_none rfl) rfl (d_fa rfl rfl tf23_0) ?_
  refine s_eff (e_sto (w_none rfl) rfl rfl rfl rfl rfl ts3 rfl H rfl ?_)
  clear H; intro W H
  refine l_nil ?_
  refine k_seq ?_
  refine k_region ?_
  refine s_run (w_none rfl) rfl (mv_p rfl rfl) ?_
  refine s_eff (e_call (w_none rfl) rfl rfl Tryz.func43 rfl rfl rfl (prgInt _ (H.get (f := RdYP 5 102 r A0 b.length c0 (· = b) (Pk.rInt s).2)) (Pk.ok_rInt hok) (H.gatT hG h0) h0) ?_)
  rintro _ W ⟨rfl, hp_, hf_⟩
  replace H := H.mut (f := RdYP 5 102 r A0 b.length c0 (· = b) (Pk.rInt s).2) (f' := RdYP 5 102 r A0 b.length c0 (· = b) (Pk.rInt (Pk.rInt s).2).2) hf_ hp_ (fun _ h => h)
  clear hp_ hf_
  refine s_run (w_none rfl) rfl (d_fa rfl rfl tf23_1) ?_
  refine s_eff (e_sto (w_none rfl) rfl rfl rfl rfl rfl ts3 rfl H rfl ?_)
  clear H; intro W H
  refine l_nil ?_
  refine k_seq ?_
  refine k_region ?_
  refine s_run (w_none rfl) rfl (mv_p rfl rfl) ?_
  refine s_eff (e_call (w_none rfl) rfl rfl Tryz.func43 rfl rfl rfl (prgInt _ (H.get (f := RdYP 5 102 r A0 b.length c0 (· = b) (Pk.rInt (Pk.rInt s).2).2)) (Pk.ok_rInt (Pk.ok_rInt hok)) (H.gatT hG h0) h0) ?_)
  rintro _ W ⟨rfl, hp_, hf_⟩
  replace H := H.mut (f := RdYP 5 102 r A0 b.length c0 (· = b) (Pk.rInt (Pk.rInt s).2).2) (f' := RdYP 5 102 r A0 b.length c0 (· = b) (Pk.rInt (Pk.rInt (Pk.rInt s).2).2).2) hf_ hp_ (fun _ h => h)
  clear hp_ hf_
  refine s_run (w_none rfl) rfl (d_fa rfl rfl tf23_2) ?_
  refine s_eff (e_sto (w_none rfl) rfl rfl rfl rfl rfl ts3 rfl H rfl ?_)
  clear H; intro W H
  refine l_nil ?_
  refine k_seq ?_
  refine k_region ?_
  refine s_run (w_none rfl) rfl (d_ldm0 (g := go) rfl H rfl ta23 ts23 rfl) ?_
  refine s_eff (e_stoK (legC (Rc.rLeg s).1) (w_none rfl) rfl rfl rfl rfl rfl ts23 rfl rfl H (Nat.le_of_ble_eq_true rfl) rfl ?_)
  clear H; intro W H
  refine l_nil ?_
  refine k_ret ?_
  repeat (first | refine r_then ?_ | refine r_blk ?_)
  exact q_retc rfl (c := legC (Rc.rLeg s).1) (g := go) H rfl ta23 ts23 ⟨_, rfl, rfl, H.get (f := RdYP 5 102 r A0 b.length c0 (· = b) (Pk.rInt (Pk.rInt (Pk.rInt s).2).2).2), H.fr⟩

set_option maxHeartbeats 4000000 in
theorem restRd {k i : Int} {rr : Nat} {A0 : Option Addr} {c0 r : Nat} {b : List UInt8} {s : RS} (w : World) (hR : (RdYP 5 102 r A0 b.length c0 (· = b) s).p w) (hB : (Fact.blk rr (recC (Rc.start k i) zt) 33).p w) (ha : ¬ (RdT r A0 b.length c0) rr) (hok : Pk.Ok s) (hG : Gat w 0 formsC) (h0 : ¬ (RdT r A0 b.length c0) 0) (h1r : ¬ 0 = rr) (hkk : 1 ≤ k ∧ k ≤ 4) : Calls Tryz.prog 46 [.pointer (some ⟨r, 0, none⟩), .pointer (some ⟨rr, 0, none⟩)].toArray w (Ret (fun v' w' => ∃ B d, v' = .slice B (Rc.rBody k i s).1.2.length d ∧ HeldP A0 b.length b (.slice B (Rc.rBody k i s).1.2.length d) (Rc.rBody k i s).1.2 ∧ St (Fact.two (RdYP 5 102 r A0 b.length c0 (· = b) s) (Fact.blk rr (recC (Rc.start k i) zt) 33)).fp w w' [RdYP 5 102 r A0 b.length c0 (· = b) (Rc.rBody k i s).2, Fact.blk rr (recC (Rc.rBody k i s).1.1 zt) 33])) := by
  have H0 := St.begin2 (f := RdYP 5 102 r A0 b.length c0 (· = b) s) (f2 := Fact.blk rr (recC (Rc.start k i) zt) 33) hR (RdB.lt hR) hB (fun g hg => by obtain rfl : g = rr := hg; exact blk_lt hB) (fun g hg e => by obtain rfl : g = rr := e; exact ha hg)
  have hT2 : ¬ (Fact.two (RdYP 5 102 r A0 b.length c0 (· = b) s) (Fact.blk rr (recC (Rc.start k i) zt) 33)).fp 0 := fun h => h.elim h0 h1r
  refine k_enter (l := [_, _]) Tryz.func46 rfl rfl ?_
  have H := H0
  refine k_seq ?_
  refine k_region ?_
  refine s_run (w_none rfl) rfl (as_s rfl rfl) ?_
  refine l_nil ?_
  refine k_seq ?_
  refine k_seq ?_
  refine k_region ?_
  refine s_run (w_none rfl) rfl (mv_p rfl rfl) ?_
  refine s_run (w_none rfl) rfl (d_nil rfl rfl) ?_
  refine s_run (w_none rfl) rfl (d_fa rfl rfl tf33_2) ?_
  refine s_run (w_none rfl) rfl (as_p rfl rfl) ?_
  refine l_nil ?_
  refine k_seq ?_
  rcases (show k = 1 ∨ k = 2 ∨ k = 3 ∨ k = 4 by omega) with h1 | h1 | h1 | h1
  · skip
    refine k_region ?_
    refine s_run (w_none rfl) rfl (mv_p rfl rfl) ?_
    refine s_run (w_none rfl) rfl (d_nil rfl rfl) ?_
    refine s_run (w_none rfl) rfl (d_fa rfl rfl tf33_0) ?_
    refine s_run (w_none rfl) rfl (d_ldX (g := rr) (off := 0) rfl H rfl rfl rfl ta3) ?_
    refine l_nil ?_
    refine k_block ?_
    refine k_seq ?_
    refine k_region ?_
    refine s_run (w_none rfl) rfl (d_eq rfl rfl rfl) ?_
    refine s_run (w_none rfl) rfl (as_b rfl rfl) ?_
    refine l_nil ?_
    refine k_condT rfl (by first | rfl | (simp; omega) | (simp; done) | simp_all) ?_
    refine k_seq ?_
    refine k_region ?_
    refine s_run (w_none rfl) rfl (mv_p rfl rfl) ?_
    refine s_run (w_none rfl) rfl (mv_p rfl rfl) ?_
    refine s_run (w_none rfl) rfl (d_nil rfl rfl) ?_
    refine s_run (w_none rfl) rfl (d_fa rfl rfl tf33_1) ?_
    refine s_run (w_none rfl) rfl (d_ldX (g := rr) (off := 1) rfl H rfl rfl rfl ta3) ?_
    refine s_run (w_none rfl) rfl (d_nil rfl rfl) ?_
    refine s_run (w_none rfl) rfl (d_fa rfl rfl tf27_0) ?_
    refine s_eff (e_stoK (v := .int .i64 i) (vs := [.int .i64 i]) (recC ⟨k, i, ⟨i, 0, Rc.zLeg, Rc.zLeg, Rc.z32, 0⟩, Rc.z32, 0, 0, Tx.zero⟩ zt) (w_none rfl) rfl rfl rfl rfl rfl ts3 rfl rfl H (rec_le rfl rfl rfl (by decide)) spl_r_did ?_)
    clear H; intro W H
    refine l_nil ?_
    refine k_seq ?_
    refine k_region ?_
    refine s_run (w_none rfl) rfl (mv_p rfl rfl) ?_
    refine s_run (w_none rfl) rfl (mv_p rfl rfl) ?_
    refine s_eff (e_call (w_none rfl) rfl rfl Tryz.func43 rfl rfl rfl (prgInt _ (H.get (f := RdYP 5 102 r A0 b.length c0 (· = b) s)) hok (H.gatT hG hT2) h0) ?_)
    rintro _ W ⟨rfl, hp_, hf_⟩
    replace H := H.mut (f := RdYP 5 102 r A0 b.length c0 (· = b) s) (f' := RdYP 5 102 r A0 b.length c0 (· = b) (Pk.rInt s).2) hf_ hp_ (fun _ h => h)
    clear hp_ hf_
    refine s_run (w_none rfl) rfl (d_nil rfl rfl) ?_
    refine s_run (w_none rfl) rfl (d_fa rfl rfl tf27_1) ?_
    refine s_eff (e_stoK (v := .int .i64 ((Pk.rInt s).1 : Int)) (vs := [.int .i64 ((Pk.rInt s).1 : Int)]) (recC ⟨k, i, ⟨i, ((Pk.rInt s).1 : Int), Rc.zLeg, Rc.zLeg, Rc.z32, 0⟩, Rc.z32, 0, 0, Tx.zero⟩ zt) (w_none rfl) rfl rfl rfl rfl rfl ts3 rfl rfl H (rec_le rfl rfl rfl (by decide)) spl_r_role ?_)
    clear H; intro W H
    refine l_nil ?_
    refine k_seq ?_
    refine k_region ?_
    refine s_run (w_none rfl) rfl (mv_p rfl rfl) ?_
    refine s_run (w_none rfl) rfl (mv_p rfl rfl) ?_
    refine s_eff (e_call (w_none rfl) rfl rfl Tryz.func77 rfl rfl rfl (legRd _ (H.get (f := RdYP 5 102 r A0 b.length c0 (· = b) (Pk.rInt s).2)) (Pk.ok_rInt hok) (H.gatT hG hT2) h0) ?_)
    rintro _ W ⟨rfl, hp_, hf_⟩
    replace H := H.mut (f := RdYP 5 102 r A0 b.length c0 (· = b) (Pk.rInt s).2) (f' := RdYP 5 102 r A0 b.length c0 (· = b) (Rc.rLeg (Pk.rInt s).2).2) hf_ hp_ (fun _ h => h)
    clear hp_ hf_
    refine s_run (w_none rfl) rfl (d_nil rfl rfl) ?_
    refine s_run (w_none rfl) rfl (d_fa rfl rfl tf27_2) ?_
    refine s_eff (e_stoK (recC ⟨k, i, ⟨i, ((Pk.rInt s).1 : Int), (Rc.rLeg (Pk.rInt s).2).1, Rc.zLeg, Rc.z32, 0⟩, Rc.z32, 0, 0, Tx.zero⟩ zt) (w_none rfl) rfl rfl rfl rfl rfl ts23 rfl rfl H (rec_le rfl rfl rfl (by decide)) spl_r_paid ?_)
    clear H; intro W H
    refine l_nil ?_
    refine k_seq ?_
    refine k_region ?_
    refine s_run (w_none rfl) rfl (mv_p rfl rfl) ?_
    refine s_run (w_none rfl) rfl (mv_p rfl rfl) ?_
    refine s_eff (e_call (w_none rfl) rfl rfl Tryz.func77 rfl rfl rfl (legRd _ (H.get (f := RdYP 5 102 r A0 b.length c0 (· = b) (Rc.rLeg (Pk.rInt s).2).2)) (Rc.sane_leg.2 _ (Pk.ok_rInt hok)) (H.gatT hG hT2) h0) ?_)
    rintro _ W ⟨rfl, hp_, hf_⟩
    replace H := H.mut (f := RdYP 5 102 r A0 b.length c0 (· = b) (Rc.rLeg (Pk.rInt s).2).2) (f' := RdYP 5 102 r A0 b.length c0 (· = b) (Rc.rLeg (Rc.rLeg (Pk.rInt s).2).2).2) hf_ hp_ (fun _ h => h)
    clear hp_ hf_
    refine s_run (w_none rfl) rfl (d_nil rfl rfl) ?_
    refine s_run (w_none rfl) rfl (d_fa rfl rfl tf27_3) ?_
    refine s_eff (e_stoK (recC ⟨k, i, ⟨i, ((Pk.rInt s).1 : Int), (Rc.rLeg (Pk.rInt s).2).1, (Rc.rLeg (Rc.rLeg (Pk.rInt s).2).2).1, Rc.z32, 0⟩, Rc.z32, 0, 0, Tx.zero⟩ zt) (w_none rfl) rfl rfl rfl rfl rfl ts23 rfl rfl H (rec_le rfl rfl rfl (by decide)) spl_r_got ?_)
    clear H; intro W H
    refine l_nil ?_
    refine k_seq ?_
    refine k_region ?_
    refine s_run (w_none rfl) rfl (mv_p rfl rfl) ?_
    refine s_run (w_none rfl) rfl (mv_p rfl rfl) ?_
    refine s_eff (e_call (w_none rfl) rfl rfl Tryz.func78 rfl rfl rfl (prgHash _ (H.get (f := RdYP 5 102 r A0 b.length c0 (· = b) (Rc.rLeg (Rc.rLeg (Pk.rInt s).2).2).2)) (Rc.sane_leg.2 _ (Rc.sane_leg.2 _ (Pk.ok_rInt hok)))) ?_)
    rintro _ W ⟨rfl, hp_, hf_⟩
    replace H := H.mut (f := RdYP 5 102 r A0 b.length c0 (· = b) (Rc.rLeg (Rc.rLeg (Pk.rInt s).2).2).2) (f' := RdYP 5 102 r A0 b.length c0 (· = b) (Pk.rBytes 32 (Rc.rLeg (Rc.rLeg (Pk.rInt s).2).2).2).2) hf_ hp_ (fun _ h => h)
    clear hp_ hf_
    refine s_run (w_none rfl) rfl (d_nil rfl rfl) ?_
    refine s_run (w_none rfl) rfl (d_fa rfl rfl tf27_4) ?_
    refine s_eff (e_stoK (recC ⟨k, i, ⟨i, ((Pk.rInt s).1 : Int), (Rc.rLeg (Pk.rInt s).2).1, (Rc.rLeg (Rc.rLeg (Pk.rInt s).2).2).1, (Pk.rBytes 32 (Rc.rLeg (Rc.rLeg (Pk.rInt s).2).2).2).1, 0⟩, Rc.z32, 0, 0, Tx.zero⟩ zt) (w_none rfl) rfl rfl rfl rfl rfl ts25 (by rw [List.length_map]; exact Pk.len_rBytes) (all_u8L _) H (rec_le rfl rfl rfl (by decide)) (spl_r_hash rfl Pk.len_rBytes) ?_)
    clear H; intro W H
    refine l_nil ?_
    refine k_region ?_
    refine s_run (w_none rfl) rfl (mv_p rfl rfl) ?_
    refine s_run (w_none rfl) rfl (mv_p rfl rfl) ?_
    refine s_eff (e_call (w_none rfl) rfl rfl Tryz.func43 rfl rfl rfl (prgInt _ (H.get (f := RdYP 5 102 r A0 b.length c0 (· = b) (Pk.rBytes 32 (Rc.rLeg (Rc.rLeg (Pk.rInt s).2).2).2).2)) (Pk.ok_next (Rc.sane_leg.2 _ (Rc.sane_leg.2 _ (Pk.ok_rInt hok)))) (H.gatT hG hT2) h0) ?_)
    rintro _ W ⟨rfl, hp_, hf_⟩
    replace H := H.mut (f := RdYP 5 102 r A0 b.length c0 (· = b) (Pk.rBytes 32 (Rc.rLeg (Rc.rLeg (Pk.rInt s).2).2).2).2) (f' := RdYP 5 102 r A0 b.length c0 (· = b) (Pk.rInt (Pk.rBytes 32 (Rc.rLeg (Rc.rLeg (Pk.rInt s).2).2).2).2).2) hf_ hp_ (fun _ h => h)
    clear hp_ hf_
    refine s_run (w_none rfl) rfl (d_nil rfl rfl) ?_
    refine s_run (w_none rfl) rfl (d_fa rfl rfl tf27_5) ?_
    refine s_eff (e_stoK (v := .int .i64 ((Pk.rInt (Pk.rBytes 32 (Rc.rLeg (Rc.rLeg (Pk.rInt s).2).2).2).2).1 : Int)) (vs := [.int .i64 ((Pk.rInt (Pk.rBytes 32 (Rc.rLeg (Rc.rLeg (Pk.rInt s).2).2).2).2).1 : Int)]) (recC ⟨k, i, ⟨i, ((Pk.rInt s).1 : Int), (Rc.rLeg (Pk.rInt s).2).1, (Rc.rLeg (Rc.rLeg (Pk.rInt s).2).2).1, (Pk.rBytes 32 (Rc.rLeg (Rc.rLeg (Pk.rInt s).2).2).2).1, ((Pk.rInt (Pk.rBytes 32 (Rc.rLeg (Rc.rLeg (Pk.rInt s).2).2).2).2).1 : Int)⟩, Rc.z32, 0, 0, Tx.zero⟩ zt) (w_none rfl) rfl rfl rfl rfl rfl ts3 rfl rfl H (rec_le Pk.len_rBytes rfl rfl (by decide)) (spl_r_peer Pk.len_rBytes) ?_)
    clear H; intro W H
    refine l_nil ?_
    refine k_nil ?_
    refine b_end ?_
    refine k_seq ?_
    refine k_region ?_
    refine s_run (w_none rfl) rfl (mv_s rfl rfl) ?_
    refine s_run (w_none rfl) rfl (as_s rfl rfl) ?_
    refine l_nil ?_
    refine k_ret ?_
    repeat (first | refine r_then ?_ | refine r_blk ?_)
    rw [Rc.body_1 h1]
    exact q_ret (v := .slice _ _ _) rfl rfl ⟨_, rfl, none, 0, rfl, held_nil, H⟩
  · skip
    refine k_region ?_
    refine s_run (w_none rfl) rfl (mv_p rfl rfl) ?_
    refine s_run (w_none rfl) rfl (d_nil rfl rfl) ?_
    refine s_run (w_none rfl) rfl (d_fa rfl rfl tf33_0) ?_
    refine s_run (w_none rfl) rfl (d_ldX (g := rr) (off := 0) rfl H rfl rfl rfl ta3) ?_
    refine l_nil ?_
    refine k_block ?_
    refine k_seq ?_
    refine k_region ?_
    refine s_run (w_none rfl) rfl (d_eq rfl rfl rfl) ?_
    refine s_run (w_none rfl) rfl (as_b rfl rfl) ?_
    refine l_nil ?_
    refine k_condF rfl (by first | rfl | (simp; omega) | (simp; done) | simp_all) ?_
    refine k_seq ?_
    refine k_region ?_
    refine s_run (w_none rfl) rfl (d_eq rfl rfl rfl) ?_
    refine s_run (w_none rfl) rfl (as_b rfl rfl) ?_
    refine l_nil ?_
    refine k_condT rfl (by first | rfl | (simp; omega) | (simp; done) | simp_all) ?_
    refine k_region ?_
    refine s_run (w_none rfl) rfl (mv_p rfl rfl) ?_
    refine s_run (w_none rfl) rfl (mv_p rfl rfl) ?_
    refine s_eff (e_call (w_none rfl) rfl rfl Tryz.func78 rfl rfl rfl (prgHash _ (H.get (f := RdYP 5 102 r A0 b.length c0 (· = b) s)) hok) ?_)
    rintro _ W ⟨rfl, hp_, hf_⟩
    replace H := H.mut (f := RdYP 5 102 r A0 b.length c0 (· = b) s) (f' := RdYP 5 102 r A0 b.length c0 (· = b) (Pk.rBytes 32 s).2) hf_ hp_ (fun _ h => h)
    clear hp_ hf_
    refine s_run (w_none rfl) rfl (d_nil rfl rfl) ?_
    refine s_run (w_none rfl) rfl (d_fa rfl rfl tf33_3) ?_
    refine s_eff (e_stoK (recC ⟨k, i, Rc.zDeal, (Pk.rBytes 32 s).1, 0, 0, Tx.zero⟩ zt) (w_none rfl) rfl rfl rfl rfl rfl ts25 (by rw [List.length_map]; exact Pk.len_rBytes) (all_u8L _) H (rec_le rfl rfl rfl (by decide)) (spl_r_secret rfl rfl Pk.len_rBytes) ?_)
    clear H; intro W H
    refine l_nil ?_
    refine k_nil ?_
    refine b_end ?_
    refine k_seq ?_
    refine k_region ?_
    refine s_run (w_none rfl) rfl (mv_s rfl rfl) ?_
    refine s_run (w_none rfl) rfl (as_s rfl rfl) ?_
    refine l_nil ?_
    refine k_ret ?_
    repeat (first | refine r_then ?_ | refine r_blk ?_)
    rw [Rc.body_2 h1]
    exact q_ret (v := .slice _ _ _) rfl rfl ⟨_, rfl, none, 0, rfl, held_nil, H⟩
  · skip
    refine k_region ?_
    refine s_run (w_none rfl) rfl (mv_p rfl rfl) ?_
    refine s_run (w_none rfl) rfl (d_nil rfl rfl) ?_
    refine s_run (w_none rfl) rfl (d_fa rfl rfl tf33_0) ?_
    refine s_run (w_none rfl) rfl (d_ldX (g := rr) (off := 0) rfl H rfl rfl rfl ta3) ?_
    refine l_nil ?_
    refine k_block ?_
    refine k_seq ?_
    refine k_region ?_
    refine s_run (w_none rfl) rfl (d_eq rfl rfl rfl) ?_
    refine s_run (w_none rfl) rfl (as_b rfl rfl) ?_
    refine l_nil ?_
    refine k_condF rfl (by first | rfl | (simp; omega) | (simp; done) | simp_all) ?_
    refine k_seq ?_
    refine k_region ?_
    refine s_run (w_none rfl) rfl (d_eq rfl rfl rfl) ?_
    refine s_run (w_none rfl) rfl (as_b rfl rfl) ?_
    refine l_nil ?_
    refine k_condF rfl (by first | rfl | (simp; omega) | (simp; done) | simp_all) ?_
    refine k_seq ?_
    refine k_region ?_
    refine s_run (w_none rfl) rfl (d_eq rfl rfl rfl) ?_
    refine s_run (w_none rfl) rfl (as_b rfl rfl) ?_
    refine l_nil ?_
    refine k_condT rfl (by first | rfl | (simp; omega) | (simp; done) | simp_all) ?_
    refine k_seq ?_
    refine k_region ?_
    refine s_run (w_none rfl) rfl (mv_p rfl rfl) ?_
    refine s_run (w_none rfl) rfl (mv_p rfl rfl) ?_
    refine s_eff (e_call (w_none rfl) rfl rfl Tryz.func43 rfl rfl rfl (prgInt _ (H.get (f := RdYP 5 102 r A0 b.length c0 (· = b) s)) hok (H.gatT hG hT2) h0) ?_)
    rintro _ W ⟨rfl, hp_, hf_⟩
    replace H := H.mut (f := RdYP 5 102 r A0 b.length c0 (· = b) s) (f' := RdYP 5 102 r A0 b.length c0 (· = b) (Pk.rInt s).2) hf_ hp_ (fun _ h => h)
    clear hp_ hf_
    refine s_run (w_none rfl) rfl (d_nil rfl rfl) ?_
    refine s_run (w_none rfl) rfl (d_fa rfl rfl tf33_4) ?_
    refine s_eff (e_stoK (v := .int .i64 ((Pk.rInt s).1 : Int)) (vs := [.int .i64 ((Pk.rInt s).1 : Int)]) (recC ⟨k, i, Rc.zDeal, Rc.z32, ((Pk.rInt s).1 : Int), 0, Tx.zero⟩ zt) (w_none rfl) rfl rfl rfl rfl rfl ts3 rfl rfl H (rec_le rfl rfl rfl (by decide)) (spl_r_move rfl rfl) ?_)
    clear H; intro W H
    refine l_nil ?_
    refine k_region ?_
    refine s_run (w_none rfl) rfl (mv_p rfl rfl) ?_
    refine s_eff (e_call (w_none rfl) rfl rfl Tryz.func79 rfl rfl rfl (prgBlob (m := 400) _ (H.get (f := RdYP 5 102 r A0 b.length c0 (· = b) (Pk.rInt s).2)) (Pk.ok_rInt hok) (H.gatT hG hT2) h0) ?_)
    rintro _ W ⟨hp_, hf_⟩
    obtain ⟨B1, d1, rfl⟩ := RdB.form hp_
    have hH := held_of hp_
    replace H := H.mut (f := RdYP 5 102 r A0 b.length c0 (· = b) (Pk.rInt s).2) (f' := RdYP 5 102 r A0 b.length c0 (· = b) (Pk.rBlob 400 (Pk.rInt s).2).2) hf_ (RdB.toP hp_) (fun _ h => h)
    clear hp_ hf_
    refine s_run (w_none rfl) rfl (as_s rfl rfl) ?_
    refine l_nil ?_
    refine k_nil ?_
    refine b_end ?_
    refine k_seq ?_
    refine k_region ?_
    refine s_run (w_none rfl) rfl (mv_s rfl rfl) ?_
    refine s_run (w_none rfl) rfl (as_s rfl rfl) ?_
    refine l_nil ?_
    refine k_ret ?_
    repeat (first | refine r_then ?_ | refine r_blk ?_)
    rw [Rc.body_3 h1]
    exact q_ret (v := .slice _ _ _) rfl rfl ⟨_, rfl, B1, d1, rfl, hH, H⟩
  · skip
    refine k_region ?_
    refine s_run (w_none rfl) rfl (mv_p rfl rfl) ?_
    refine s_run (w_none rfl) rfl (d_nil rfl rfl) ?_
    refine s_run (w_none rfl) rfl (d_fa rfl rfl tf33_0) ?_
    refine s_run (w_none rfl) rfl (d_ldX (g := rr) (off := 0) rfl H rfl rfl rfl ta3) ?_
    refine l_nil ?_
    refine k_block ?_
    refine k_seq ?_
    refine k_region ?_
    refine s_run (w_none rfl) rfl (d_eq rfl rfl rfl) ?_
    refine s_run (w_none rfl) rfl (as_b rfl rfl) ?_
    refine l_nil ?_
    refine k_condF rfl (by first | rfl | (simp; omega) | (simp; done) | simp_all) ?_
    refine k_seq ?_
    refine k_region ?_
    refine s_run (w_none rfl) rfl (d_eq rfl rfl rfl) ?_
    refine s_run (w_none rfl) rfl (as_b rfl rfl) ?_
    refine l_nil ?_
    refine k_condF rfl (by first | rfl | (simp; omega) | (simp; done) | simp_all) ?_
    refine k_seq ?_
    refine k_region ?_
    refine s_run (w_none rfl) rfl (d_eq rfl rfl rfl) ?_
    refine s_run (w_none rfl) rfl (as_b rfl rfl) ?_
    refine l_nil ?_
    refine k_condF rfl (by first | rfl | (simp; omega) | (simp; done) | simp_all) ?_
    refine k_seq ?_
    refine k_region ?_
    refine s_run (w_none rfl) rfl (d_eq rfl rfl rfl) ?_
    refine s_run (w_none rfl) rfl (as_b rfl rfl) ?_
    refine l_nil ?_
    refine k_condT rfl (by first | rfl | (simp; omega) | (simp; done) | simp_all) ?_
    refine k_region ?_
    refine s_run (w_none rfl) rfl (mv_p rfl rfl) ?_
    refine s_run (w_none rfl) rfl (mv_p rfl rfl) ?_
    refine s_eff (e_call (w_none rfl) rfl rfl Tryz.func43 rfl rfl rfl (prgInt _ (H.get (f := RdYP 5 102 r A0 b.length c0 (· = b) s)) hok (H.gatT hG hT2) h0) ?_)
    rintro _ W ⟨rfl, hp_, hf_⟩
    replace H := H.mut (f := RdYP 5 102 r A0 b.length c0 (· = b) s) (f' := RdYP 5 102 r A0 b.length c0 (· = b) (Pk.rInt s).2) hf_ hp_ (fun _ h => h)
    clear hp_ hf_
    refine s_run (w_none rfl) rfl (d_nil rfl rfl) ?_
    refine s_run (w_none rfl) rfl (d_fa rfl rfl tf33_5) ?_
    refine s_eff (e_stoK (v := .int .i64 ((Pk.rInt s).1 : Int)) (vs := [.int .i64 ((Pk.rInt s).1 : Int)]) (recC ⟨k, i, Rc.zDeal, Rc.z32, 0, ((Pk.rInt s).1 : Int), Tx.zero⟩ zt) (w_none rfl) rfl rfl rfl rfl rfl ts3 rfl rfl H (rec_le rfl rfl rfl (by decide)) (spl_r_state rfl rfl) ?_)
    clear H; intro W H
    refine l_nil ?_
    refine k_nil ?_
    refine b_end ?_
    refine k_seq ?_
    refine k_region ?_
    refine s_run (w_none rfl) rfl (mv_s rfl rfl) ?_
    refine s_run (w_none rfl) rfl (as_s rfl rfl) ?_
    refine l_nil ?_
    refine k_ret ?_
    repeat (first | refine r_then ?_ | refine r_blk ?_)
    rw [Rc.body_4 h1]
    exact q_ret (v := .slice _ _ _) rfl rfl ⟨_, rfl, none, 0, rfl, held_nil, H⟩

attribute [local irreducible] Rc.rBody Tx.get Rc.get Rc.chk Pk.rInt
theorem tx_zero {W : World} {S : Nat → Prop} {t : DTx} (h : t = Tx.zero) : RTx W S zt t := by
  subst h
  exact ⟨_, _, _, rfl, rl_nil, rl_nil, rfl, by decide, by decide⟩

set_option maxHeartbeats 4000000 in
theorem getRT {S : Nat → Prop} {v : Value} {b : List UInt8} (w : World) (hb : Bs w S v b) (hbl : b.length ≤ 1000000000000) (hG : Gat w 0 formsC) : Calls Tryz.prog 17 [v].toArray w (Ret (GotRec w b)) := by
  have hb0 := hb
  obtain ⟨Ab, cb, rfl, _, _, _⟩ := hb.op
  have hok0 : Pk.Ok (b, 0) := ⟨fun h => absurd rfl h, (show (0 : Int) ≤ 0 by decide), (show (0 : Int) ≤ 24 by decide)⟩
  have hok1 : Pk.Ok (Rc.hS1 b) := Pk.ok_rInt hok0
  have hok2 : Pk.Ok (Rc.hS2 b) := Pk.ok_rInt hok1
  refine k_enter (l := [_]) Tryz.func17 rfl rfl ?_
  have H := St.start nT w
  refine k_seq ?_
  refine k_region ?_
  refine s_eff (e_alloc (w_none rfl) rfl rfl (recC Rc.zero zt) tz33 H ?_)
  clear H; intro go W H
  refine s_run (w_none rfl) rfl (as_i rfl rfl) ?_
  refine l_nil ?_
  refine k_seq ?_
  refine k_region ?_
  refine s_run (w_none rfl) rfl (mv_s rfl rfl) ?_
  refine s_eff (e_call (w_none rfl) rfl rfl Tryz.func42 rfl rfl rfl (prgReadY _ (H.bs hb0) hbl) ?_)
  rintro _ W ⟨r, A0, c0, rfl, hn⟩
  replace H := H.add1 hn
  clear hn
  have h0 : ¬ RdT r A0 b.length c0 0 := H.away (f := RdYP 5 102 r A0 b.length c0 (· = b) (b, 0)) hG.1
  refine s_run (w_none rfl) rfl (as_p rfl rfl) ?_
  refine l_nil ?_
  refine k_seq ?_
  refine k_region ?_
  refine s_run (w_none rfl) rfl (mv_p rfl rfl) ?_
  refine s_eff (e_call (w_none rfl) rfl rfl Tryz.func43 rfl rfl rfl (prgInt _ (H.get (f := RdYP 5 102 r A0 b.length c0 (· = b) (b, 0))) hok0 (H.gat hG) h0) ?_)
  rintro _ W ⟨rfl, hp_, hf_⟩
  replace H := H.mut (f := RdYP 5 102 r A0 b.length c0 (· = b) (b, 0)) (f' := RdYP 5 102 r A0 b.length c0 (· = b) (Pk.rInt (b, 0)).2) hf_ hp_ (fun _ h => h)
  clear hp_ hf_
  refine s_run (w_none rfl) rfl (d_build (vs := recC (Rc.start (Rc.hK b) 0) zt) rfl (built_fields (places := [(0, 1), (1, 1), (2, 41), (43, 32), (75, 1), (76, 1), (77, 3)]) tz33 (by kernel_rfl) (by kernel_rfl) (fill_next (vs := [.int .i64 (Rc.hK b)]) (.int .i64 (Rc.hK b)) rfl rfl rfl rfl (Nat.le_of_ble_eq_true rfl) (fill_end (by rfl))))) ?_
  refine s_eff (e_alloc (w_none rfl) rfl rfl (recC Rc.zero zt) tz33 H ?_)
  clear H; intro rr W H
  refine s_eff (e_stoK (recC (Rc.start (Rc.hK b) 0) zt) (w_none rfl) rfl rfl rfl rfl rfl ts33 (len_rec rfl rfl rfl) (rec_one rfl) H (by rw [len_rec rfl rfl rfl]; decide) (spl_all ((len_rec rfl rfl rfl).trans (len_rec rfl rfl rfl).symm)) ?_)
  clear H; intro W H
  refine l_nil ?_
  refine k_seq ?_
  refine k_region ?_
  refine s_run (w_none rfl) rfl (mv_p rfl rfl) ?_
  refine s_eff (e_call (w_none rfl) rfl rfl Tryz.func43 rfl rfl rfl (prgInt _ (H.get (f := RdYP 5 102 r A0 b.length c0 (· = b) (Rc.hS1 b))) hok1 (H.gat hG) h0) ?_)
  rintro _ W ⟨rfl, hp_, hf_⟩
  replace H := H.mut (f := RdYP 5 102 r A0 b.length c0 (· = b) (Rc.hS1 b)) (f' := RdYP 5 102 r A0 b.length c0 (· = b) (Pk.rInt (Rc.hS1 b)).2) hf_ hp_ (fun _ h => h)
  clear hp_ hf_
  refine s_run (w_none rfl) rfl (d_fa rfl rfl tf33_1) ?_
  refine s_eff (e_stoK (v := .int .i64 (Rc.hI b)) (vs := [.int .i64 (Rc.hI b)]) (recC (Rc.start (Rc.hK b) (Rc.hI b)) zt) (w_none rfl) rfl rfl rfl rfl rfl ts3 rfl rfl H (rec_le rfl rfl rfl (by decide)) spl_r_id ?_)
  clear H; intro W H
  refine l_nil ?_
  refine k_seq ?_
  refine k_block ?_
  refine k_seq ?_
  refine k_region ?_
  refine s_run (w_none rfl) rfl (mv_p rfl rfl) ?_
  refine s_eff (e_call (w_none rfl) rfl rfl Tryz.func44 rfl rfl rfl (prgBad _ (H.get (f := RdYP 5 102 r A0 b.length c0 (· = b) (Rc.hS2 b)))) ?_)
  rintro _ W ⟨rfl, hb⟩
  replace H := H.below hb
  clear hb
  refine s_run (w_none rfl) rfl (as_b rfl rfl) ?_
  refine l_nil ?_
  refine k_cond rfl (fun hc16 => ?_) (fun hc16 => ?_)
  · have he2 : (Rc.hS2 b).2 ≠ 0 := by simpa using hc16
    refine k_seq ?_
    refine k_region ?_
    refine s_run (w_none rfl) rfl (d_build (vs := recC Rc.zero zt) rfl (by kernel_rfl)) ?_
    refine s_run (w_none rfl) rfl (mv_p rfl rfl) ?_
    refine s_eff (e_call (w_none rfl) rfl rfl Tryz.func45 rfl rfl rfl (prgEnd _ (H.get (f := RdYP 5 102 r A0 b.length c0 (· = b) (Rc.hS2 b)))) ?_)
    rintro _ W ⟨rfl, hb⟩
    replace H := H.below hb
    clear hb
    refine s_eff (e_stoK (recC Rc.zero zt) (w_none rfl) rfl rfl rfl rfl rfl ts33 (len_rec rfl rfl rfl) (rec_one rfl) H (by rw [len_rec rfl rfl rfl]; decide) (spl_all ((len_rec rfl rfl rfl).trans (len_rec rfl rfl rfl).symm)) ?_)
    clear H; intro W H
    refine s_run (w_none rfl) rfl (as_i rfl rfl) ?_
    refine l_nil ?_
    refine k_ret ?_
    repeat (first | refine r_then ?_ | refine r_blk ?_)
    have hge : Rc.get b = (Rc.zero, (Rc.hS2 b).2) := Rc.get_e1 he2
    have HZ := ((H.flat (R := RTx) (cs := zt) (a := Tx.zero) ⟨_, _, _, rfl, rl_nil, rl_nil, rfl, by decide, by decide⟩).sub (L' := [_]) (.cons_cons _ (List.nil_sublist _)))
    have hre := Rc.rEnd_bad hok2 he2
    rw [← hre] at hge
    exact q_cell2 rfl (c := recC Rc.zero zt) (g := go) (v := .int .i64 (Pk.rEnd (Rc.hS2 b))) H rfl ta33 (by rw [len_rec rfl rfl rfl]; exact ts33) rfl ⟨_, rfl, zt, (fun _ => False), by rw [hge], by rw [hge]; exact HZ⟩
  · have he2 : (Rc.hS2 b).2 = 0 := by simpa using hc16
    refine k_seq ?_
    refine k_region ?_
    refine s_run (w_none rfl) rfl (d_fa rfl rfl tf33_0) ?_
    refine s_run (w_none rfl) rfl (d_ldX (g := rr) (off := 0) rfl H rfl rfl rfl ta3) ?_
    refine s_eff (e_call (w_none rfl) rfl rfl Tryz.func33 rfl rfl rfl (withinR _) ?_)
    rintro _ W ⟨rfl, hb⟩
    replace H := H.below hb
    clear hb
    refine s_run (w_none rfl) rfl (d_not rfl rfl) ?_
    refine s_run (w_none rfl) rfl (as_b rfl rfl) ?_
    refine l_nil ?_
    refine k_cond rfl (fun hc22 => ?_) (fun hc22 => ?_)
    · have hkb : Rc.hK b < 1 ∨ 4 < Rc.hK b := by simp at hc22; omega
      refine k_seq ?_
      refine k_region ?_
      refine s_run (w_none rfl) rfl (d_build (vs := recC Rc.zero zt) rfl (by kernel_rfl)) ?_
      refine s_eff (e_stoK (recC Rc.zero zt) (w_none rfl) rfl rfl rfl rfl rfl ts33 (len_rec rfl rfl rfl) (rec_one rfl) H (by rw [len_rec rfl rfl rfl]; decide) (spl_all ((len_rec rfl rfl rfl).trans (len_rec rfl rfl rfl).symm)) ?_)
      clear H; intro W H
      refine s_run (w_none rfl) rfl (as_i rfl rfl) ?_
      refine l_nil ?_
      refine k_ret ?_
      repeat (first | refine r_then ?_ | refine r_blk ?_)
      have hge : Rc.get b = (Rc.zero, 2) := Rc.get_e2 he2 hkb
      have HZ := ((H.flat (R := RTx) (cs := zt) (a := Tx.zero) ⟨_, _, _, rfl, rl_nil, rl_nil, rfl, by decide, by decide⟩).sub (L' := [_]) (.cons_cons _ (List.nil_sublist _)))
      exact q_cell2 rfl (c := recC Rc.zero zt) (g := go) (v := .int .i64 (2)) H rfl ta33 (by rw [len_rec rfl rfl rfl]; exact ts33) rfl ⟨_, rfl, zt, (fun _ => False), by rw [hge], by rw [hge]; exact HZ⟩
    · have hkb : 1 ≤ Rc.hK b ∧ Rc.hK b ≤ 4 := by simpa using hc22
      refine k_skip ?_
      refine k_nil ?_
      refine b_end ?_
      refine k_seq ?_
      replace H := H.perm (.swap _ _ _)
      have hap := (List.pairwise_cons.1 H.apart).1 _ (.head _)
      have hox : Rc.Ok (Rc.hB b).1.1 := Rc.ok_body Tx.int_ok Tx.int_ok
      have hxt : (Rc.hB b).1.1.tx = Tx.zero := Rc.body_tx
      have hxd : (Rc.hB b).1.1.deal.hash.length = 32 := hox.2.2.1.2.2.2.2.1
      have hxs : (Rc.hB b).1.1.secret.length = 32 := hox.2.2.2.1
      refine k_region ?_
      refine s_run (w_none rfl) rfl (mv_p rfl rfl) ?_
      refine s_eff (e_call (w_none rfl) rfl rfl Tryz.func46 rfl rfl rfl (restRd (k := Rc.hK b) (i := Rc.hI b) (rr := rr) (s := (Rc.hS2 b)) _ (H.get (f := RdYP 5 102 r A0 b.length c0 (· = b) (Rc.hS2 b))) (H.get (f := Fact.blk rr (recC (Rc.start (Rc.hK b) (Rc.hI b)) zt) 33)) (fun hg => hap rr hg rfl) hok2 (H.gat hG) h0 (fun e => H.away (f := Fact.blk rr (recC (Rc.start (Rc.hK b) (Rc.hI b)) zt) 33) hG.1 e) hkb) ?_)
      rintro _ W ⟨B1, d1, rfl, hH, hK⟩
      replace H := H.mutT hK rfl rfl
      clear hK
      have eB : Rc.rBody (Rc.hK b) (Rc.hI b) (Rc.hS2 b) = Rc.hB b := rfl
      rw [eB] at hH H ⊢
      refine s_run (w_none rfl) rfl (as_s rfl rfl) ?_
      refine l_nil ?_
      refine k_seq ?_
      refine k_region ?_
      refine s_run (w_none rfl) rfl (mv_p rfl rfl) ?_
      refine s_eff (e_call (w_none rfl) rfl rfl Tryz.func45 rfl rfl rfl (prgEnd _ (H.get (f := RdYP 5 102 r A0 b.length c0 (· = b) (Rc.hB b).2))) ?_)
      rintro _ W ⟨rfl, hb⟩
      replace H := H.below hb
      clear hb
      refine s_run (w_none rfl) rfl (as_i rfl rfl) ?_
      refine l_nil ?_
      refine k_seq ?_
      refine k_seq ?_
      rcases (show Pk.rEnd (Rc.hB b).2 ≠ 0 ∨ (Pk.rEnd (Rc.hB b).2 = 0 ∧ (Rc.hB b).1.2.length = 0) ∨ (Pk.rEnd (Rc.hB b).2 = 0 ∧ ¬ ((Rc.hB b).1.2.length = 0)) by omega) with h1 | h1 | h1
      · skip
        refine k_region ?_
        refine s_run (w_none rfl) rfl (mv_i rfl rfl) ?_
        refine s_run (w_none rfl) rfl (d_eq rfl rfl rfl) ?_
        refine s_run (w_none rfl) rfl (mv_bx (c := false) rfl rfl (by first | (simp [h1]; done) | (simp; omega) | simp_all)) ?_
        refine s_skip (w_gno rfl rfl rfl rfl rfl) rfl ?_
        refine s_skip (w_gno rfl rfl rfl rfl rfl) rfl ?_
        refine s_skip (w_gno rfl rfl rfl rfl rfl) rfl ?_
        refine s_run (w_none rfl) rfl (d_pickF rfl rfl rfl) ?_
        refine l_nil ?_
        refine k_condF rfl (by first | rfl | (simp; omega) | (simp; done) | simp_all) ?_
        refine k_skip ?_
        refine k_seq ?_
        refine k_seq ?_
        refine k_region ?_
        refine s_run (w_none rfl) rfl (mv_i rfl rfl) ?_
        refine s_run (w_none rfl) rfl (d_eq rfl rfl rfl) ?_
        refine l_nil ?_
        refine k_condF rfl (by simpa using h1) ?_
        refine k_skip ?_
        refine k_seq ?_
        refine k_seq ?_
        refine k_region ?_
        refine s_run (w_none rfl) rfl (mv_i rfl rfl) ?_
        refine s_run (w_none rfl) rfl (d_eq rfl rfl rfl) ?_
        refine s_run (w_none rfl) rfl (mv_bx (c := false) rfl rfl (by first | (simp [h2]; done) | (simp [h1]; done) | (simp [hge0]; done) | (simp; omega) | simp_all)) ?_
        refine s_skip (w_gno rfl rfl rfl rfl rfl) rfl ?_
        refine s_skip (w_gno rfl rfl rfl rfl rfl) rfl ?_
        refine s_skip (w_gno rfl rfl rfl rfl rfl) rfl ?_
        refine s_run (w_none rfl) rfl (d_pickF rfl rfl rfl) ?_
        refine l_nil ?_
        refine k_condF rfl rfl ?_
        refine k_skip ?_
        refine k_seq ?_
        refine k_seq ?_
        refine k_region ?_
        refine s_run (w_none rfl) rfl (mv_i rfl rfl) ?_
        refine s_run (w_none rfl) rfl (d_ne rfl rfl rfl) ?_
        refine l_nil ?_
        refine k_condT rfl (by first | rfl | (simp [h2]; done) | (simp [h1]; done) | (simp [hge0]; done) | (simp; omega) | simp_all) ?_
        refine k_seq ?_
        refine k_region ?_
        refine s_run (w_none rfl) rfl (d_build (vs := recC Rc.zero zt) rfl (by kernel_rfl)) ?_
        refine s_run (w_none rfl) rfl (mv_i rfl rfl) ?_
        refine s_eff (e_stoK (recC Rc.zero zt) (w_none rfl) rfl rfl rfl rfl rfl ts33 (len_rec rfl rfl rfl) (rec_one rfl) H (by rw [len_rec rfl rfl rfl]; decide) (spl_all ((len_rec rfl rfl rfl).trans (len_rec rfl rfl rfl).symm)) ?_)
        clear H; intro W H
        refine s_run (w_none rfl) rfl (as_i rfl rfl) ?_
        refine l_nil ?_
        refine k_ret ?_
        repeat (first | refine r_then ?_ | refine r_blk ?_)
        have hge : Rc.get b = (Rc.zero, Pk.rEnd (Rc.hB b).2) := (Rc.get_e3 he2 hkb).trans (Rc.fin_e1 h1)
        have HZ := ((H.flat (R := RTx) (cs := zt) (a := Tx.zero) ⟨_, _, _, rfl, rl_nil, rl_nil, rfl, by decide, by decide⟩).sub (L' := [_]) (.cons_cons _ (List.nil_sublist _)))
        exact q_cell2 rfl (c := recC Rc.zero zt) (g := go) (v := .int .i64 (Pk.rEnd (Rc.hB b).2)) H rfl ta33 (by rw [len_rec rfl rfl rfl]; exact ts33) rfl ⟨_, rfl, zt, (fun _ => False), by rw [hge], by rw [hge]; exact HZ⟩
      · skip
        refine k_region ?_
        refine s_run (w_none rfl) rfl (mv_i rfl rfl) ?_
        refine s_run (w_none rfl) rfl (d_eq rfl rfl rfl) ?_
        refine s_run (w_none rfl) rfl (mv_bx (c := true) rfl rfl (by first | (simp [h1]; done) | (simp; omega) | simp_all)) ?_
        refine s_run (w_g rfl rfl rfl rfl) rfl (mv_s rfl rfl) ?_
        refine s_run (w_g rfl rfl rfl rfl) rfl (d_len rfl rfl tu37) ?_
        refine s_run (w_g rfl rfl rfl rfl) rfl (d_gt rfl rfl rfl) ?_
        refine s_run (w_none rfl) rfl (d_pickT rfl rfl rfl) ?_
        refine l_nil ?_
        refine k_condF rfl (by first | rfl | (simp; omega) | (simp; done) | simp_all) ?_
        refine k_skip ?_
        refine k_seq ?_
        refine k_seq ?_
        refine k_region ?_
        refine s_run (w_none rfl) rfl (mv_i rfl rfl) ?_
        refine s_run (w_none rfl) rfl (d_eq rfl rfl rfl) ?_
        refine l_nil ?_
        refine k_condT rfl (by simp [h1.1]) ?_
        refine k_region ?_
        refine s_run (w_none rfl) rfl (d_ldXM (g := rr) (off := 0) rfl H (sub_all (len_rec hxd hxs rfl)) (len_rec hxd hxs rfl) rfl rfl rfl ta33 ts33) ?_
        refine s_eff (e_call (w_none rfl) rfl rfl Tryz.func12 rfl rfl rfl (checkRT (r := (Rc.hB b).1.1) (ct := zt) (S := nT) _ hox (tx_zero hxt)) ?_)
        rintro _ W ⟨rfl, hb⟩
        replace H := H.below hb
        clear hb
        refine s_run (w_none rfl) rfl (as_i rfl rfl) ?_
        refine l_nil ?_
        refine k_seq ?_
        refine k_seq ?_
        rcases Decidable.em (Rc.chk (Rc.hB b).1.1 = 0) with h2 | h2
        · skip
          refine k_region ?_
          refine s_run (w_none rfl) rfl (mv_i rfl rfl) ?_
          refine s_run (w_none rfl) rfl (d_eq rfl rfl rfl) ?_
          refine s_run (w_none rfl) rfl (mv_bx (c := true) rfl rfl (by first | (simp [h2]; done) | (simp [h1]; done) | (simp [hge0]; done) | (simp; omega) | simp_all)) ?_
          refine s_run (w_g rfl rfl rfl rfl) rfl (mv_s rfl rfl) ?_
          refine s_run (w_g rfl rfl rfl rfl) rfl (d_len rfl rfl tu37) ?_
          refine s_run (w_g rfl rfl rfl rfl) rfl (d_gt rfl rfl rfl) ?_
          refine s_run (w_none rfl) rfl (d_pickT rfl rfl rfl) ?_
          refine l_nil ?_
          refine k_cond rfl (fun hc55 => ?_) (fun hc55 => ?_)
          · have hlong : 400 < b.length := by simp at hc55; omega
            refine k_region ?_
            refine s_run (w_none rfl) rfl (as_i rfl rfl) ?_
            refine l_nil ?_
            refine k_seq ?_
            refine k_seq ?_
            refine k_region ?_
            refine s_run (w_none rfl) rfl (mv_i rfl rfl) ?_
            refine s_run (w_none rfl) rfl (d_ne rfl rfl rfl) ?_
            refine l_nil ?_
            refine k_condT rfl (by first | rfl | (simp [h2]; done) | (simp [h1]; done) | (simp [hge0]; done) | (simp; omega) | simp_all) ?_
            refine k_seq ?_
            refine k_region ?_
            refine s_run (w_none rfl) rfl (d_build (vs := recC Rc.zero zt) rfl (by kernel_rfl)) ?_
            refine s_run (w_none rfl) rfl (mv_i rfl rfl) ?_
            refine s_eff (e_stoK (recC Rc.zero zt) (w_none rfl) rfl rfl rfl rfl rfl ts33 (len_rec rfl rfl rfl) (rec_one rfl) H (by rw [len_rec rfl rfl rfl]; decide) (spl_all ((len_rec rfl rfl rfl).trans (len_rec rfl rfl rfl).symm)) ?_)
            clear H; intro W H
            refine s_run (w_none rfl) rfl (as_i rfl rfl) ?_
            refine l_nil ?_
            refine k_ret ?_
            repeat (first | refine r_then ?_ | refine r_blk ?_)
            have hge : Rc.get b = (Rc.zero, 5) := (((Rc.get_e3 he2 hkb).trans (Rc.fin_e2 h1.1 (List.eq_nil_of_length_eq_zero h1.2))).trans (Rc.fin2_e2 h2 hlong))
            have HZ := ((H.flat (R := RTx) (cs := zt) (a := Tx.zero) ⟨_, _, _, rfl, rl_nil, rl_nil, rfl, by decide, by decide⟩).sub (L' := [_]) (.cons_cons _ (List.nil_sublist _)))
            exact q_cell2 rfl (c := recC Rc.zero zt) (g := go) (v := .int .i64 (5)) H rfl ta33 (by rw [len_rec rfl rfl rfl]; exact ts33) rfl ⟨_, rfl, zt, (fun _ => False), by rw [hge], by rw [hge]; exact HZ⟩
          · have hlong : ¬ 400 < b.length := by simp at hc55; omega
            refine k_skip ?_
            refine k_seq ?_
            refine k_seq ?_
            refine k_region ?_
            refine s_run (w_none rfl) rfl (mv_i rfl rfl) ?_
            refine s_run (w_none rfl) rfl (d_ne rfl rfl rfl) ?_
            refine l_nil ?_
            refine k_condF rfl (by simp [h2]) ?_
            refine k_skip ?_
            refine k_seq ?_
            refine k_region ?_
            refine s_run (w_none rfl) rfl (d_ldXM (g := rr) (off := 0) rfl H (sub_all (len_rec hxd hxs rfl)) (len_rec hxd hxs rfl) rfl rfl rfl ta33 ts33) ?_
            refine s_eff (e_stoK (recC (Rc.hB b).1.1 zt) (w_none rfl) rfl rfl rfl rfl rfl ts33 (len_rec hxd hxs rfl) (rec_one rfl) H (by rw [len_rec rfl rfl rfl]; decide) (spl_all ((len_rec hxd hxs rfl).trans (len_rec rfl rfl rfl).symm)) ?_)
            clear H; intro W H
            refine s_run (w_none rfl) rfl (as_i rfl rfl) ?_
            refine l_nil ?_
            refine k_ret ?_
            repeat (first | refine r_then ?_ | refine r_blk ?_)
            have hge : Rc.get b = ((Rc.hB b).1.1, 0) := (((Rc.get_e3 he2 hkb).trans (Rc.fin_e2 h1.1 (List.eq_nil_of_length_eq_zero h1.2))).trans (Rc.fin2_e3 h2 hlong))
            exact q_cell2 rfl (c := recC (Rc.hB b).1.1 (zt)) (g := go) (v := .int .i64 0) H rfl ta33 (by rw [len_rec (r := (Rc.hB b).1.1) hxd hxs rfl]; exact ts33) rfl ⟨_, rfl, zt, (fun _ => False), by rw [hge], by rw [hge]; exact ((H.flat (R := RTx) (cs := zt) (a := (Rc.hB b).1.1.tx) (tx_zero hxt)).sub (L' := [_]) (.cons_cons _ (List.nil_sublist _)))⟩
        · skip
          refine k_region ?_
          refine s_run (w_none rfl) rfl (mv_i rfl rfl) ?_
          refine s_run (w_none rfl) rfl (d_eq rfl rfl rfl) ?_
          refine s_run (w_none rfl) rfl (mv_bx (c := false) rfl rfl (by first | (simp [h2]; done) | (simp [h1]; done) | (simp [hge0]; done) | (simp; omega) | simp_all)) ?_
          refine s_skip (w_gno rfl rfl rfl rfl rfl) rfl ?_
          refine s_skip (w_gno rfl rfl rfl rfl rfl) rfl ?_
          refine s_skip (w_gno rfl rfl rfl rfl rfl) rfl ?_
          refine s_run (w_none rfl) rfl (d_pickF rfl rfl rfl) ?_
          refine l_nil ?_
          refine k_condF rfl rfl ?_
          refine k_skip ?_
          refine k_seq ?_
          refine k_seq ?_
          refine k_region ?_
          refine s_run (w_none rfl) rfl (mv_i rfl rfl) ?_
          refine s_run (w_none rfl) rfl (d_ne rfl rfl rfl) ?_
          refine l_nil ?_
          refine k_condT rfl (by first | rfl | (simp [h2]; done) | (simp [h1]; done) | (simp [hge0]; done) | (simp; omega) | simp_all) ?_
          refine k_seq ?_
          refine k_region ?_
          refine s_run (w_none rfl) rfl (d_build (vs := recC Rc.zero zt) rfl (by kernel_rfl)) ?_
          refine s_run (w_none rfl) rfl (mv_i rfl rfl) ?_
          refine s_eff (e_stoK (recC Rc.zero zt) (w_none rfl) rfl rfl rfl rfl rfl ts33 (len_rec rfl rfl rfl) (rec_one rfl) H (by rw [len_rec rfl rfl rfl]; decide) (spl_all ((len_rec rfl rfl rfl).trans (len_rec rfl rfl rfl).symm)) ?_)
          clear H; intro W H
          refine s_run (w_none rfl) rfl (as_i rfl rfl) ?_
          refine l_nil ?_
          refine k_ret ?_
          repeat (first | refine r_then ?_ | refine r_blk ?_)
          have hge : Rc.get b = (Rc.zero, Rc.chk (Rc.hB b).1.1) := (((Rc.get_e3 he2 hkb).trans (Rc.fin_e2 h1.1 (List.eq_nil_of_length_eq_zero h1.2))).trans (Rc.fin2_e1 h2))
          have HZ := ((H.flat (R := RTx) (cs := zt) (a := Tx.zero) ⟨_, _, _, rfl, rl_nil, rl_nil, rfl, by decide, by decide⟩).sub (L' := [_]) (.cons_cons _ (List.nil_sublist _)))
          exact q_cell2 rfl (c := recC Rc.zero zt) (g := go) (v := .int .i64 (Rc.chk (Rc.hB b).1.1)) H rfl ta33 (by rw [len_rec rfl rfl rfl]; exact ts33) rfl ⟨_, rfl, zt, (fun _ => False), by rw [hge], by rw [hge]; exact HZ⟩
      · skip
        refine k_region ?_
        refine s_run (w_none rfl) rfl (mv_i rfl rfl) ?_
        refine s_run (w_none rfl) rfl (d_eq rfl rfl rfl) ?_
        refine s_run (w_none rfl) rfl (mv_bx (c := true) rfl rfl (by first | (simp [h1]; done) | (simp; omega) | simp_all)) ?_
        refine s_run (w_g rfl rfl rfl rfl) rfl (mv_s rfl rfl) ?_
        refine s_run (w_g rfl rfl rfl rfl) rfl (d_len rfl rfl tu37) ?_
        refine s_run (w_g rfl rfl rfl rfl) rfl (d_gt rfl rfl rfl) ?_
        refine s_run (w_none rfl) rfl (d_pickT rfl rfl rfl) ?_
        refine l_nil ?_
        refine k_condT rfl (by first | rfl | (simp; omega) | (simp; done) | simp_all) ?_
        refine k_region ?_
        refine s_run (w_none rfl) rfl (mv_s rfl rfl) ?_
        refine s_eff (e_call (w_none rfl) rfl rfl Tryz.func47 rfl rfl rfl (getTP (b := (Rc.hB b).1.2) _ (held_own (H.get (f := RdYP 5 102 r A0 b.length c0 (· = b) (Rc.hB b).2)) hH) (by obtain ⟨_, _, q9, _, _, _, _, h9, _⟩ := hH; omega) (H.gat hG)) ?_)
        rintro _ W hs_
        obtain ⟨Sg, Ag, cg, Bg, dg, rfl, H1_⟩ := GotTx.rep hs_ H
        clear H hs_
        have H := H1_
        clear H1_
        refine s_run (w_none rfl) rfl (mv_t rfl rfl) ?_
        refine s_run (w_none rfl) rfl (d_ext rfl rfl rfl) ?_
        refine s_run (w_none rfl) rfl (d_ext rfl rfl rfl) ?_
        refine s_run (w_none rfl) rfl (d_fa rfl rfl tf33_6) ?_
        refine s_eff (e_stoK (recC (Rc.setTx (Rc.hB b).1.1 (Tx.get (Rc.hB b).1.2).1) (txC Ag (Tx.get (Rc.hB b).1.2).1.ins.length cg Bg (Tx.get (Rc.hB b).1.2).1.outs.length dg (Tx.get (Rc.hB b).1.2).1.lock)) (w_none rfl) rfl rfl rfl rfl rfl ts31 rfl rfl H (rec_le hxd hxs rfl (by decide)) (spl_r_tx (ct := zt) hxd hxs rfl) ?_)
        clear H; intro W H
        refine s_run (w_none rfl) rfl (as_i rfl rfl) ?_
        refine l_nil ?_
        refine k_seq ?_
        refine k_seq ?_
        refine k_region ?_
        refine s_run (w_none rfl) rfl (mv_i rfl rfl) ?_
        refine s_run (w_none rfl) rfl (d_eq rfl rfl rfl) ?_
        refine l_nil ?_
        refine k_cond rfl (fun hc46 => ?_) (fun hc46 => ?_)
        · have hge0 : (Tx.get (Rc.hB b).1.2).2 = 0 := by simpa using hc46
          refine k_region ?_
          refine s_run (w_none rfl) rfl (d_ldXM (g := rr) (off := 0) rfl H (sub_all (len_rec hxd hxs rfl)) (len_rec hxd hxs rfl) rfl rfl rfl ta33 ts33) ?_
          refine s_eff (e_call (w_none rfl) rfl rfl Tryz.func12 rfl rfl rfl (checkRT (r := (Rc.setTx (Rc.hB b).1.1 (Tx.get (Rc.hB b).1.2).1)) _ (Rc.ok_set hox Tx.ok_get) (H.rep1 (R := RTx) (S := Sg) (cs := txC Ag (Tx.get (Rc.hB b).1.2).1.ins.length cg Bg (Tx.get (Rc.hB b).1.2).1.outs.length dg (Tx.get (Rc.hB b).1.2).1.lock) (a := (Tx.get (Rc.hB b).1.2).1))) ?_)
          rintro _ W ⟨rfl, hb⟩
          replace H := H.below hb
          clear hb
          refine s_run (w_none rfl) rfl (as_i rfl rfl) ?_
          refine l_nil ?_
          refine k_seq ?_
          refine k_seq ?_
          rcases Decidable.em (Rc.chk (Rc.setTx (Rc.hB b).1.1 (Tx.get (Rc.hB b).1.2).1) = 0) with h2 | h2
          · skip
            refine k_region ?_
            refine s_run (w_none rfl) rfl (mv_i rfl rfl) ?_
            refine s_run (w_none rfl) rfl (d_eq rfl rfl rfl) ?_
            refine s_run (w_none rfl) rfl (mv_bx (c := true) rfl rfl (by first | (simp [h2]; done) | (simp [h1]; done) | (simp [hge0]; done) | (simp; omega) | simp_all)) ?_
            refine s_run (w_g rfl rfl rfl rfl) rfl (mv_s rfl rfl) ?_
            refine s_run (w_g rfl rfl rfl rfl) rfl (d_len rfl rfl tu37) ?_
            refine s_run (w_g rfl rfl rfl rfl) rfl (d_gt rfl rfl rfl) ?_
            refine s_run (w_none rfl) rfl (d_pickT rfl rfl rfl) ?_
            refine l_nil ?_
            refine k_cond rfl (fun hc55 => ?_) (fun hc55 => ?_)
            · have hlong : 400 < b.length := by simp at hc55; omega
              refine k_region ?_
              refine s_run (w_none rfl) rfl (as_i rfl rfl) ?_
              refine l_nil ?_
              refine k_seq ?_
              refine k_seq ?_
              refine k_region ?_
              refine s_run (w_none rfl) rfl (mv_i rfl rfl) ?_
              refine s_run (w_none rfl) rfl (d_ne rfl rfl rfl) ?_
              refine l_nil ?_
              refine k_condT rfl (by first | rfl | (simp [h2]; done) | (simp [h1]; done) | (simp [hge0]; done) | (simp; omega) | simp_all) ?_
              refine k_seq ?_
              refine k_region ?_
              refine s_run (w_none rfl) rfl (d_build (vs := recC Rc.zero zt) rfl (by kernel_rfl)) ?_
              refine s_run (w_none rfl) rfl (mv_i rfl rfl) ?_
              refine s_eff (e_stoK (recC Rc.zero zt) (w_none rfl) rfl rfl rfl rfl rfl ts33 (len_rec rfl rfl rfl) (rec_one rfl) H (by rw [len_rec rfl rfl rfl]; decide) (spl_all ((len_rec rfl rfl rfl).trans (len_rec rfl rfl rfl).symm)) ?_)
              clear H; intro W H
              refine s_run (w_none rfl) rfl (as_i rfl rfl) ?_
              refine l_nil ?_
              refine k_ret ?_
              repeat (first | refine r_then ?_ | refine r_blk ?_)
              have hge : Rc.get b = (Rc.zero, 5) := (((Rc.get_e3 he2 hkb).trans (Rc.fin_e4 h1.1 (fun e => h1.2 (by rw [e]; rfl)) hge0)).trans (Rc.fin2_e2 h2 hlong))
              have HZ := ((H.flat (R := RTx) (cs := zt) (a := Tx.zero) ⟨_, _, _, rfl, rl_nil, rl_nil, rfl, by decide, by decide⟩).sub (L' := [_]) (.cons_cons _ (List.nil_sublist _)))
              exact q_cell2 rfl (c := recC Rc.zero zt) (g := go) (v := .int .i64 (5)) H rfl ta33 (by rw [len_rec rfl rfl rfl]; exact ts33) rfl ⟨_, rfl, zt, (fun _ => False), by rw [hge], by rw [hge]; exact HZ⟩
            · have hlong : ¬ 400 < b.length := by simp at hc55; omega
              refine k_skip ?_
              refine k_seq ?_
              refine k_seq ?_
              refine k_region ?_
              refine s_run (w_none rfl) rfl (mv_i rfl rfl) ?_
              refine s_run (w_none rfl) rfl (d_ne rfl rfl rfl) ?_
              refine l_nil ?_
              refine k_condF rfl (by simp [h2]) ?_
              refine k_skip ?_
              refine k_seq ?_
              refine k_region ?_
              refine s_run (w_none rfl) rfl (d_ldXM (g := rr) (off := 0) rfl H (sub_all (len_rec hxd hxs rfl)) (len_rec hxd hxs rfl) rfl rfl rfl ta33 ts33) ?_
              refine s_eff (e_stoK (recC (Rc.setTx (Rc.hB b).1.1 (Tx.get (Rc.hB b).1.2).1) (txC Ag (Tx.get (Rc.hB b).1.2).1.ins.length cg Bg (Tx.get (Rc.hB b).1.2).1.outs.length dg (Tx.get (Rc.hB b).1.2).1.lock)) (w_none rfl) rfl rfl rfl rfl rfl ts33 (len_rec hxd hxs rfl) (rec_one rfl) H (by rw [len_rec rfl rfl rfl]; decide) (spl_all ((len_rec hxd hxs rfl).trans (len_rec rfl rfl rfl).symm)) ?_)
              clear H; intro W H
              refine s_run (w_none rfl) rfl (as_i rfl rfl) ?_
              refine l_nil ?_
              refine k_ret ?_
              repeat (first | refine r_then ?_ | refine r_blk ?_)
              have hge : Rc.get b = ((Rc.setTx (Rc.hB b).1.1 (Tx.get (Rc.hB b).1.2).1), 0) := (((Rc.get_e3 he2 hkb).trans (Rc.fin_e4 h1.1 (fun e => h1.2 (by rw [e]; rfl)) hge0)).trans (Rc.fin2_e3 h2 hlong))
              exact q_cell2 rfl (c := recC (Rc.setTx (Rc.hB b).1.1 (Tx.get (Rc.hB b).1.2).1) (txC Ag (Tx.get (Rc.hB b).1.2).1.ins.length cg Bg (Tx.get (Rc.hB b).1.2).1.outs.length dg (Tx.get (Rc.hB b).1.2).1.lock)) (g := go) (v := .int .i64 0) H rfl ta33 (by rw [len_rec (r := (Rc.setTx (Rc.hB b).1.1 (Tx.get (Rc.hB b).1.2).1)) hxd hxs rfl]; exact ts33) rfl ⟨_, rfl, txC Ag (Tx.get (Rc.hB b).1.2).1.ins.length cg Bg (Tx.get (Rc.hB b).1.2).1.outs.length dg (Tx.get (Rc.hB b).1.2).1.lock, Sg, by rw [hge], by rw [hge]; exact (H.sub (L' := [Fact.rep RTx Sg (txC Ag (Tx.get (Rc.hB b).1.2).1.ins.length cg Bg (Tx.get (Rc.hB b).1.2).1.outs.length dg (Tx.get (Rc.hB b).1.2).1.lock) (Tx.get (Rc.hB b).1.2).1]) (by repeat (first | exact List.Sublist.refl _ | exact List.nil_sublist _ | refine List.Sublist.cons_cons _ ?_ | refine List.Sublist.cons _ ?_)))⟩
          · skip
            refine k_region ?_
            refine s_run (w_none rfl) rfl (mv_i rfl rfl) ?_
            refine s_run (w_none rfl) rfl (d_eq rfl rfl rfl) ?_
            refine s_run (w_none rfl) rfl (mv_bx (c := false) rfl rfl (by first | (simp [h2]; done) | (simp [h1]; done) | (simp [hge0]; done) | (simp; omega) | simp_all)) ?_
            refine s_skip (w_gno rfl rfl rfl rfl rfl) rfl ?_
            refine s_skip (w_gno rfl rfl rfl rfl rfl) rfl ?_
            refine s_skip (w_gno rfl rfl rfl rfl rfl) rfl ?_
            refine s_run (w_none rfl) rfl (d_pickF rfl rfl rfl) ?_
            refine l_nil ?_
            refine k_condF rfl rfl ?_
            refine k_skip ?_
            refine k_seq ?_
            refine k_seq ?_
            refine k_region ?_
            refine s_run (w_none rfl) rfl (mv_i rfl rfl) ?_
            refine s_run (w_none rfl) rfl (d_ne rfl rfl rfl) ?_
            refine l_nil ?_
            refine k_condT rfl (by first | rfl | (simp [h2]; done) | (simp [h1]; done) | (simp [hge0]; done) | (simp; omega) | simp_all) ?_
            refine k_seq ?_
            refine k_region ?_
            refine s_run (w_none rfl) rfl (d_build (vs := recC Rc.zero zt) rfl (by kernel_rfl)) ?_
            refine s_run (w_none rfl) rfl (mv_i rfl rfl) ?_
            refine s_eff (e_stoK (recC Rc.zero zt) (w_none rfl) rfl rfl rfl rfl rfl ts33 (len_rec rfl rfl rfl) (rec_one rfl) H (by rw [len_rec rfl rfl rfl]; decide) (spl_all ((len_rec rfl rfl rfl).trans (len_rec rfl rfl rfl).symm)) ?_)
            clear H; intro W H
            refine s_run (w_none rfl) rfl (as_i rfl rfl) ?_
            refine l_nil ?_
            refine k_ret ?_
            repeat (first | refine r_then ?_ | refine r_blk ?_)
            have hge : Rc.get b = (Rc.zero, Rc.chk (Rc.setTx (Rc.hB b).1.1 (Tx.get (Rc.hB b).1.2).1)) := (((Rc.get_e3 he2 hkb).trans (Rc.fin_e4 h1.1 (fun e => h1.2 (by rw [e]; rfl)) hge0)).trans (Rc.fin2_e1 h2))
            have HZ := ((H.flat (R := RTx) (cs := zt) (a := Tx.zero) ⟨_, _, _, rfl, rl_nil, rl_nil, rfl, by decide, by decide⟩).sub (L' := [_]) (.cons_cons _ (List.nil_sublist _)))
            exact q_cell2 rfl (c := recC Rc.zero zt) (g := go) (v := .int .i64 (Rc.chk (Rc.setTx (Rc.hB b).1.1 (Tx.get (Rc.hB b).1.2).1))) H rfl ta33 (by rw [len_rec rfl rfl rfl]; exact ts33) rfl ⟨_, rfl, zt, (fun _ => False), by rw [hge], by rw [hge]; exact HZ⟩
        · have hge0 : (Tx.get (Rc.hB b).1.2).2 ≠ 0 := by simpa using hc46
          refine k_skip ?_
          refine k_seq ?_
          refine k_seq ?_
          refine k_region ?_
          refine s_run (w_none rfl) rfl (mv_i rfl rfl) ?_
          refine s_run (w_none rfl) rfl (d_eq rfl rfl rfl) ?_
          refine s_run (w_none rfl) rfl (mv_bx (c := false) rfl rfl (by first | (simp [h2]; done) | (simp [h1]; done) | (simp [hge0]; done) | (simp; omega) | simp_all)) ?_
          refine s_skip (w_gno rfl rfl rfl rfl rfl) rfl ?_
          refine s_skip (w_gno rfl rfl rfl rfl rfl) rfl ?_
          refine s_skip (w_gno rfl rfl rfl rfl rfl) rfl ?_
          refine s_run (w_none rfl) rfl (d_pickF rfl rfl rfl) ?_
          refine l_nil ?_
          refine k_condF rfl rfl ?_
          refine k_skip ?_
          refine k_seq ?_
          refine k_seq ?_
          refine k_region ?_
          refine s_run (w_none rfl) rfl (mv_i rfl rfl) ?_
          refine s_run (w_none rfl) rfl (d_ne rfl rfl rfl) ?_
          refine l_nil ?_
          refine k_condT rfl (by first | rfl | (simp [h2]; done) | (simp [h1]; done) | (simp [hge0]; done) | (simp; omega) | simp_all) ?_
          refine k_seq ?_
          refine k_region ?_
          refine s_run (w_none rfl) rfl (d_build (vs := recC Rc.zero zt) rfl (by kernel_rfl)) ?_
          refine s_run (w_none rfl) rfl (mv_i rfl rfl) ?_
          refine s_eff (e_stoK (recC Rc.zero zt) (w_none rfl) rfl rfl rfl rfl rfl ts33 (len_rec rfl rfl rfl) (rec_one rfl) H (by rw [len_rec rfl rfl rfl]; decide) (spl_all ((len_rec rfl rfl rfl).trans (len_rec rfl rfl rfl).symm)) ?_)
          clear H; intro W H
          refine s_run (w_none rfl) rfl (as_i rfl rfl) ?_
          refine l_nil ?_
          refine k_ret ?_
          repeat (first | refine r_then ?_ | refine r_blk ?_)
          have hge : Rc.get b = (Rc.zero, (Tx.get (Rc.hB b).1.2).2) := ((Rc.get_e3 he2 hkb).trans (Rc.fin_e3 h1.1 (fun e => h1.2 (by rw [e]; rfl)) hge0))
          have HZ := ((H.flat (R := RTx) (cs := zt) (a := Tx.zero) ⟨_, _, _, rfl, rl_nil, rl_nil, rfl, by decide, by decide⟩).sub (L' := [_]) (.cons_cons _ (List.nil_sublist _)))
          exact q_cell2 rfl (c := recC Rc.zero zt) (g := go) (v := .int .i64 ((Tx.get (Rc.hB b).1.2).2)) H rfl ta33 (by rw [len_rec rfl rfl rfl]; exact ts33) rfl ⟨_, rfl, zt, (fun _ => False), by rw [hge], by rw [hge]; exact HZ⟩
end Go.Proofs.YtfjhmecmhchbdaaGreatDoor

namespace Go.Proofs.YtfjhmecmhchbdaaGreatDoor
open Go Go.RowKit

namespace Rc
def kDeal : DDeal := ⟨7, 1, ⟨0, 5, 9⟩, ⟨1, 6, 8⟩, z32, 2⟩
def k0 : DRecord := ⟨4, 7, zDeal, z32, 0, 2, Tx.zero⟩
def k5 : DRecord := ⟨5, 0, zDeal, z32, 0, 0, Tx.zero⟩
theorem ok_k0 : Ok k0 := ⟨⟨by decide, by decide⟩, ⟨by decide, by decide⟩, ok_zdeal, rfl, i64_0, ⟨by decide, by decide⟩, Tx.ok_zero⟩
theorem ok_k5 : Ok k5 := ⟨⟨by decide, by decide⟩, i64_0, ok_zdeal, rfl, i64_0, i64_0, Tx.ok_zero⟩
theorem put_k0 : put k0 = ([4, 7, 2], 0) := by decide +kernel
theorem get_k0 : get [4, 7, 2] = (k0, 0) := by decide +kernel
theorem chk_k5 : chk k5 = 2 := by decide +kernel
/-- What is put, when it is. -/
theorem put_two {r : DRecord} (h : (put r).2 = 0) : chk r = 0 ∧ (putB r).length ≤ 400 ∧ (put r).1 = putB r := by
  by_cases hc : chk r = 0
  · by_cases hl : 400 < (putB r).length
    · rw [put_long hc hl] at h; cases h
    · rw [put_ok hc hl]; exact ⟨hc, by omega, rfl⟩
  · rw [put_bad hc] at h; exact absurd h hc
theorem put_not {r : DRecord} (h : (put r).2 ≠ 0) : (put r).1 = [] ∧ ((put r).2 = 5 ∨ ((put r).2 ≠ 5 ∧ (put r).2 = chk r)) := by
  by_cases hc : chk r = 0
  · by_cases hl : 400 < (putB r).length
    · rw [put_long hc hl]; exact ⟨rfl, .inl rfl⟩
    · rw [put_ok hc hl] at h; exact absurd rfl h
  · rw [put_bad hc]
    by_cases h5 : chk r = 5
    · exact ⟨rfl, .inl h5⟩
    · exact ⟨rfl, .inr ⟨h5, rfl⟩⟩
theorem len_put {r : DRecord} : (put r).1.length ≤ 400 := by
  by_cases h : (put r).2 = 0
  · obtain ⟨_, h2, h3⟩ := put_two h; rw [h3]; exact h2
  · rw [(put_not h).1]; simp
/-- A right deal, one number another one. -/
def sel (k : Nat) (n : Int) : DDeal :=
  if k = 0 then { kDeal with id := n } else if k = 1 then { kDeal with role := n } else if k = 2 then { kDeal with peer := n } else if k = 3 then { kDeal with paid := ⟨n, 5, 9⟩ } else if k = 4 then { kDeal with got := ⟨n, 6, 8⟩ }
  else if k = 5 then { kDeal with paid := ⟨0, n, 9⟩ } else if k = 6 then { kDeal with got := ⟨1, n, 8⟩ } else if k = 7 then { kDeal with paid := ⟨0, 5, n⟩ } else { kDeal with got := ⟨1, 6, n⟩ }
def selOk (k : Nat) (n : Int) : Bool :=
  if k = 0 then decide (1 ≤ n ∧ n ≤ 1073741824) else if k = 1 then decide (n = 1 ∨ n = 2) else if k = 2 then decide (1 ≤ n ∧ n ≤ 32) else if k = 3 then decide (n = 0 ∨ n = 2) else if k = 4 then decide (n = 1 ∨ n = 2)
  else if k = 5 then decide (1 ≤ n ∧ n ≤ 1125899906842624) else if k = 6 then decide (1 ≤ n ∧ n ≤ 1125899906842624) else if k = 7 then decide (0 ≤ n ∧ n ≤ 1073741824) else decide (0 ≤ n ∧ n ≤ 1073741824)
/-- A record of a deal alone. -/
def ofDeal (d : DDeal) : DRecord := ⟨1, d.id, d, z32, 0, 0, Tx.zero⟩
end Rc
end Go.Proofs.YtfjhmecmhchbdaaGreatDoor

namespace Go.Proofs.YtfjhmecmhchbdaaGreatDoor
open Go Go.RowKit
attribute [local irreducible] wpList

set_option maxHeartbeats 4000000 in
theorem knownT (w : World) (hG : Gat w 0 formsC) : Calls Tryz.prog 6 [].toArray w (Ret (Is w (.bool true))) := by
  have hp0 := Rc.put_k0
  have hg0 : Rc.get (Rc.put Rc.k0).1 = (Rc.k0, 0) := by rw [hp0]; exact Rc.get_k0
  refine k_enter (l := []) Tryz.func6 rfl rfl ?_
  have H := St.start nT w
  refine k_seq ?_
  refine k_region ?_
  refine s_run (w_none rfl) rfl (as_b rfl rfl) ?_
  refine l_nil ?_
  refine k_seq ?_
  refine k_region ?_
  refine s_run (w_none rfl) rfl (d_build (vs := recC Rc.k0 zt) rfl (built_fields (places := [(0, 1), (1, 1), (2, 41), (43, 32), (75, 1), (76, 1), (77, 3)]) tz33 (by kernel_rfl) (by kernel_rfl) (fill_next (vs := [.int .i64 4]) (.int .i64 4) rfl rfl rfl rfl (Nat.le_of_ble_eq_true rfl) (fill_next (vs := [.int .i64 7]) (.int .i64 7) rfl (by rfl) rfl rfl (Nat.le_of_ble_eq_true rfl) (fill_skip 74 (fill_next (vs := [.int .i64 2]) (.int .i64 2) rfl (by rfl) rfl rfl (Nat.le_of_ble_eq_true rfl) (fill_end (by rfl)))))))) ?_
  refine s_eff (e_alloc (w_none rfl) rfl rfl (recC Rc.zero zt) tz33 H ?_)
  clear H; intro g1 W H
  refine s_eff (e_stoK (recC Rc.k0 zt) (w_none rfl) rfl rfl rfl rfl rfl ts33 (len_rec rfl rfl rfl) (rec_one rfl) H (by rw [len_rec rfl rfl rfl]; decide) (spl_all ((len_rec rfl rfl rfl).trans (len_rec rfl rfl rfl).symm)) ?_)
  clear H; intro W H
  refine l_nil ?_
  refine k_seq ?_
  refine k_region ?_
  refine s_run (w_none rfl) rfl (d_ldXM (g := g1) (off := 0) rfl H (sub_all (len_rec rfl rfl rfl)) (len_rec rfl rfl rfl) rfl rfl rfl ta33 ts33) ?_
  refine s_eff (e_call (w_none rfl) rfl rfl Tryz.func8 rfl rfl rfl (putRT (r := Rc.k0) (ct := zt) (S := nT) _ Rc.ok_k0 (tx_zero rfl) (H.gat hG)) ?_)
  rintro _ W ⟨_, rfl, A1, c1, rfl, hc1, hd1, hn⟩
  replace H := H.new hn
  clear hn
  refine s_run (w_none rfl) rfl (mv_t rfl rfl) ?_
  refine s_run (w_none rfl) rfl (d_ext rfl rfl rfl) ?_
  refine s_run (w_none rfl) rfl (d_ext rfl rfl rfl) ?_
  refine s_run (w_none rfl) rfl (as_s rfl rfl) ?_
  refine s_run (w_none rfl) rfl (as_i rfl rfl) ?_
  refine l_nil ?_
  refine k_seq ?_
  refine k_region ?_
  refine s_run (w_none rfl) rfl (mv_s rfl rfl) ?_
  refine s_eff (e_call (w_none rfl) rfl rfl Tryz.func17 rfl rfl rfl (getRT _ (H.rowbs (A := A1) rfl) (by rw [hp0]; decide) (H.gat hG)) ?_)
  rintro _ W hs_
  obtain ⟨Sg1, Ag1, cg1, Bg1, dg1, rfl, H1_⟩ := GotRec.rep hs_ H
  clear H hs_
  have H := H1_
  clear H1_
  refine s_run (w_none rfl) rfl (mv_t rfl rfl) ?_
  refine s_run (w_none rfl) rfl (d_ext rfl rfl rfl) ?_
  refine s_run (w_none rfl) rfl (d_ext rfl rfl rfl) ?_
  refine s_eff (e_alloc (w_none rfl) rfl rfl (recC Rc.zero zt) tz33 H ?_)
  clear H; intro g4 W H
  refine s_eff (e_stoK (recC (Rc.get (Rc.put Rc.k0).1).1 (txC Ag1 (Rc.get (Rc.put Rc.k0).1).1.tx.ins.length cg1 Bg1 (Rc.get (Rc.put Rc.k0).1).1.tx.outs.length dg1 (Rc.get (Rc.put Rc.k0).1).1.tx.lock)) (w_none rfl) rfl rfl rfl rfl rfl ts33 (len_rec' Rc.ok_get rfl) (rec_one rfl) H (by rw [len_rec rfl rfl rfl]; decide) (spl_all ((len_rec' Rc.ok_get rfl).trans (len_rec rfl rfl rfl).symm)) ?_)
  clear H; intro W H
  refine s_run (w_none rfl) rfl (as_i rfl rfl) ?_
  refine l_nil ?_
  refine k_seq ?_
  refine k_region ?_
  refine s_run (w_none rfl) rfl (mv_i rfl rfl) ?_
  refine s_run (w_none rfl) rfl (d_eq rfl rfl rfl) ?_
  refine s_run (w_none rfl) rfl (mv_bx (c := true) rfl rfl (by rw [hp0]; rfl)) ?_
  refine s_run (w_g rfl rfl rfl rfl) rfl (mv_i rfl rfl) ?_
  refine s_run (w_g rfl rfl rfl rfl) rfl (d_eq rfl rfl rfl) ?_
  refine s_run (w_none rfl) rfl (d_pickT rfl rfl rfl) ?_
  refine s_run (w_none rfl) rfl (mv_bx (c := true) rfl rfl (by rw [hg0]; rfl)) ?_
  refine s_run (w_g rfl rfl rfl rfl) rfl (mv_s rfl rfl) ?_
  refine s_eff (e_bsl (xs := [.const (.int .u8 4), .const (.int .u8 7), .const (.int .u8 2)]) (vals := [.int .u8 _, .int .u8 _, .int .u8 _]) (vs := [.int .u8 _, .int .u8 _, .int .u8 _]) (w_g rfl rfl rfl rfl) rfl rfl rfl rfl rfl rfl tu37 ts5 ty5 rfl rfl rfl H ?_)
  clear H; intro g5 W H
  refine s_eff (e_call (w_g rfl rfl rfl rfl) rfl rfl Tryz.func14 rfl rfl rfl (sameBytes _ _ (Rc.put Rc.k0).1 [4, 7, 2] _ (H.rowbs (A := A1) rfl) (Bs.mk (S := (· = g5)) (l := [4, 7, 2]) (rd_blk (H.blk (g := g5)) rfl) (by decide) (by decide))) ?_)
  rintro _ W ⟨rfl, hb⟩
  replace H := H.below hb
  clear hb
  refine s_run (w_none rfl) rfl (d_pickT rfl rfl rfl) ?_
  refine s_run (w_none rfl) rfl (mv_bx (c := true) rfl rfl (by rw [hp0]; rfl)) ?_
  refine s_run (w_g rfl rfl rfl rfl) rfl (d_ldXM (g := g4) (off := 0) rfl H (sub_all (len_rec' Rc.ok_get rfl)) (len_rec' Rc.ok_get rfl) rfl rfl rfl ta33 ts33) ?_
  refine s_run (w_g rfl rfl rfl rfl) rfl (d_ldXM (g := g1) (off := 0) rfl H (sub_all (len_rec rfl rfl rfl)) (len_rec rfl rfl rfl) rfl rfl rfl ta33 ts33) ?_
  refine s_eff (e_call (w_g rfl rfl rfl rfl) rfl rfl Tryz.func15 rfl rfl rfl (sameRec (S1 := nT) (r := (Rc.get (Rc.put Rc.k0).1).1) (u := Rc.k0) (cu := zt) _ Rc.ok_get (H.rep1 (R := RTx) (S := Sg1) (cs := txC Ag1 (Rc.get (Rc.put Rc.k0).1).1.tx.ins.length cg1 Bg1 (Rc.get (Rc.put Rc.k0).1).1.tx.outs.length dg1 (Rc.get (Rc.put Rc.k0).1).1.tx.lock) (a := (Rc.get (Rc.put Rc.k0).1).1.tx)) Rc.ok_k0 (tx_zero rfl)) ?_)
  rintro _ W ⟨rfl, hb⟩
  replace H := H.below hb
  clear hb
  refine s_run (w_none rfl) rfl (d_pickT rfl rfl rfl) ?_
  refine s_run (w_none rfl) rfl (mv_bx (c := true) rfl rfl (by rw [hg0]; rfl)) ?_
  refine s_run (w_g rfl rfl rfl rfl) rfl (d_build (vs := recC Rc.k5 zt) rfl (built_fields (places := [(0, 1), (1, 1), (2, 41), (43, 32), (75, 1), (76, 1), (77, 3)]) tz33 (by kernel_rfl) (by kernel_rfl) (fill_next (vs := [.int .i64 5]) (.int .i64 5) rfl rfl rfl rfl (Nat.le_of_ble_eq_true rfl) (fill_end (by rfl))))) ?_
  refine s_eff (e_call (w_g rfl rfl rfl rfl) rfl rfl Tryz.func12 rfl rfl rfl (checkRT (r := Rc.k5) (ct := zt) (S := nT) _ Rc.ok_k5 (tx_zero rfl)) ?_)
  rintro _ W ⟨rfl, hb⟩
  replace H := H.below hb
  clear hb
  refine s_run (w_g rfl rfl rfl rfl) rfl (d_eq rfl rfl rfl) ?_
  refine s_run (w_none rfl) rfl (d_pickT rfl rfl rfl) ?_
  refine s_run (w_none rfl) rfl (as_b rfl rfl) ?_
  refine l_nil ?_
  refine k_ret ?_
  repeat (first | refine r_then ?_ | refine r_blk ?_)
  exact q_ret (v := .bool _) rfl rfl ⟨_, rfl, vb (by rw [Rc.chk_k5]; rfl), H.under⟩

end Go.Proofs.YtfjhmecmhchbdaaGreatDoor
