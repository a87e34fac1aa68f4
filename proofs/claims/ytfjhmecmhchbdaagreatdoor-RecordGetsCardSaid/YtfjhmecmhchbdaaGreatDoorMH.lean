/- Texts of this claim, laid together: RecGet, K63, RecLaw, K64. -/
import Derived.Test.YtfjhmecmhchbdaaGreatDoorMP
set_option linter.unusedVariables false
set_option linter.unusedSimpArgs false

namespace Go.Proofs.YtfjhmecmhchbdaaGreatDoor
open Go Go.RowKit

section
variable {T : Nat → Prop} {w0 W W' : World} {L : List Fact} {f f2 f' f2' : Fact}
theorem St.begin2 (hp : f.p W) (hf : ∀ g, f.fp g → g < W.heap.size) (hp2 : f2.p W) (hf2 : ∀ g, f2.fp g → g < W.heap.size) (ha : ∀ g, f.fp g → ¬ f2.fp g) : St (Fact.two f f2).fp W W [f, f2] :=
  ⟨Fr.refl, fun x hx => by
    rcases List.mem_cons.1 hx with rfl | hx
    · exact hp
    · obtain rfl : x = f2 := by simpa using hx
      exact hp2, fun x hx g hg => by
    rcases List.mem_cons.1 hx with rfl | hx
    · exact ⟨.inl (.inl hg), hf g hg⟩
    · obtain rfl : x = f2 := by simpa using hx
      exact ⟨.inl (.inr hg), hf2 g hg⟩, List.pairwise_cons.2 ⟨fun x hx g hg => by
    obtain rfl : x = f2 := by simpa using hx
    exact ha g hg, List.pairwise_singleton _ _⟩⟩
/-- A call that turns two facts. -/
theorem St.mutT (H : St T w0 W (f :: f2 :: L)) (K : St (Fact.two f f2).fp W W' [f', f2']) (e1 : f'.fp = f.fp) (e2 : f2'.fp = f2.fp) : St T w0 W' (f' :: f2' :: L) := by
  have H2 := H.two.mut (f := Fact.two f f2) (f' := Fact.two f' f2') K.fr ⟨K.holds _ (.head _), K.holds _ (.tail _ (.head _))⟩ (fun g hg => by
    rcases hg with hg | hg
    · exact .inl (e1 ▸ hg)
    · exact .inr (e2 ▸ hg))
  have h1 := List.pairwise_cons.1 H2.apart
  have h2 := H2.holds _ (.head _)
  have ha := List.pairwise_cons.1 H.apart
  refine ⟨H2.fr, fun x hx => ?_, fun x hx g hg => ?_, List.pairwise_cons.2 ⟨fun x hx g hg hxg => ?_, List.pairwise_cons.2 ⟨fun x hx g hg hxg => h1.1 x hx g (.inr hg) hxg, h1.2⟩⟩⟩
  · rcases List.mem_cons.1 hx with rfl | hx
    · exact h2.1
    · rcases List.mem_cons.1 hx with rfl | hx
      · exact h2.2
      · exact H2.holds x (.tail _ hx)
  · rcases List.mem_cons.1 hx with rfl | hx
    · exact H2.own _ (.head _) g (.inl hg)
    · rcases List.mem_cons.1 hx with rfl | hx
      · exact H2.own _ (.head _) g (.inr hg)
      · exact H2.own x (.tail _ hx) g hg
  · rcases List.mem_cons.1 hx with rfl | hx
    · exact ha.1 _ (.head _) g (e1 ▸ hg) (e2 ▸ hxg)
    · exact h1.1 x hx g (.inl hg) hxg
end
abbrev zt : List Value := txC none 0 0 none 0 0 0
/-- A record of which only the kind and the name are read. -/
abbrev Rc.start (k i : Int) : DRecord := ⟨k, i, Rc.zDeal, Rc.z32, 0, 0, Tx.zero⟩
section
variable {r : DRecord} {ct x : List Value} {h s : List UInt8} {n : Int}
theorem rec_le {i m : Nat} (hd : r.deal.hash.length = 32) (hs : r.secret.length = 32) (hc : ct.length = 3) (h : i + m ≤ 80) : i + m ≤ (recC r ct).length := by rw [len_rec hd hs hc]; exact h
theorem spl_r_did : spl (recC r ct) 2 [.int .i64 n] = recC { r with deal := { r.deal with id := n } } ct := by
  have := spl_mid (a := [.int .i64 r.kind, .int .i64 r.id]) (b := [.int .i64 r.deal.id]) (c := [.int .i64 r.deal.role] ++ (legC r.deal.paid ++ (legC r.deal.got ++ (r.deal.hash.map u8v ++ ([.int .i64 r.deal.peer] ++ (r.secret.map u8v ++ ([.int .i64 r.move] ++ ([.int .i64 r.state] ++ ct)))))))) (x := [.int .i64 n]) (k := 2) rfl rfl
  simpa [recC, dealC, legC, List.append_assoc] using this
theorem spl_r_role : spl (recC r ct) 3 [.int .i64 n] = recC { r with deal := { r.deal with role := n } } ct := by
  have := spl_mid (a := [.int .i64 r.kind, .int .i64 r.id, .int .i64 r.deal.id]) (b := [.int .i64 r.deal.role]) (c := legC r.deal.paid ++ (legC r.deal.got ++ (r.deal.hash.map u8v ++ ([.int .i64 r.deal.peer] ++ (r.secret.map u8v ++ ([.int .i64 r.move] ++ ([.int .i64 r.state] ++ ct))))))) (x := [.int .i64 n]) (k := 3) rfl rfl
  simpa [recC, dealC, legC, List.append_assoc] using this
theorem spl_r_paid {l : DLeg} : spl (recC r ct) 4 (legC l) = recC { r with deal := { r.deal with paid := l } } ct := by
  have := spl_mid (a := [.int .i64 r.kind, .int .i64 r.id, .int .i64 r.deal.id, .int .i64 r.deal.role]) (b := legC r.deal.paid) (c := legC r.deal.got ++ (r.deal.hash.map u8v ++ ([.int .i64 r.deal.peer] ++ (r.secret.map u8v ++ ([.int .i64 r.move] ++ ([.int .i64 r.state] ++ ct)))))) (x := legC l) (k := 4) rfl rfl
  simpa [recC, dealC, legC, List.append_assoc] using this
theorem spl_r_got {l : DLeg} : spl (recC r ct) 7 (legC l) = recC { r with deal := { r.deal with got := l } } ct := by
  have := spl_mid (a := [.int .i64 r.kind, .int .i64 r.id, .int .i64 r.deal.id, .int .i64 r.deal.role] ++ legC r.deal.paid) (b := legC r.deal.got) (c := r.deal.hash.map u8v ++ ([.int .i64 r.deal.peer] ++ (r.secret.map u8v ++ ([.int .i64 r.move] ++ ([.int .i64 r.state] ++ ct))))) (x := legC l) (k := 7) rfl rfl
  simpa [recC, dealC, legC, List.append_assoc] using this
theorem spl_r_hash (h0 : r.deal.hash.length = 32) (h1 : h.length = 32) : spl (recC r ct) 10 (h.map u8v) = recC { r with deal := { r.deal with hash := h } } ct := by
  have := spl_mid (a := [.int .i64 r.kind, .int .i64 r.id, .int .i64 r.deal.id, .int .i64 r.deal.role] ++ (legC r.deal.paid ++ legC r.deal.got)) (b := r.deal.hash.map u8v) (c := [.int .i64 r.deal.peer] ++ (r.secret.map u8v ++ ([.int .i64 r.move] ++ ([.int .i64 r.state] ++ ct)))) (x := h.map u8v) (k := 10) rfl (by rw [List.length_map, List.length_map, h0, h1])
  simpa [recC, dealC, legC, List.append_assoc] using this
theorem spl_r_peer (h0 : r.deal.hash.length = 32) : spl (recC r ct) 42 [.int .i64 n] = recC { r with deal := { r.deal with peer := n } } ct := by
  have := spl_mid (a := [.int .i64 r.kind, .int .i64 r.id, .int .i64 r.deal.id, .int .i64 r.deal.role] ++ (legC r.deal.paid ++ (legC r.deal.got ++ r.deal.hash.map u8v))) (b := [.int .i64 r.deal.peer]) (c := r.secret.map u8v ++ ([.int .i64 r.move] ++ ([.int .i64 r.state] ++ ct))) (x := [.int .i64 n]) (k := 42) (by simp [legC, h0]) rfl
  simpa [recC, dealC, legC, List.append_assoc] using this
theorem spl_r_secret (h0 : r.deal.hash.length = 32) (h1 : r.secret.length = 32) (h2 : s.length = 32) : spl (recC r ct) 43 (s.map u8v) = recC { r with secret := s } ct := by
  have := spl_mid (a := [.int .i64 r.kind, .int .i64 r.id] ++ dealC r.deal) (b := r.secret.map u8v) (c := [.int .i64 r.move] ++ ([.int .i64 r.state] ++ ct)) (x := s.map u8v) (k := 43) (by simp [len_deal h0]) (by rw [List.length_map, List.length_map, h1, h2])
  simpa [recC, List.append_assoc] using this
theorem spl_r_id : spl (recC r ct) 1 [.int .i64 n] = recC { r with id := n } ct := by
  have := spl_mid (a := [.int .i64 r.kind]) (b := [.int .i64 r.id]) (c := dealC r.deal ++ (r.secret.map u8v ++ ([.int .i64 r.move] ++ ([.int .i64 r.state] ++ ct)))) (x := [.int .i64 n]) (k := 1) rfl rfl
  simpa [recC, List.append_assoc] using this
theorem spl_r_move (h0 : r.deal.hash.length = 32) (h1 : r.secret.length = 32) : spl (recC r ct) 75 [.int .i64 n] = recC { r with move := n } ct := by
  have := spl_mid (a := [.int .i64 r.kind, .int .i64 r.id] ++ (dealC r.deal ++ r.secret.map u8v)) (b := [.int .i64 r.move]) (c := [.int .i64 r.state] ++ ct) (x := [.int .i64 n]) (k := 75) (by simp [len_deal h0, h1]) rfl
  simpa [recC, List.append_assoc] using this
theorem spl_r_state (h0 : r.deal.hash.length = 32) (h1 : r.secret.length = 32) : spl (recC r ct) 76 [.int .i64 n] = recC { r with state := n } ct := by
  have := spl_mid (a := [.int .i64 r.kind, .int .i64 r.id] ++ (dealC r.deal ++ (r.secret.map u8v ++ [.int .i64 r.move]))) (b := [.int .i64 r.state]) (c := ct) (x := [.int .i64 n]) (k := 76) (by simp [len_deal h0, h1]) rfl
  simpa [recC, List.append_assoc] using this
theorem spl_r_tx {t : DTx} (h0 : r.deal.hash.length = 32) (h1 : r.secret.length = 32) (h2 : x.length = ct.length) : spl (recC r ct) 77 x = recC (Rc.setTx r t) x := by
  have := spl_end (a := [.int .i64 r.kind, .int .i64 r.id] ++ (dealC r.deal ++ (r.secret.map u8v ++ ([.int .i64 r.move] ++ [.int .i64 r.state])))) (b := ct) (x := x) (k := 77) (by simp [len_deal h0, h1]) h2
  simpa [recC, Rc.setTx, List.append_assoc] using this
end
namespace Rc
section
variable {b : List UInt8} {k i : Int} {s : RS}
theorem rEnd_bad (hok : Pk.Ok s) (h : s.2 ≠ 0) : Pk.rEnd s = s.2 := by
  have e := hok.1 h
  unfold Pk.rEnd
  rw [e]
  rfl
theorem body_1 (h : k = 1) : rBody k i s = ((⟨k, i, (rDeal i s).1, z32, 0, 0, Tx.zero⟩, []), (rDeal i s).2) := by unfold rBody; rw [if_pos h]; rfl
theorem body_2 (h : k = 2) : rBody k i s = ((⟨k, i, zDeal, (Pk.rBytes 32 s).1, 0, 0, Tx.zero⟩, []), (Pk.rBytes 32 s).2) := by unfold rBody; rw [if_neg (by omega), if_pos h]; rfl
theorem body_3 (h : k = 3) : rBody k i s = ((⟨k, i, zDeal, z32, ((Pk.rInt s).1 : Int), 0, Tx.zero⟩, (Pk.rBlob 400 (Pk.rInt s).2).1), (Pk.rBlob 400 (Pk.rInt s).2).2) := by unfold rBody; rw [if_neg (by omega), if_neg (by omega), if_pos h]; rfl
theorem body_4 (h : k = 4) : rBody k i s = ((⟨k, i, zDeal, z32, 0, ((Pk.rInt s).1 : Int), Tx.zero⟩, []), (Pk.rInt s).2) := by unfold rBody; rw [if_neg (by omega), if_neg (by omega), if_neg (by omega)]; rfl
theorem body_tx : (rBody k i s).1.1.tx = Tx.zero := by
  unfold rBody
  split
  · rfl
  · split
    · rfl
    · split <;> rfl
theorem len_rBlob {m : Int} {s : RS} (hm : 0 ≤ m) : ((Pk.rBlob m s).1.length : Int) ≤ m := by
  have h := count_bound (m := m) (s := s) hm
  unfold Pk.rBlob Pk.next
  split
  · simpa using hm
  · split
    · simpa using hm
    · rw [List.length_take]; omega
theorem body_len : (rBody k i s).1.2.length ≤ 400 := by
  unfold rBody
  split
  · simp [rMap]
  · split
    · simp [rMap]
    · split
      · have := len_rBlob (m := 400) (s := (Pk.rInt s).2) (by decide)
        have h2 : ((Pk.rBlob 400 (Pk.rInt s).2).1.length : Int) ≤ 400 := this
        show (Pk.rBlob 400 (Pk.rInt s).2).1.length ≤ 400
        omega
      · simp [rMap]
/- The stages of a record's reading. -/
abbrev hK (b : List UInt8) : Int := ((Pk.rInt (b, 0)).1 : Int)
abbrev hS1 (b : List UInt8) : RS := (Pk.rInt (b, 0)).2
abbrev hI (b : List UInt8) : Int := ((Pk.rInt (hS1 b)).1 : Int)
abbrev hS2 (b : List UInt8) : RS := (Pk.rInt (hS1 b)).2
abbrev hB (b : List UInt8) : (DRecord × List UInt8) × RS := rBody (hK b) (hI b) (hS2 b)
theorem get_e1 (h : (hS2 b).2 ≠ 0) : get b = (zero, (hS2 b).2) := by
  unfold get
  have e : (rHead (b, 0)).2 = hS2 b := rfl
  rw [e, if_pos h]
theorem get_e2 (h : (hS2 b).2 = 0) (hk : hK b < 1 ∨ 4 < hK b) : get b = (zero, 2) := by
  unfold get
  have e : rHead (b, 0) = ((hK b, hI b), hS2 b) := rfl
  rw [e]
  dsimp only
  rw [if_neg (by simpa using h), if_pos hk]
theorem get_e3 (h : (hS2 b).2 = 0) (hk : 1 ≤ hK b ∧ hK b ≤ 4) : get b = fin b.length (hB b) := by
  unfold get
  have e : rHead (b, 0) = ((hK b, hI b), hS2 b) := rfl
  rw [e]
  dsimp only
  rw [if_neg (by simpa using h), if_neg (by omega)]
theorem fin_e1 {n : Nat} {x : (DRecord × List UInt8) × RS} (h : Pk.rEnd x.2 ≠ 0) : fin n x = (zero, Pk.rEnd x.2) := by unfold fin; rw [if_pos h]
theorem fin_e2 {n : Nat} {x : (DRecord × List UInt8) × RS} (h : Pk.rEnd x.2 = 0) (ht : x.1.2 = []) : fin n x = fin2 n x.1.1 := by unfold fin; rw [if_neg (by simpa using h), if_pos ht]
theorem fin_e3 {n : Nat} {x : (DRecord × List UInt8) × RS} (h : Pk.rEnd x.2 = 0) (ht : x.1.2 ≠ []) (hg : (Tx.get x.1.2).2 ≠ 0) : fin n x = (zero, (Tx.get x.1.2).2) := by unfold fin; rw [if_neg (by simpa using h), if_neg ht, if_pos hg]
theorem fin_e4 {n : Nat} {x : (DRecord × List UInt8) × RS} (h : Pk.rEnd x.2 = 0) (ht : x.1.2 ≠ []) (hg : (Tx.get x.1.2).2 = 0) : fin n x = fin2 n (setTx x.1.1 (Tx.get x.1.2).1) := by unfold fin; rw [if_neg (by simpa using h), if_neg ht, if_neg (by simpa using hg)]
theorem fin2_e1 {n : Nat} {r : DRecord} (h : chk r ≠ 0) : fin2 n r = (zero, chk r) := by unfold fin2; rw [if_pos h]
theorem fin2_e2 {n : Nat} {r : DRecord} (h : chk r = 0) (hn : 400 < n) : fin2 n r = (zero, 5) := by unfold fin2; rw [if_neg (by simpa using h), if_pos hn]
theorem fin2_e3 {n : Nat} {r : DRecord} (h : chk r = 0) (hn : ¬ 400 < n) : fin2 n r = (r, 0) := by unfold fin2; rw [if_neg (by simpa using h), if_neg hn]
end
end Rc
/-- What a call of record.Get leaves. -/
def GotRec (w : World) (b : List UInt8) (v : Value) (w' : World) : Prop := ∃ ct S, v = .tuple #[.agg (recC (Rc.get b).1 ct).toArray, .int .i64 (Rc.get b).2] ∧ St nT w w' [Fact.rep RTx S ct (Rc.get b).1.tx]
theorem GotRec.rep {w W W' : World} {T : Nat → Prop} {L : List Fact} {b : List UInt8} {v : Value} (h : GotRec W b v W') (H : St T w W L) : ∃ S A c B d, v = .tuple #[.agg (recC (Rc.get b).1 (txC A (Rc.get b).1.tx.ins.length c B (Rc.get b).1.tx.outs.length d (Rc.get b).1.tx.lock)).toArray, .int .i64 (Rc.get b).2] ∧ St T w W' (Fact.rep RTx S (txC A (Rc.get b).1.tx.ins.length c B (Rc.get b).1.tx.outs.length d (Rc.get b).1.tx.lock) (Rc.get b).1.tx :: L) := by
  obtain ⟨ct, S, rfl, K⟩ := h
  have K' := H.add1 K
  obtain ⟨A, c, B, d, rfl, _⟩ := tx_of (K'.rep1 (R := RTx) (S := S) (cs := ct) (a := (Rc.get b).1.tx))
  exact ⟨S, A, c, B, d, rfl, K'⟩
end Go.Proofs.YtfjhmecmhchbdaaGreatDoor

namespace Go.Proofs.YtfjhmecmhchbdaaGreatDoor
open Go Go.RowKit
attribute [local irreducible] wpList

set_option maxHeartbeats 4000000 in
theorem legRd {A0 : Option Addr} {c0 r : Nat} {b : List UInt8} {s : RS} (w : World) (hR : (RdYP 5 102 r A0 b.length c0 (· = b) s).p w) (hok : Pk.Ok s) (hG : Gat w 0 formsC) (h0 : ¬ (RdT r A0 b.length c0) 0) : Calls Tryz.prog 77 [.pointer (some ⟨r, 0, none⟩)].toArray w (Ret (fun v' w' => v' = .agg (legC (Rc.rLeg s).1).toArray ∧ (RdYP 5 102 r A0 b.length c0 (· = b) (Rc.rLeg s).2).p w' ∧ Fr (RdT r A0 b.length c0) w w')) := by
  have H0 := St.begin (f := RdYP 5 102 r A0 b.length c0 (· = b) s) hR (RdB.lt hR)
  refine k_enter (l := [_]) Tryz.func77 rfl rfl ?_
  have H := H0
  refine k_seq ?_
  refine k_region ?_
  refine s_eff (e_alloc (w_none rfl) rfl rfl [.int .i64 0, .int .i64 0, .int .i64 0] tz23 H ?_)
  clear H; intro go W H
  refine l_nil ?_
  refine k_seq ?_
  refine k_region ?_
  refine s_run (w_none rfl) rfl (mv_p rfl rfl) ?_
  refine s_eff (e_call (w_none rfl) rfl rfl Tryz.func43 rfl rfl rfl (prgInt _ (H.get (f := RdYP 5 102 r A0 b.length c0 (· = b) s)) hok (H.gatT hG h0) h0) ?_)
  rintro _ W ⟨rfl, hp_, hf_⟩
  replace H := H.mut (f := RdYP 5 102 r A0 b.length c0 (· = b) s) (f' := RdYP 5 102 r A0 b.length c0 (· = b) (Pk.rInt s).2) hf_ hp_ (fun _ h => h)
  clear hp_ hf_
  refine s_run (w_none rfl) rfl (d_fa rfl rfl tf23_0) ?_
  refine s_eff (e_sto (w_none rfl) rfl rfl rfl rfl rfl ts3 rfl H rfl ?_)
  clear H; intro W H
  refine l_nil ?_
  refine k_seq ?_
  refine k_region ?_
  refine s_run (w_none rfl) rfl (mv_p rfl rfl) ?_
  refine s_eff (e_call (w_none rfl) rfl rfl Tryz.func43 rfl rfl rfl (prgInt _ (H.get (f := RdYP 5 102 r A0 b.length c0 (· = b) (Pk.rInt s).2)) (Pk.ok_rInt hok) (H.gatT hG h0) h0) ?_)
  rintro _ W ⟨rfl, hp_, hf_⟩
  replace H := H.mut (f := RdYP 5 102 r A0 b.length c0 (· = b) (Pk.rInt s).2) (f' := RdYP 5 102 r A0 b.length c0 (· = b) (Pk.rInt (Pk.rInt s).2).2) hf_ hp_ (fun _ h => h)
  clear hp_ hf_
  refine s_run (w_none rfl) rfl (d_fa rfl rfl tf23_1) ?_
  refine s_eff (e_sto (w_none rfl) rfl rfl rfl rfl rfl ts3 rfl H rfl ?_)
  clear H; intro W H
  refine l_nil ?_
  refine k_seq ?_
  refine k_region ?_
  refine s_run (w_none rfl) rfl (mv_p rfl rfl) ?_
  refine s_eff (e_call (w_none rfl) rfl rfl Tryz.func43 rfl rfl rfl (prgInt _ (H.get (f := RdYP 5 102 r A0 b.length c0 (· = b) (Pk.rInt (Pk.rInt s).2).2)) (Pk.ok_rInt (Pk.ok_rInt hok)) (H.gatT hG h0) h0) ?_)
  rintro _ W ⟨rfl, hp_, hf_⟩
  replace H := H.mut (f := RdYP 5 102 r A0 b.length c0 (· = b) (Pk.rInt (Pk.rInt s).2).2) (f' := RdYP 5 102 r A0 b.length c0 (· = b) (Pk.rInt (Pk.rInt (Pk.rInt s).2).2).2) hf_ hp_ (fun _ h => h)
  clear hp_ hf_
  refine s_run (w_none rfl) rfl (d_fa rfl rfl tf23_2) ?_
  refine s_eff (e_sto (w_none rfl) rfl rfl rfl rfl rfl ts3 rfl H rfl ?_)
  clear H; intro W H
  refine l_nil ?_
  refine k_seq ?_
  refine k_region ?_
  refine s_run (w_none rfl) rfl (d_ldm0 (g := go) rfl H rfl ta23 ts23 rfl) ?_
  refine s_eff (e_stoK (legC (Rc.rLeg s).1) (w_none rfl) rfl rfl rfl rfl rfl ts23 rfl rfl H (Nat.le_of_ble_eq_true rfl) rfl ?_)
  clear H; intro W H
  refine l_nil ?_
  refine k_ret ?_
  repeat (first | refine r_then ?_ | refine r_blk ?_)
  exact q_retc rfl (c := legC (Rc.rLeg s).1) (g := go) H rfl ta23 ts23 ⟨_, rfl, rfl, H.get (f := RdYP 5 102 r A0 b.length c0 (· = b) (Pk.rInt (Pk.rInt (Pk.rInt s).2).2).2), H.fr⟩

set_option maxHeartbeats 4000000 in
theorem restRd {k i : Int} {rr : Nat} {A0 : Option Addr} {c0 r : Nat} {b : List UInt8} {s : RS} (w : World) (hR : (RdYP 5 102 r A0 b.length c0 (· = b) s).p w) (hB : (Fact.blk rr (recC (Rc.start k i) zt) 33).p w) (ha : ¬ (RdT r A0 b.length c0) rr) (hok : Pk.Ok s) (hG : Gat w 0 formsC) (h0 : ¬ (RdT r A0 b.length c0) 0) (h1r : ¬ 0 = rr) (hkk : 1 ≤ k ∧ k ≤ 4) : Calls Tryz.prog 46 [.pointer (some ⟨r, 0, none⟩), .pointer (some ⟨rr, 0, none⟩)].toArray w (Ret (fun v' w' => ∃ B d, v' = .slice B (Rc.rBody k i s).1.2.length d ∧ HeldP A0 b.length b (.slice B (Rc.rBody k i s).1.2.length d) (Rc.rBody k i s).1.2 ∧ St (Fact.two (RdYP 5 102 r A0 b.length c0 (· = b) s) (Fact.blk rr (recC (Rc.start k i) zt) 33)).fp w w' [RdYP 5 102 r A0 b.length c0 (· = b) (Rc.rBody k i s).2, Fact.blk rr (recC (Rc.rBody k i s).1.1 zt) 33])) := by
  have H0 := St.begin2 (f := RdYP 5 102 r A0 b.length c0 (· = b) s) (f2 := Fact.blk rr (recC (Rc.start k i) zt) 33) hR (RdB.lt hR) hB (fun g hg => by obtain rfl : g = rr := hg; exact blk_lt hB) (fun g hg e => by obtain rfl : g = rr := e; exact ha hg)
  have hT2 : ¬ (Fact.two (RdYP 5 102 r A0 b.length c0 (· = b) s) (Fact.blk rr (recC (Rc.start k i) zt) 33)).fp 0 := fun h => h.elim h0 h1r
  refine k_enter (l := [_, _]) Tryz.func46 rfl rfl ?_
  have H := H0
  refine k_seq ?_
  refine k_region ?_
  refine s_run (w_none rfl) rfl (as_s rfl rfl) ?_
  refine l_nil ?_
  refine k_seq ?_
  refine k_seq ?_
  refine k_region ?_
  refine s_run (w_none rfl) rfl (mv_p rfl rfl) ?_
  refine s_run (w_none rfl) rfl (d_nil rfl rfl) ?_
  refine s_run (w_none rfl) rfl (d_fa rfl rfl tf33_2) ?_
  refine s_run (w_none rfl) rfl (as_p rfl rfl) ?_
  refine l_nil ?_
  refine k_seq ?_
  rcases (show k = 1 ∨ k = 2 ∨ k = 3 ∨ k = 4 by omega) with h1 | h1 | h1 | h1
  · skip
    refine k_region ?_
    refine s_run (w_none rfl) rfl (mv_p rfl rfl) ?_
    refine s_run (w_none rfl) rfl (d_nil rfl rfl) ?_
    refine s_run (w_none rfl) rfl (d_fa rfl rfl tf33_0) ?_
    refine s_run (w_none rfl) rfl (d_ldX (g := rr) (off := 0) rfl H rfl rfl rfl ta3) ?_
    refine l_nil ?_
    refine k_block ?_
    refine k_seq ?_
    refine k_region ?_
    refine s_run (w_none rfl) rfl (d_eq rfl rfl rfl) ?_
    refine s_run (w_none rfl) rfl (as_b rfl rfl) ?_
    refine l_nil ?_
    refine k_condT rfl (by first | rfl | (simp; omega) | (simp; done) | simp_all) ?_
    refine k_seq ?_
    refine k_region ?_
    refine s_run (w_none rfl) rfl (mv_p rfl rfl) ?_
    refine s_run (w_none rfl) rfl (mv_p rfl rfl) ?_
    refine s_run (w_none rfl) rfl (d_nil rfl rfl) ?_
    refine s_run (w_none rfl) rfl (d_fa rfl rfl tf33_1) ?_
    refine s_run (w_none rfl) rfl (d_ldX (g := rr) (off := 1) rfl H rfl rfl rfl ta3) ?_
    refine s_run (w_none rfl) rfl (d_nil rfl rfl) ?_
    refine s_run (w_none rfl) rfl (d_fa rfl rfl tf27_0) ?_
    refine s_eff (e_stoK (v := .int .i64 i) (vs := [.int .i64 i]) (recC ⟨k, i, ⟨i, 0, Rc.zLeg, Rc.zLeg, Rc.z32, 0⟩, Rc.z32, 0, 0, Tx.zero⟩ zt) (w_none rfl) rfl rfl rfl rfl rfl ts3 rfl rfl H (rec_le rfl rfl rfl (by decide)) spl_r_did ?_)
    clear H; intro W H
    refine l_nil ?_
    refine k_seq ?_
    refine k_region ?_
    refine s_run (w_none rfl) rfl (mv_p rfl rfl) ?_
    refine s_run (w_none rfl) rfl (mv_p rfl rfl) ?_
    refine s_eff (e_call (w_none rfl) rfl rfl Tryz.func43 rfl rfl rfl (prgInt _ (H.get (f := RdYP 5 102 r A0 b.length c0 (· = b) s)) hok (H.gatT hG hT2) h0) ?_)
    rintro _ W ⟨rfl, hp_, hf_⟩
    replace H := H.mut (f := RdYP 5 102 r A0 b.length c0 (· = b) s) (f' := RdYP 5 102 r A0 b.length c0 (· = b) (Pk.rInt s).2) hf_ hp_ (fun _ h => h)
    clear hp_ hf_
    refine s_run (w_none rfl) rfl (d_nil rfl rfl) ?_
    refine s_run (w_none rfl) rfl (d_fa rfl rfl tf27_1) ?_
    refine s_eff (e_stoK (v := .int .i64 ((Pk.rInt s).1 : Int)) (vs := [.int .i64 ((Pk.rInt s).1 : Int)]) (recC ⟨k, i, ⟨i, ((Pk.rInt s).1 : Int), Rc.zLeg, Rc.zLeg, Rc.z32, 0⟩, Rc.z32, 0, 0, Tx.zero⟩ zt) (w_none rfl) rfl rfl rfl rfl rfl ts3 rfl rfl H (rec_le rfl rfl rfl (by decide)) spl_r_role ?_)
    clear H; intro W H
    refine l_nil ?_
    refine k_seq ?_
    refine k_region ?_
    refine s_run (w_none rfl) rfl (mv_p rfl rfl) ?_
    refine s_run (w_none rfl) rfl (mv_p rfl rfl) ?_
    refine s_eff (e_call (w_none rfl) rfl rfl Tryz.func77 rfl rfl rfl (legRd _ (H.get (f := RdYP 5 102 r A0 b.length c0 (· = b) (Pk.rInt s).2)) (Pk.ok_rInt hok) (H.gatT hG hT2) h0) ?_)
    rintro _ W ⟨rfl, hp_, hf_⟩
    replace H := H.mut (f := RdYP 5 102 r A0 b.length c0 (· = b) (Pk.rInt s).2) (f' := RdYP 5 102 r A0 b.length c0 (· = b) (Rc.rLeg (Pk.rInt s).2).2) hf_ hp_ (fun _ h => h)
    clear hp_ hf_
    refine s_run (w_none rfl) rfl (d_nil rfl rfl) ?_
    refine s_run (w_none rfl) rfl (d_fa rfl rfl tf27_2) ?_
    refine s_eff (e_stoK (recC ⟨k, i, ⟨i, ((Pk.rInt s).1 : Int), (Rc.rLeg (Pk.rInt s).2).1, Rc.zLeg, Rc.z32, 0⟩, Rc.z32, 0, 0, Tx.zero⟩ zt) (w_none rfl) rfl rfl rfl rfl rfl ts23 rfl rfl H (rec_le rfl rfl rfl (by decide)) spl_r_paid ?_)
    clear H; intro W H
    refine l_nil ?_
    refine k_seq ?_
    refine k_region ?_
    refine s_run (w_none rfl) rfl (mv_p rfl rfl) ?_
    refine s_run (w_none rfl) rfl (mv_p rfl rfl) ?_
    refine s_eff (e_call (w_none rfl) rfl rfl Tryz.func77 rfl rfl rfl (legRd _ (H.get (f := RdYP 5 102 r A0 b.length c0 (· = b) (Rc.rLeg (Pk.rInt s).2).2)) (Rc.sane_leg.2 _ (Pk.ok_rInt hok)) (H.gatT hG hT2) h0) ?_)
    rintro _ W ⟨rfl, hp_, hf_⟩
    replace H := H.mut (f := RdYP 5 102 r A0 b.length c0 (· = b) (Rc.rLeg (Pk.rInt s).2).2) (f' := RdYP 5 102 r A0 b.length c0 (· = b) (Rc.rLeg (Rc.rLeg (Pk.rInt s).2).2).2) hf_ hp_ (fun _ h => h)
    clear hp_ hf_
    refine s_run (w_none rfl) rfl (d_nil rfl rfl) ?_
    refine s_run (w_none rfl) rfl (d_fa rfl rfl tf27_3) ?_
    refine s_eff (e_stoK (recC ⟨k, i, ⟨i, ((Pk.rInt s).1 : Int), (Rc.rLeg (Pk.rInt s).2).1, (Rc.rLeg (Rc.rLeg (Pk.rInt s).2).2).1, Rc.z32, 0⟩, Rc.z32, 0, 0, Tx.zero⟩ zt) (w_none rfl) rfl rfl rfl rfl rfl ts23 rfl rfl H (rec_le rfl rfl rfl (by decide)) spl_r_got ?_)
    clear H; intro W H
    refine l_nil ?_
    refine k_seq ?_
    refine k_region ?_
    refine s_run (w_none rfl) rfl (mv_p rfl rfl) ?_
    refine s_run (w_none rfl) rfl (mv_p rfl rfl) ?_
    refine s_eff (e_call (w_none rfl) rfl rfl Tryz.func78 rfl rfl rfl (prgHash _ (H.get (f := RdYP 5 102 r A0 b.length c0 (· = b) (Rc.rLeg (Rc.rLeg (Pk.rInt s).2).2).2)) (Rc.sane_leg.2 _ (Rc.sane_leg.2 _ (Pk.ok_rInt hok)))) ?_)
    rintro _ W ⟨rfl, hp_, hf_⟩
    replace H := H.mut (f := RdYP 5 102 r A0 b.length c0 (· = b) (Rc.rLeg (Rc.rLeg (Pk.rInt s).2).2).2) (f' := RdYP 5 102 r A0 b.length c0 (· = b) (Pk.rBytes 32 (Rc.rLeg (Rc.rLeg (Pk.rInt s).2).2).2).2) hf_ hp_ (fun _ h => h)
    clear hp_ hf_
    refine s_run (w_none rfl) rfl (d_nil rfl rfl) ?_
    refine s_run (w_none rfl) rfl (d_fa rfl rfl tf27_4) ?_
    refine s_eff (e_stoK (recC ⟨k, i, ⟨i, ((Pk.rInt s).1 : Int), (Rc.rLeg (Pk.rInt s).2).1, (Rc.rLeg (Rc.rLeg (Pk.rInt s).2).2).1, (Pk.rBytes 32 (Rc.rLeg (Rc.rLeg (Pk.rInt s).2).2).2).1, 0⟩, Rc.z32, 0, 0, Tx.zero⟩ zt) (w_none rfl) rfl rfl rfl rfl rfl ts25 (by rw [List.length_map]; exact Pk.len_rBytes) (all_u8L _) H (rec_le rfl rfl rfl (by decide)) (spl_r_hash rfl Pk.len_rBytes) ?_)
    clear H; intro W H
    refine l_nil ?_
    refine k_region ?_
    refine s_run (w_none rfl) rfl (mv_p rfl rfl) ?_
    refine s_run (w_none rfl) rfl (mv_p rfl rfl) ?_
    refine s_eff (e_call (w_none rfl) rfl rfl Tryz.func43 rfl rfl rfl (prgInt _ (H.get (f := RdYP 5 102 r A0 b.length c0 (· = b) (Pk.rBytes 32 (Rc.rLeg (Rc.rLeg (Pk.rInt s).2).2).2).2)) (Pk.ok_next (Rc.sane_leg.2 _ (Rc.sane_leg.2 _ (Pk.ok_rInt hok)))) (H.gatT hG hT2) h0) ?_)
    rintro _ W ⟨rfl, hp_, hf_⟩
    replace H := H.mut (f := RdYP 5 102 r A0 b.length c0 (· = b) (Pk.rBytes 32 (Rc.rLeg (Rc.rLeg (Pk.rInt s).2).2).2).2) (f' := RdYP 5 102 r A0 b.length c0 (· = b) (Pk.rInt (Pk.rBytes 32 (Rc.rLeg (Rc.rLeg (Pk.rInt s).2).2).2).2).2) hf_ hp_ (fun _ h => h)
    clear hp_ hf_
    refine s_run (w_none rfl) rfl (d_nil rfl rfl) ?_
    refine s_run (w_none rfl) rfl (d_fa rfl rfl tf27_5) ?_
    refine s_eff (e_stoK (v := .int .i64 ((Pk.rInt (Pk.rBytes 32 (Rc.rLeg (Rc.rLeg (Pk.rInt s).2).2).2).2).1 : Int)) (vs := [.int .i64 ((Pk.rInt (Pk.rBytes 32 (Rc.rLeg (Rc.rLeg (Pk.rInt s).2).2).2).2).1 : Int)]) (recC ⟨k, i, ⟨i, ((Pk.rInt s).1 : Int), (Rc.rLeg (Pk.rInt s).2).1, (Rc.rLeg (Rc.rLeg (Pk.rInt s).2).2).1, (Pk.rBytes 32 (Rc.rLeg (Rc.rLeg (Pk.rInt s).2).2).2).1, ((Pk.rInt (Pk.rBytes 32 (Rc.rLeg (Rc.rLeg (Pk.rInt s).2).2).2).2).1 : Int)⟩, Rc.z32, 0, 0, Tx.zero⟩ zt) (w_none rfl) rfl rfl rfl rfl rfl ts3 rfl rfl H (rec_le Pk.len_rBytes rfl rfl (by decide)) (spl_r_peer Pk.len_rBytes) ?_)
    clear H; intro W H
    refine l_nil ?_
    refine k_nil ?_
    refine b_end ?_
    refine k_seq ?_
    refine k_region ?_
    refine s_run (w_none rfl) rfl (mv_s rfl rfl) ?_
    refine s_run (w_none rfl) rfl (as_s rfl rfl) ?_
    refine l_nil ?_
    refine k_ret ?_
    repeat (first | refine r_then ?_ | refine r_blk ?_)
    rw [Rc.body_1 h1]
    exact q_ret (v := .slice _ _ _) rfl rfl ⟨_, rfl, none, 0, rfl, held_nil, H⟩
  · skip
    refine k_region ?_
    refine s_run (w_none rfl) rfl (mv_p rfl rfl) ?_
    refine s_run (w_none rfl) rfl (d_nil rfl rfl) ?_
    refine s_run (w_none rfl) rfl (d_fa rfl rfl tf33_0) ?_
    refine s_run (w_none rfl) rfl (d_ldX (g := rr) (off := 0) rfl H rfl rfl rfl ta3) ?_
    refine l_nil ?_
    refine k_block ?_
    refine k_seq ?_
    refine k_region ?_
    refine s_run (w_none rfl) rfl (d_eq rfl rfl rfl) ?_
    refine s_run (w_none rfl) rfl (as_b rfl rfl) ?_
    refine l_nil ?_
    refine k_condF rfl (by first | rfl | (simp; omega) | (simp; done) | simp_all) ?_
    refine k_seq ?_
    refine k_region ?_
    refine s_run (w_none rfl) rfl (d_eq rfl rfl rfl) ?_
    refine s_run (w_none rfl) rfl (as_b rfl rfl) ?_
    refine l_nil ?_
    refine k_condT rfl (by first | rfl | (simp; omega) | (simp; done) | simp_all) ?_
    refine k_region ?_
    refine s_run (w_none rfl) rfl (mv_p rfl rfl) ?_
    refine s_run (w_none rfl) rfl (mv_p rfl rfl) ?_
    refine s_eff (e_call (w_none rfl) rfl rfl Tryz.func78 rfl rfl rfl (prgHash _ (H.get (f := RdYP 5 102 r A0 b.length c0 (· = b) s)) hok) ?_)
    rintro _ W ⟨rfl, hp_, hf_⟩
    replace H := H.mut (f := RdYP 5 102 r A0 b.length c0 (· = b) s) (f' := RdYP 5 102 r A0 b.length c0 (· = b) (Pk.rBytes 32 s).2) hf_ hp_ (fun _ h => h)
    clear hp_ hf_
    refine s_run (w_none rfl) rfl (d_nil rfl rfl) ?_
    refine s_run (w_none rfl) rfl (d_fa rfl rfl tf33_3) ?_
    refine s_eff (e_stoK (recC ⟨k, i, Rc.zDeal, (Pk.rBytes 32 s).1, 0, 0, Tx.zero⟩ zt) (w_none rfl) rfl rfl rfl rfl rfl ts25 (by rw [List.length_map]; exact Pk.len_rBytes) (all_u8L _) H (rec_le rfl rfl rfl (by decide)) (spl_r_secret rfl rfl Pk.len_rBytes) ?_)
    clear H; intro W H
    refine l_nil ?_
    refine k_nil ?_
    refine b_end ?_
    refine k_seq ?_
    refine k_region ?_
    refine s_run (w_none rfl) rfl (mv_s rfl rfl) ?_
    refine s_run (w_none rfl) rfl (as_s rfl rfl) ?_
    refine l_nil ?_
    refine k_ret ?_
    repeat (first | refine r_then ?_ | refine r_blk ?_)
    rw [Rc.body_2 h1]
    exact q_ret (v := .slice _ _ _) rfl rfl ⟨_, rfl, none, 0, rfl, held_nil, H⟩
  · skip
    refine k_region ?_
    refine s_run (w_none rfl) rfl (mv_p rfl rfl) ?_
    refine s_run (w_none rfl) rfl (d_nil rfl rfl) ?_
    refine s_run (w_none rfl) rfl (d_fa rfl rfl tf33_0) ?_
    refine s_run (w_none rfl) rfl (d_ldX (g := rr) (off := 0) rfl H rfl rfl rfl ta3) ?_
    refine l_nil ?_
    refine k_block ?_
    refine k_seq ?_
    refine k_region ?_
    refine s_run (w_none rfl) rfl (d_eq rfl rfl rfl) ?_
    refine s_run (w_none rfl) rfl (as_b rfl rfl) ?_
    refine l_nil ?_
    refine k_condF rfl (by first | rfl | (simp; omega) | (simp; done) | simp_all) ?_
    refine k_seq ?_
    refine k_region ?_
    refine s_run (w_none rfl) rfl (d_eq rfl rfl rfl) ?_
    refine s_run (w_none rfl) rfl (as_b rfl rfl) ?_
    refine l_nil ?_
    refine k_condF rfl (by first | rfl | (simp; omega) | (simp; done) | simp_all) ?_
    refine k_seq ?_
    refine k_region ?_
    refine s_run (w_none rfl) rfl (d_eq rfl rfl rfl) ?_
    refine s_run (w_none rfl) rfl (as_b rfl rfl) ?_
    refine l_nil ?_
    refine k_condT rfl (by first | rfl | (simp; omega) | (simp; done) | simp_all) ?_
    refine k_seq ?_
    refine k_region ?_
    refine s_run (w_none rfl) rfl (mv_p rfl rfl) ?_
    refine s_run (w_none rfl) rfl (mv_p rfl rfl) ?_
    refine s_eff (e_call (w_none rfl) rfl rfl Tryz.func43 rfl rfl rfl (prgInt _ (H.get (f := RdYP 5 102 r A0 b.length c0 (· = b) s)) hok (H.gatT hG hT2) h0) ?_)
    rintro _ W ⟨rfl, hp_, hf_⟩
    replace H := H.mut (f := RdYP 5 102 r A0 b.length c0 (· = b) s) (f' := RdYP 5 102 r A0 b.length c0 (· = b) (Pk.rInt s).2) hf_ hp_ (fun _ h => h)
    clear hp_ hf_
    refine s_run (w_none rfl) rfl (d_nil rfl rfl) ?_
    refine s_run (w_none rfl) rfl (d_fa rfl rfl tf33_4) ?_
    refine s_eff (e_stoK (v := .int .i64 ((Pk.rInt s).1 : Int)) (vs := [.int .i64 ((Pk.rInt s).1 : Int)]) (recC ⟨k, i, Rc.zDeal, Rc.z32, ((Pk.rInt s).1 : Int), 0, Tx.zero⟩ zt) (w_none rfl) rfl rfl rfl rfl rfl ts3 rfl rfl H (rec_le rfl rfl rfl (by decide)) (spl_r_move rfl rfl) ?_)
    clear H; intro W H
    refine l_nil ?_
    refine k_region ?_
    refine s_run (w_none rfl) rfl (mv_p rfl rfl) ?_
    refine s_eff (e_call (w_none rfl) rfl rfl Tryz.func79 rfl rfl rfl (prgBlob (m := 400) _ (H.get (f := RdYP 5 102 r A0 b.length c0 (· = b) (Pk.rInt s).2)) (Pk.ok_rInt hok) (H.gatT hG hT2) h0) ?_)
    rintro _ W ⟨hp_, hf_⟩
    obtain ⟨B1, d1, rfl⟩ := RdB.form hp_
    have hH := held_of hp_
    replace H := H.mut (f := RdYP 5 102 r A0 b.length c0 (· = b) (Pk.rInt s).2) (f' := RdYP 5 102 r A0 b.length c0 (· = b) (Pk.rBlob 400 (Pk.rInt s).2).2) hf_ (RdB.toP hp_) (fun _ h => h)
    clear hp_ hf_
    refine s_run (w_none rfl) rfl (as_s rfl rfl) ?_
    refine l_nil ?_
    refine k_nil ?_
    refine b_end ?_
    refine k_seq ?_
    refine k_region ?_
    refine s_run (w_none rfl) rfl (mv_s rfl rfl) ?_
    refine s_run (w_none rfl) rfl (as_s rfl rfl) ?_
    refine l_nil ?_
    refine k_ret ?_
    repeat (first | refine r_then ?_ | refine r_blk ?_)
    rw [Rc.body_3 h1]
    exact q_ret (v := .slice _ _ _) rfl rfl ⟨_, rfl, B1, d1, rfl, hH, H⟩
  · skip
    refine k_region ?_
    refine s_run (w_none rfl) rfl (mv_p rfl rfl) ?_
    refine s_run (w_none rfl) rfl (d_nil rfl rfl) ?_
    refine s_run (w_none rfl) rfl (d_fa rfl rfl tf33_0) ?_
    refine s_run (w_none rfl) rfl (d_ldX (g := rr) (off := 0) rfl H rfl rfl rfl ta3) ?_
    refine l_nil ?_
    refine k_block ?_
    refine k_seq ?_
    refine k_region ?_
    refine s_run (w_none rfl) rfl (d_eq rfl rfl rfl) ?_
    refine s_run (w_none rfl) rfl (as_b rfl rfl) ?_
    refine l_nil ?_
    refine k_condF rfl (by first | rfl | (simp; omega) | (simp; done) | simp_all) ?_
    refine k_seq ?_
    refine k_region ?_
    refine s_run (w_none rfl) rfl (d_eq rfl rfl rfl) ?_
    refine s_run (w_none rfl) rfl (as_b rfl rfl) ?_
    refine l_nil ?_
    refine k_condF rfl (by first | rfl | (simp; omega) | (simp; done) | simp_all) ?_
    refine k_seq ?_
    refine k_region ?_
    refine s_run (w_none rfl) rfl (d_eq rfl rfl rfl) ?_
    refine s_run (w_none rfl) rfl (as_b rfl rfl) ?_
    refine l_nil ?_
    refine k_condF rfl (by first | rfl | (simp; omega) | (simp; done) | simp_all) ?_
    refine k_seq ?_
    refine k_region ?_
    refine s_run (w_none rfl) rfl (d_eq rfl rfl rfl) ?_
    refine s_run (w_none rfl) rfl (as_b rfl rfl) ?_
    refine l_nil ?_
    refine k_condT rfl (by first | rfl | (simp; omega) | (simp; done) | simp_all) ?_
    refine k_region ?_
    refine s_run (w_none rfl) rfl (mv_p rfl rfl) ?_
    refine s_run (w_none rfl) rfl (mv_p rfl rfl) ?_
    refine s_eff (e_call (w_none rfl) rfl rfl Tryz.func43 rfl rfl rfl (prgInt _ (H.get (f := RdYP 5 102 r A0 b.length c0 (· = b) s)) hok (H.gatT hG hT2) h0) ?_)
    rintro _ W ⟨rfl, hp_, hf_⟩
    replace H := H.mut (f := RdYP 5 102 r A0 b.length c0 (· = b) s) (f' := RdYP 5 102 r A0 b.length c0 (· = b) (Pk.rInt s).2) hf_ hp_ (fun _ h => h)
    clear hp_ hf_
    refine s_run (w_none rfl) rfl (d_nil rfl rfl) ?_
    refine s_run (w_none rfl) rfl (d_fa rfl rfl tf33_5) ?_
    refine s_eff (e_stoK (v := .int .i64 ((Pk.rInt s).1 : Int)) (vs := [.int .i64 ((Pk.rInt s).1 : Int)]) (recC ⟨k, i, Rc.zDeal, Rc.z32, 0, ((Pk.rInt s).1 : Int), Tx.zero⟩ zt) (w_none rfl) rfl rfl rfl rfl rfl ts3 rfl rfl H (rec_le rfl rfl rfl (by decide)) (spl_r_state rfl rfl) ?_)
    clear H; intro W H
    refine l_nil ?_
    refine k_nil ?_
    refine b_end ?_
    refine k_seq ?_
    refine k_region ?_
    refine s_run (w_none rfl) rfl (mv_s rfl rfl) ?_
    refine s_run (w_none rfl) rfl (as_s rfl rfl) ?_
    refine l_nil ?_
    refine k_ret ?_
    repeat (first | refine r_then ?_ | refine r_blk ?_)
    rw [Rc.body_4 h1]
    exact q_ret (v := .slice _ _ _) rfl rfl ⟨_, rfl, none, 0, rfl, held_nil, H⟩

attribute [local irreducible] Rc.rBody Tx.get Rc.get Rc.chk Pk.rInt
theorem tx_zero {W : World} {S : Nat → Prop} {t : DTx} (h : t = Tx.zero) : RTx W S zt t := by
  subst h
  exact ⟨_, _, _, rfl, rl_nil, rl_nil, rfl, by decide, by decide⟩

end Go.Proofs.YtfjhmecmhchbdaaGreatDoor

namespace Go.Proofs.YtfjhmecmhchbdaaGreatDoor
open Go Go.RowKit

namespace Rc
def kDeal : DDeal := ⟨7, 1, ⟨0, 5, 9⟩, ⟨1, 6, 8⟩, z32, 2⟩
def k0 : DRecord := ⟨4, 7, zDeal, z32, 0, 2, Tx.zero⟩
def k5 : DRecord := ⟨5, 0, zDeal, z32, 0, 0, Tx.zero⟩
theorem ok_k0 : Ok k0 := ⟨⟨by decide, by decide⟩, ⟨by decide, by decide⟩, ok_zdeal, rfl, i64_0, ⟨by decide, by decide⟩, Tx.ok_zero⟩
theorem ok_k5 : Ok k5 := ⟨⟨by decide, by decide⟩, i64_0, ok_zdeal, rfl, i64_0, i64_0, Tx.ok_zero⟩
theorem get_k0 : get [4, 7, 2] = (k0, 0) := by decide +kernel
theorem chk_k5 : chk k5 = 2 := by decide +kernel
/-- A right deal, one number another one. -/
def sel (k : Nat) (n : Int) : DDeal :=
  if k = 0 then { kDeal with id := n } else if k = 1 then { kDeal with role := n } else if k = 2 then { kDeal with peer := n } else if k = 3 then { kDeal with paid := ⟨n, 5, 9⟩ } else if k = 4 then { kDeal with got := ⟨n, 6, 8⟩ }
  else if k = 5 then { kDeal with paid := ⟨0, n, 9⟩ } else if k = 6 then { kDeal with got := ⟨1, n, 8⟩ } else if k = 7 then { kDeal with paid := ⟨0, 5, n⟩ } else { kDeal with got := ⟨1, 6, n⟩ }
def selOk (k : Nat) (n : Int) : Bool :=
  if k = 0 then decide (1 ≤ n ∧ n ≤ 1073741824) else if k = 1 then decide (n = 1 ∨ n = 2) else if k = 2 then decide (1 ≤ n ∧ n ≤ 32) else if k = 3 then decide (n = 0 ∨ n = 2) else if k = 4 then decide (n = 1 ∨ n = 2)
  else if k = 5 then decide (1 ≤ n ∧ n ≤ 1125899906842624) else if k = 6 then decide (1 ≤ n ∧ n ≤ 1125899906842624) else if k = 7 then decide (0 ≤ n ∧ n ≤ 1073741824) else decide (0 ≤ n ∧ n ≤ 1073741824)
/-- A record of a deal alone. -/
def ofDeal (d : DDeal) : DRecord := ⟨1, d.id, d, z32, 0, 0, Tx.zero⟩
end Rc
end Go.Proofs.YtfjhmecmhchbdaaGreatDoor

namespace Go.Proofs.YtfjhmecmhchbdaaGreatDoor
open Go Go.RowKit
attribute [local irreducible] wpList

end Go.Proofs.YtfjhmecmhchbdaaGreatDoor
