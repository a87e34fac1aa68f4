/- Texts of this claim, laid together: RecSpec, RecCell, K60, K61, K62. -/
import Derived.Test.YtfjhmecmhchbdaaGreatDoorMX
import Derived.Test.YtfjhmecmhchbdaaGreatDoorMZ
set_option linter.unusedVariables false
set_option linter.unusedSimpArgs false

namespace Go.Proofs.YtfjhmecmhchbdaaGreatDoor
open Go Go.RowKit

namespace Rc
abbrev z32 : List UInt8 := List.replicate 32 0
def legOk (l : DLeg) : Bool := decide (0 ≤ l.whereA ∧ l.whereA ≤ 2) && (decide (1 ≤ l.amount ∧ l.amount ≤ 1125899906842624) && decide (0 ≤ l.untilA ∧ l.untilA ≤ 1073741824))
def dealOk (d : DDeal) : Bool := decide (1 ≤ d.id ∧ d.id ≤ 1073741824) && (decide (1 ≤ d.role ∧ d.role ≤ 2) && (legOk d.paid && (legOk d.got && (decide (d.paid.whereA ≠ d.got.whereA) && decide (1 ≤ d.peer ∧ d.peer ≤ 32)))))
def checkDeal (d : DDeal) : Int := if dealOk d = true then 0 else 1
def none (t : DTx) : Bool := t.ins.isEmpty && (t.outs.isEmpty && decide (t.lock = 0))
def zLeg : DLeg := ⟨0, 0, 0⟩
def zDeal : DDeal := ⟨0, 0, zLeg, zLeg, z32, 0⟩
def zero : DRecord := ⟨0, 0, zDeal, z32, 0, 0, Tx.zero⟩
def argOk (r : DRecord) : Bool := decide (1 ≤ r.id ∧ r.id ≤ 1073741824) && ((!decide (r.kind = 1) || (dealOk r.deal && decide (r.deal.id = r.id))) && ((!decide (r.kind = 3) || decide (1 ≤ r.move ∧ r.move ≤ 3)) && (!decide (r.kind = 4) || decide (1 ≤ r.state ∧ r.state ≤ 6))))
def own (r : DRecord) : Int := if argOk r = false then 1 else if r.kind = 3 ∧ none r.tx = false then Tx.chk r.tx else 0
def foreign (r : DRecord) : Bool := (decide (r.kind ≠ 1) && !beqDeal r.deal zDeal) || ((decide (r.kind ≠ 2) && !(r.secret == z32)) || ((decide (r.kind ≠ 3) && (decide (r.move ≠ 0) || !none r.tx)) || (decide (r.kind ≠ 4) && decide (r.state ≠ 0))))
def chk (r : DRecord) : Int := if r.kind < 1 ∨ 4 < r.kind then 2 else if own r ≠ 0 then own r else if foreign r = true then 11 else 0
def encLeg (l : DLeg) : List UInt8 := Pk.int (Pk.toU l.whereA) ++ (Pk.int (Pk.toU l.amount) ++ Pk.int (Pk.toU l.untilA))
def encDeal (d : DDeal) : List UInt8 := Pk.int (Pk.toU d.role) ++ (encLeg d.paid ++ (encLeg d.got ++ (d.hash ++ Pk.int (Pk.toU d.peer))))
/-- A record's transaction's bytes. -/
def txB (r : DRecord) : List UInt8 := if none r.tx = true then [] else Tx.putB r.tx
def encBody (r : DRecord) (t : List UInt8) : List UInt8 :=
  if r.kind = 1 then encDeal r.deal else if r.kind = 2 then r.secret else if r.kind = 3 then Pk.int (Pk.toU r.move) ++ Pk.blob t else Pk.int (Pk.toU r.state)
def encHead (r : DRecord) : List UInt8 := Pk.int (Pk.toU r.kind) ++ Pk.int (Pk.toU r.id)
def putB (r : DRecord) : List UInt8 := encHead r ++ encBody r (txB r)
def put (r : DRecord) : List UInt8 × Int := if chk r ≠ 0 then ([], chk r) else if 400 < (putB r).length then ([], 5) else (putB r, 0)
abbrev rI : Rdr Int := rMap Pk.rInt (fun n => (n : Int))
def rLeg : Rdr DLeg := rMap (rPair rI (rPair rI rI)) (fun x => ⟨x.1, x.2.1, x.2.2⟩)
def rDeal (i : Int) : Rdr DDeal := rMap (rPair rI (rPair rLeg (rPair rLeg (rPair (Pk.rBytes 32) rI)))) (fun x => ⟨i, x.1, x.2.1, x.2.2.1, x.2.2.2.1, x.2.2.2.2⟩)
def rBody (k i : Int) : Rdr (DRecord × List UInt8) :=
  if k = 1 then rMap (rDeal i) (fun d => (⟨k, i, d, z32, 0, 0, Tx.zero⟩, []))
  else if k = 2 then rMap (Pk.rBytes 32) (fun h => (⟨k, i, zDeal, h, 0, 0, Tx.zero⟩, []))
  else if k = 3 then rMap (rPair rI (Pk.rBlob 400)) (fun x => (⟨k, i, zDeal, z32, x.1, 0, Tx.zero⟩, x.2))
  else rMap rI (fun n => (⟨k, i, zDeal, z32, 0, n, Tx.zero⟩, []))
def rHead : Rdr (Int × Int) := rPair rI rI
def setTx (r : DRecord) (t : DTx) : DRecord := ⟨r.kind, r.id, r.deal, r.secret, r.move, r.state, t⟩
/-- Behind the transaction: what was read, or an error. -/
def fin2 (n : Nat) (r : DRecord) : DRecord × Int := if chk r ≠ 0 then (zero, chk r) else if 400 < n then (zero, 5) else (r, 0)
/-- Behind the body. -/
def fin (n : Nat) (x : (DRecord × List UInt8) × RS) : DRecord × Int :=
  if Pk.rEnd x.2 ≠ 0 then (zero, Pk.rEnd x.2) else if x.1.2 = [] then fin2 n x.1.1 else if (Tx.get x.1.2).2 ≠ 0 then (zero, (Tx.get x.1.2).2) else fin2 n (setTx x.1.1 (Tx.get x.1.2).1)
def get (b : List UInt8) : DRecord × Int :=
  if (rHead (b, 0)).2.2 ≠ 0 then (zero, (rHead (b, 0)).2.2) else if (rHead (b, 0)).1.1 < 1 ∨ 4 < (rHead (b, 0)).1.1 then (zero, 2) else fin b.length (rBody (rHead (b, 0)).1.1 (rHead (b, 0)).1.2 (rHead (b, 0)).2)
def OkL (l : DLeg) : Prop := I64 l.whereA ∧ I64 l.amount ∧ I64 l.untilA
def Ok (r : DRecord) : Prop := I64 r.kind ∧ I64 r.id ∧ (I64 r.deal.id ∧ I64 r.deal.role ∧ OkL r.deal.paid ∧ OkL r.deal.got ∧ r.deal.hash.length = 32 ∧ I64 r.deal.peer) ∧ r.secret.length = 32 ∧ I64 r.move ∧ I64 r.state ∧ Tx.Ok r.tx

theorem none_iff {t : DTx} : none t = true ↔ t = Tx.zero := by
  obtain ⟨a, b, c⟩ := t
  unfold none Tx.zero
  cases a <;> cases b <;> simp
theorem leg_of {l : DLeg} (h : legOk l = true) : (0 ≤ l.whereA ∧ l.whereA ≤ 2) ∧ (1 ≤ l.amount ∧ l.amount ≤ 1125899906842624) ∧ (0 ≤ l.untilA ∧ l.untilA ≤ 1073741824) := by
  unfold legOk at h
  simpa using h
theorem deal_of {d : DDeal} (h : dealOk d = true) : (1 ≤ d.id ∧ d.id ≤ 1073741824) ∧ (1 ≤ d.role ∧ d.role ≤ 2) ∧ legOk d.paid = true ∧ legOk d.got = true ∧ d.paid.whereA ≠ d.got.whereA ∧ (1 ≤ d.peer ∧ d.peer ≤ 32) := by
  unfold dealOk at h
  simpa using h
theorem chk_of {r : DRecord} (h : chk r = 0) : (1 ≤ r.kind ∧ r.kind ≤ 4) ∧ argOk r = true ∧ (r.kind = 3 → none r.tx = false → Tx.chk r.tx = 0) ∧ foreign r = false := by
  unfold chk at h
  split at h
  · cases h
  · split at h
    · rename_i h1; exact absurd h h1
    · split at h
      · cases h
      · rename_i h1 h2 h3
        have h2' : own r = 0 := by simpa using h2
        unfold own at h2'
        split at h2'
        · cases h2'
        · rename_i h4
          refine ⟨by omega, by simpa using h4, fun hk hn => ?_, by simpa using h3⟩
          rw [if_pos ⟨hk, hn⟩] at h2'
          exact h2'
theorem arg_of {r : DRecord} (h : argOk r = true) : (1 ≤ r.id ∧ r.id ≤ 1073741824) ∧ (r.kind = 1 → dealOk r.deal = true ∧ r.deal.id = r.id) ∧ (r.kind = 3 → 1 ≤ r.move ∧ r.move ≤ 3) ∧ (r.kind = 4 → 1 ≤ r.state ∧ r.state ≤ 6) := by
  unfold argOk at h
  simp only [Bool.and_eq_true, Bool.or_eq_true, Bool.not_eq_true', decide_eq_true_eq, decide_eq_false_iff_not] at h
  obtain ⟨h1, h2, h3, h4⟩ := h
  exact ⟨h1, fun hk => h2.resolve_left (fun hn => hn hk), fun hk => h3.resolve_left (fun hn => hn hk), fun hk => h4.resolve_left (fun hn => hn hk)⟩
theorem sane_leg : Sane rLeg := (Sane.pair sane_int (Sane.pair sane_int sane_int)).map _
theorem sane_deal {i : Int} : Sane (rDeal i) := (Sane.pair sane_int (Sane.pair sane_leg (Sane.pair sane_leg (Sane.pair sane_bytes sane_int)))).map _
theorem sane_body {k i : Int} : Sane (rBody k i) := by
  unfold rBody
  split
  · exact sane_deal.map _
  · split
    · exact sane_bytes.map _
    · split
      · exact (Sane.pair sane_int sane_blob).map _
      · exact sane_int.map _
theorem backs_leg : Backs rLeg encLeg := Backs.map (enc := fun x : Int × (Int × Int) => Pk.int (Pk.toU x.1) ++ (Pk.int (Pk.toU x.2.1) ++ Pk.int (Pk.toU x.2.2)))
  (Backs.pair (f := rI) (enc := fun x : Int => Pk.int (Pk.toU x)) (enc' := fun x : Int × Int => Pk.int (Pk.toU x.1) ++ Pk.int (Pk.toU x.2)) backs_int (Backs.pair (f := rI) (g := rI) (enc := fun x : Int => Pk.int (Pk.toU x)) (enc' := fun x : Int => Pk.int (Pk.toU x)) backs_int backs_int)) _ (fun _ => rfl)
theorem backs_deal {i : Int} : Backs (rDeal i) encDeal :=
  Backs.map (enc := fun x : Int × (DLeg × (DLeg × (List UInt8 × Int))) => Pk.int (Pk.toU x.1) ++ (encLeg x.2.1 ++ (encLeg x.2.2.1 ++ (x.2.2.2.1 ++ Pk.int (Pk.toU x.2.2.2.2)))))
    (Backs.pair (f := rI) (enc := fun x : Int => Pk.int (Pk.toU x)) (enc' := fun x : DLeg × (DLeg × (List UInt8 × Int)) => encLeg x.1 ++ (encLeg x.2.1 ++ (x.2.2.1 ++ Pk.int (Pk.toU x.2.2.2)))) backs_int
      (Backs.pair (f := rLeg) (enc := encLeg) (enc' := fun x : DLeg × (List UInt8 × Int) => encLeg x.1 ++ (x.2.1 ++ Pk.int (Pk.toU x.2.2))) backs_leg
        (Backs.pair (f := rLeg) (enc := encLeg) (enc' := fun x : List UInt8 × Int => x.1 ++ Pk.int (Pk.toU x.2)) backs_leg
          (Backs.pair (g := rI) (enc := fun x : List UInt8 => x) (enc' := fun x : Int => Pk.int (Pk.toU x)) backs_bytes backs_int)))) _ (fun _ => rfl)
theorem backs_body {k i : Int} : Backs (rBody k i) (fun x => encBody x.1 x.2) := by
  unfold rBody
  by_cases k1 : k = 1
  · rw [if_pos k1]
    exact Backs.map (enc := encDeal) backs_deal _ (fun x => by unfold encBody; rw [if_pos k1])
  · rw [if_neg k1]
    by_cases k2 : k = 2
    · rw [if_pos k2]
      exact Backs.map (enc := fun x : List UInt8 => x) backs_bytes _ (fun x => by unfold encBody; rw [if_neg k1, if_pos k2])
    · rw [if_neg k2]
      by_cases k3 : k = 3
      · rw [if_pos k3]
        exact Backs.map (enc := fun x : Int × List UInt8 => Pk.int (Pk.toU x.1) ++ Pk.blob x.2) (Backs.pair (f := rI) (enc := fun x : Int => Pk.int (Pk.toU x)) (enc' := Pk.blob) backs_int backs_blob) _ (fun x => by unfold encBody; rw [if_neg k1, if_neg k2, if_pos k3])
      · rw [if_neg k3]
        exact Backs.map (f := rI) (enc := fun x : Int => Pk.int (Pk.toU x)) backs_int _ (fun x => by unfold encBody; rw [if_neg k1, if_neg k2, if_neg k3])
theorem backs_head : Backs rHead (fun x => Pk.int (Pk.toU x.1) ++ Pk.int (Pk.toU x.2)) := Backs.pair (f := rI) (g := rI) (enc := fun x : Int => Pk.int (Pk.toU x)) (enc' := fun x : Int => Pk.int (Pk.toU x)) backs_int backs_int
theorem body_kind {k i : Int} {s : RS} : (rBody k i s).1.1.kind = k ∧ (rBody k i s).1.1.id = i ∧ (rBody k i s).1.1.tx = Tx.zero := by
  unfold rBody
  split
  · exact ⟨rfl, rfl, rfl⟩
  · split
    · exact ⟨rfl, rfl, rfl⟩
    · split <;> exact ⟨rfl, rfl, rfl⟩
theorem end_good {s : RS} (h : Pk.rEnd s = 0) : s.2 = 0 ∧ s.1 = [] := by
  unfold Pk.rEnd at h
  split at h
  · cases h
  · rename_i h1
    exact ⟨h, List.eq_nil_of_length_eq_zero (by omega)⟩
theorem fin2_ok {n : Nat} {r : DRecord} (h : (fin2 n r).2 = 0) : fin2 n r = (r, 0) ∧ chk r = 0 ∧ n ≤ 400 := by
  unfold fin2 at h ⊢
  split at h
  · rename_i h1; exact absurd h h1
  · split at h
    · cases h
    · rename_i h1 h2
      rw [if_neg h1, if_neg h2]
      exact ⟨rfl, by simpa using h1, by omega⟩
theorem get_back {b : List UInt8} (h : (get b).2 = 0) : chk (get b).1 = 0 ∧ putB (get b).1 = b ∧ b.length ≤ 400 := by
  unfold get at h ⊢
  split at h
  · rename_i h1; exact absurd h h1
  · rename_i h1
    rw [if_neg h1]
    split at h
    · cases h
    · rename_i h2
      rw [if_neg h2]
      have h1' : (rHead (b, 0)).2.2 = 0 := by simpa using h1
      have eh := (backs_head (b, 0) h1').2
      obtain ⟨n1, n2, n3⟩ := body_kind (k := (rHead (b, 0)).1.1) (i := (rHead (b, 0)).1.2) (s := (rHead (b, 0)).2)
      have hB := backs_body (k := (rHead (b, 0)).1.1) (i := (rHead (b, 0)).1.2) (rHead (b, 0)).2
      generalize rBody (rHead (b, 0)).1.1 (rHead (b, 0)).1.2 (rHead (b, 0)).2 = X at h n1 n2 n3 hB ⊢
      unfold fin at h ⊢
      split at h
      · rename_i h3; exact absurd h h3
      · rename_i h3
        rw [if_neg h3]
        obtain ⟨g1, g2⟩ := end_good (by simpa using h3)
        have eb : (rHead (b, 0)).2.1 = encBody X.1.1 X.1.2 := by
          have := (hB g1).2
          rw [g2, List.append_nil] at this
          exact this
        have all : ∀ r : DRecord, r.kind = X.1.1.kind → r.id = X.1.1.id → encBody r (txB r) = encBody X.1.1 X.1.2 → putB r = b := fun r e1 e2 e3 => by
          unfold putB encHead
          rw [e1, e2, n1, n2, e3, ← eb]
          exact eh.symm
        split at h
        · rename_i h4
          rw [if_pos h4]
          obtain ⟨f1, f2, f3⟩ := fin2_ok h
          rw [f1]
          refine ⟨f2, all _ rfl rfl ?_, f3⟩
          unfold txB
          rw [if_pos (none_iff.2 n3), h4]
        · rename_i h4
          rw [if_neg h4]
          split at h
          · rename_i h5; exact absurd h h5
          · rename_i h5
            rw [if_neg h5]
            obtain ⟨f1, f2, f3⟩ := fin2_ok h
            rw [f1]
            obtain ⟨t1, t2⟩ := Tx.get_back (b := X.1.2) (by simpa using h5)
            refine ⟨f2, all _ rfl rfl ?_, f3⟩
            have hn : none (Tx.get X.1.2).1 = false := by
              cases hn : none (Tx.get X.1.2).1 with
              | false => rfl
              | true =>
                have hz := none_iff.1 hn
                have := (Tx.chk_of t1).1
                rw [hz] at this
                exact absurd this.1 (by simp [Tx.zero])
            have e : txB (setTx X.1.1 (Tx.get X.1.2).1) = X.1.2 := by
              unfold txB setTx
              dsimp only
              rw [if_neg (by rw [hn]; simp), t2]
            rw [e]
            rfl
theorem fin2_zero {n : Nat} {r : DRecord} (h : (fin2 n r).2 ≠ 0) : (fin2 n r).1 = zero := by
  unfold fin2 at h ⊢
  by_cases h1 : chk r ≠ 0
  · rw [if_pos h1]
  · rw [if_neg h1] at h ⊢
    by_cases h2 : 400 < n
    · rw [if_pos h2]
    · rw [if_neg h2] at h; exact absurd rfl h
theorem get_zero {b : List UInt8} (h : (get b).2 ≠ 0) : (get b).1 = zero := by
  unfold get fin at h ⊢
  split at h
  · rename_i h1; rw [if_pos h1]
  · rename_i h1
    rw [if_neg h1]
    split at h
    · rename_i h2; rw [if_pos h2]
    · rename_i h2
      rw [if_neg h2]
      split at h
      · rename_i h3; rw [if_pos h3]
      · rename_i h3
        rw [if_neg h3]
        split at h
        · rename_i h4; rw [if_pos h4]; exact fin2_zero h
        · rename_i h4
          rw [if_neg h4]
          split at h
          · rename_i h5; rw [if_pos h5]
          · rename_i h5; rw [if_neg h5]; exact fin2_zero h
theorem i64_0 : I64 0 := ⟨by decide, by decide⟩
theorem ok_zdeal : I64 zDeal.id ∧ I64 zDeal.role ∧ OkL zDeal.paid ∧ OkL zDeal.got ∧ zDeal.hash.length = 32 ∧ I64 zDeal.peer := by
  unfold OkL
  exact ⟨i64_0, i64_0, ⟨i64_0, i64_0, i64_0⟩, ⟨i64_0, i64_0, i64_0⟩, by decide, i64_0⟩
theorem ok_zero : Ok zero := ⟨i64_0, i64_0, ok_zdeal, by decide, i64_0, i64_0, Tx.ok_zero⟩
theorem ok_body {k i : Int} {s : RS} (hk : I64 k) (hi : I64 i) : Ok (rBody k i s).1.1 := by
  unfold rBody
  split
  · exact ⟨hk, hi, ⟨hi, Tx.int_ok, ⟨Tx.int_ok, Tx.int_ok, Tx.int_ok⟩, ⟨Tx.int_ok, Tx.int_ok, Tx.int_ok⟩, Pk.len_rBytes, Tx.int_ok⟩, (by decide : z32.length = 32), i64_0, i64_0, Tx.ok_zero⟩
  · split
    · exact ⟨hk, hi, ok_zdeal, Pk.len_rBytes, i64_0, i64_0, Tx.ok_zero⟩
    · split
      · exact ⟨hk, hi, ok_zdeal, (by decide : z32.length = 32), Tx.int_ok, i64_0, Tx.ok_zero⟩
      · exact ⟨hk, hi, ok_zdeal, (by decide : z32.length = 32), i64_0, Tx.int_ok, Tx.ok_zero⟩
theorem ok_fin2 {n : Nat} {r : DRecord} (h : Ok r) : Ok (fin2 n r).1 := by
  unfold fin2
  split
  · exact ok_zero
  · split
    · exact ok_zero
    · exact h
theorem ok_set {r : DRecord} {t : DTx} (h : Ok r) (ht : Tx.Ok t) : Ok (setTx r t) := by
  obtain ⟨h1, h2, h3, h4, h5, h6, _⟩ := h
  exact ⟨h1, h2, h3, h4, h5, h6, ht⟩
theorem ok_get {b : List UInt8} : Ok (get b).1 := by
  unfold get fin
  split
  · exact ok_zero
  · split
    · exact ok_zero
    · split
      · exact ok_zero
      · split
        · exact ok_fin2 (ok_body Tx.int_ok Tx.int_ok)
        · split
          · exact ok_zero
          · have h := ok_body (k := (rHead (b, 0)).1.1) (i := (rHead (b, 0)).1.2) (s := (rHead (b, 0)).2) Tx.int_ok Tx.int_ok
            exact ok_fin2 (ok_set h Tx.ok_get)
end Rc
end Go.Proofs.YtfjhmecmhchbdaaGreatDoor

namespace Go.Proofs.YtfjhmecmhchbdaaGreatDoor
open Go Go.RowKit

deriving instance DecidableEq for DLeg
deriving instance DecidableEq for DDeal
deriving instance DecidableEq for DRecord
def legC (l : DLeg) : List Value := [.int .i64 l.whereA, .int .i64 l.amount, .int .i64 l.untilA]
def dealC (d : DDeal) : List Value := [.int .i64 d.id] ++ ([.int .i64 d.role] ++ (legC d.paid ++ (legC d.got ++ (d.hash.map u8v ++ [.int .i64 d.peer]))))
def recC (r : DRecord) (ct : List Value) : List Value := [.int .i64 r.kind] ++ ([.int .i64 r.id] ++ (dealC r.deal ++ (r.secret.map u8v ++ ([.int .i64 r.move] ++ ([.int .i64 r.state] ++ ct)))))
/-- What only some kinds have, by itself. -/
def fldC (d : DDeal) (s : List UInt8) (m st : Int) (b : Bool) : List Value := dealC d ++ (s.map u8v ++ ([.int .i64 m] ++ ([.int .i64 st] ++ [.bool b])))
abbrev Rc.OkD (d : DDeal) : Prop := I64 d.id ∧ I64 d.role ∧ Rc.OkL d.paid ∧ Rc.OkL d.got ∧ d.hash.length = 32 ∧ I64 d.peer
section
variable {W : World} {S : Nat → Prop} {cs ct : List Value} {l : DLeg} {d : DDeal} {r : DRecord} {s : List UInt8} {m st : Int} {b : Bool}
theorem leg_of (h : RLeg W S cs l) : cs = legC l ∧ Rc.OkL l := by
  obtain ⟨c0, c1, c2, rfl, ⟨rfl, h0⟩, ⟨rfl, h1⟩, ⟨rfl, h2⟩⟩ := h
  exact ⟨rfl, h0, h1, h2⟩
theorem leg_rep (h : Rc.OkL l) : RLeg W S (legC l) l := ⟨_, _, _, rfl, ⟨rfl, h.1⟩, ⟨rfl, h.2.1⟩, rfl, h.2.2⟩
theorem deal_of (h : RDeal W S cs d) : cs = dealC d ∧ Rc.OkD d := by
  obtain ⟨c0, c1, c2, c3, c4, c5, rfl, ⟨rfl, h0⟩, ⟨rfl, h1⟩, h2, h3, ⟨rfl, h4⟩, ⟨rfl, h5⟩⟩ := h
  obtain ⟨rfl, g2⟩ := leg_of h2
  obtain ⟨rfl, g3⟩ := leg_of h3
  exact ⟨rfl, h0, h1, g2, g3, h4, h5⟩
theorem deal_rep (h : Rc.OkD d) : RDeal W S (dealC d) d := ⟨_, _, _, _, _, _, rfl, ⟨rfl, h.1⟩, ⟨rfl, h.2.1⟩, leg_rep h.2.2.1, leg_rep h.2.2.2.1, ⟨rfl, h.2.2.2.2.1⟩, rfl, h.2.2.2.2.2⟩
theorem len_deal (h : d.hash.length = 32) : (dealC d).length = 41 := by unfold dealC legC; simp [h]
theorem len_rec (hd : r.deal.hash.length = 32) (hs : r.secret.length = 32) (hc : ct.length = 3) : (recC r ct).length = 80 := by unfold recC; simp [len_deal hd, hs, hc]
theorem len_rec' (h : Rc.Ok r) (hc : ct.length = 3) : (recC r ct).length = 80 := len_rec h.2.2.1.2.2.2.2.1 h.2.2.2.1 hc
theorem len_fld (hd : d.hash.length = 32) (hs : s.length = 32) : (fldC d s m st b).length = 76 := by unfold fldC; simp [len_deal hd, hs]
theorem deal_one : (dealC d).all (·.oneCell') = true := by unfold dealC legC; simp [List.all_append, all_u8L, Value.oneCell']
theorem rec_one (hc : ct.all (·.oneCell') = true) : (recC r ct).all (·.oneCell') = true := by unfold recC; simp only [List.all_append, deal_one, all_u8L, hc]; rfl
theorem fld_one : (fldC d s m st b).all (·.oneCell') = true := by unfold fldC; simp only [List.all_append, deal_one, all_u8L]; rfl
/- A deal's cells. -/
theorem sub_d_peer (h : d.hash.length = 32) : sub (dealC d) 40 1 = [.int .i64 d.peer] := sub_Deal_5 rfl rfl rfl rfl (by rw [List.length_map]; exact h) rfl
/- A record's. -/
section
variable (h : Rc.Ok r)
include h
theorem sub_r_deal : sub (recC r ct) 2 41 = dealC r.deal := sub_Record_2 rfl rfl (len_deal h.2.2.1.2.2.2.2.1)
theorem sub_r_secret : sub (recC r ct) 43 32 = r.secret.map u8v := sub_Record_3 rfl rfl (len_deal h.2.2.1.2.2.2.2.1) (by rw [List.length_map]; exact h.2.2.2.1)
theorem sub_r_move : sub (recC r ct) 75 1 = [.int .i64 r.move] := sub_Record_4 rfl rfl (len_deal h.2.2.1.2.2.2.2.1) (by rw [List.length_map]; exact h.2.2.2.1) rfl
theorem sub_r_state : sub (recC r ct) 76 1 = [.int .i64 r.state] := sub_Record_5 rfl rfl (len_deal h.2.2.1.2.2.2.2.1) (by rw [List.length_map]; exact h.2.2.2.1) rfl rfl
theorem sub_r_tx (hc : ct.length = 3) : sub (recC r ct) 77 3 = ct := sub_Record_6 rfl rfl (len_deal h.2.2.1.2.2.2.2.1) (by rw [List.length_map]; exact h.2.2.2.1) rfl rfl hc
end
end
/-- Cells laid over a part. -/
theorem spl_mid {a b c x : List Value} {k : Nat} (ha : a.length = k) (hx : x.length = b.length) : spl (a ++ (b ++ c)) k x = a ++ (x ++ c) := by
  subst ha
  rw [spl_len _ _ _ (by simp only [List.length_append]; omega), List.take_left]
  have h1 : (a ++ (b ++ c)).drop (a.length + x.length) = c := by rw [hx]; simp [List.drop_append]
  rw [h1, List.append_assoc]
theorem spl_end {a b x : List Value} {k : Nat} (ha : a.length = k) (hx : x.length = b.length) : spl (a ++ b) k x = a ++ x := by
  have := spl_mid (a := a) (b := b) (c := []) (x := x) ha hx
  simpa using this
section
variable {d d' : DDeal} {s s' : List UInt8} {m st x : Int} {b y : Bool}
theorem spl_f_deal (h : d.hash.length = 32) (h' : d'.hash.length = 32) : spl (fldC d s m st b) 0 (dealC d') = fldC d' s m st b := by
  have := spl_mid (a := []) (b := dealC d) (c := s.map u8v ++ ([.int .i64 m] ++ ([.int .i64 st] ++ [.bool b]))) (x := dealC d') rfl (by rw [len_deal h, len_deal h'])
  exact this
theorem spl_f_secret (h : d.hash.length = 32) (h1 : s.length = 32) (h' : s'.length = 32) : spl (fldC d s m st b) 41 (s'.map u8v) = fldC d s' m st b :=
  spl_mid (a := dealC d) (b := s.map u8v) (len_deal h) (by rw [List.length_map, List.length_map, h1, h'])
theorem spl_f_move (h : d.hash.length = 32) (h1 : s.length = 32) : spl (fldC d s m st b) 73 [.int .i64 x] = fldC d s x st b := by
  have := spl_mid (a := dealC d ++ s.map u8v) (b := [.int .i64 m]) (c := [.int .i64 st] ++ [.bool b]) (x := [.int .i64 x]) (k := 73) (by simp [len_deal h, h1]) rfl
  simpa only [fldC, List.append_assoc] using this
theorem spl_f_state (h : d.hash.length = 32) (h1 : s.length = 32) : spl (fldC d s m st b) 74 [.int .i64 x] = fldC d s m x b := by
  have := spl_mid (a := dealC d ++ (s.map u8v ++ [.int .i64 m])) (b := [.int .i64 st]) (c := [.bool b]) (x := [.int .i64 x]) (k := 74) (by simp [len_deal h, h1]) rfl
  simpa only [fldC, List.append_assoc] using this
theorem spl_f_some (h : d.hash.length = 32) (h1 : s.length = 32) : spl (fldC d s m st b) 75 [.bool y] = fldC d s m st y := by
  have := spl_end (a := dealC d ++ (s.map u8v ++ ([.int .i64 m] ++ [.int .i64 st]))) (b := [.bool b]) (x := [.bool y]) (k := 75) (by simp [len_deal h, h1]) rfl
  simpa only [fldC, List.append_assoc] using this
theorem sub_f_deal (h : d.hash.length = 32) : sub (fldC d s m st b) 0 41 = dealC d := sub_head (len_deal h)
theorem sub_f_secret (h : d.hash.length = 32) (h1 : s.length = 32) : sub (fldC d s m st b) 41 32 = s.map u8v := (sub_skip (k := 0) (m := 32) (len_deal h)).trans (sub_head (by rw [List.length_map]; exact h1))
theorem sub_f_move (h : d.hash.length = 32) (h1 : s.length = 32) : sub (fldC d s m st b) 73 1 = [.int .i64 m] := (sub_skip (k := 32) (m := 1) (len_deal h)).trans ((sub_skip (k := 0) (m := 1) (by rw [List.length_map]; exact h1)).trans rfl)
theorem sub_f_state (h : d.hash.length = 32) (h1 : s.length = 32) : sub (fldC d s m st b) 74 1 = [.int .i64 st] := (sub_skip (k := 33) (m := 1) (len_deal h)).trans ((sub_skip (k := 1) (m := 1) (by rw [List.length_map]; exact h1)).trans rfl)
theorem sub_f_some (h : d.hash.length = 32) (h1 : s.length = 32) : sub (fldC d s m st b) 75 1 = [.bool b] := (sub_skip (k := 34) (m := 1) (len_deal h)).trans ((sub_skip (k := 2) (m := 1) (by rw [List.length_map]; exact h1)).trans rfl)
end
theorem rec_same {r u : DRecord} : (r.kind ≠ u.kind) ∨ (r.kind = u.kind ∧ r.id ≠ u.id) ∨ (r.kind = u.kind ∧ r.id = u.id ∧ beqDeal r.deal u.deal = false) ∨ (r.kind = u.kind ∧ r.id = u.id ∧ beqDeal r.deal u.deal = true ∧ (r.secret == u.secret) = false) ∨ (r.kind = u.kind ∧ r.id = u.id ∧ beqDeal r.deal u.deal = true ∧ (r.secret == u.secret) = true ∧ r.move ≠ u.move)
    ∨ (r.kind = u.kind ∧ r.id = u.id ∧ beqDeal r.deal u.deal = true ∧ (r.secret == u.secret) = true ∧ r.move = u.move ∧ r.state ≠ u.state) ∨ (r.kind = u.kind ∧ r.id = u.id ∧ beqDeal r.deal u.deal = true ∧ (r.secret == u.secret) = true ∧ r.move = u.move ∧ r.state = u.state) := by
  cases h1 : beqDeal r.deal u.deal <;> cases h2 : (r.secret == u.secret) <;> simp <;> omega
theorem rec_eq {r u : DRecord} (h : r.kind = u.kind ∧ r.id = u.id ∧ beqDeal r.deal u.deal = true ∧ (r.secret == u.secret) = true ∧ r.move = u.move ∧ r.state = u.state) : decide (r.tx = u.tx) = decide (r = u) := by
  obtain ⟨h1, h2, h3, h4, h5, h6⟩ := h
  have h3 := beqDeal_iff.1 h3
  have h4 := eq_of_beq h4
  cases r; cases u
  simp_all
namespace Rc
/- What is put, as the program puts it. -/
section
variable {r : DRecord}
end
theorem none_at {t : DTx} : none t = (((t.ins.length : Int) == 0) && (((t.outs.length : Int) == 0) && (t.lock == 0))) := by
  rw [Bool.eq_iff_iff]
  unfold none
  simp only [Bool.and_eq_true, List.isEmpty_iff_length_eq_zero, decide_eq_true_eq, beq_iff_eq]
  omega
theorem chk_bad {r : DRecord} (h : r.kind < 1 ∨ 4 < r.kind) : chk r = 2 := by unfold chk; rw [if_pos h]
theorem chk_own {r : DRecord} (h : 1 ≤ r.kind ∧ r.kind ≤ 4) (ho : own r ≠ 0) : chk r = own r := by unfold chk; rw [if_neg (by omega), if_pos ho]
theorem chk_for {r : DRecord} (h : 1 ≤ r.kind ∧ r.kind ≤ 4) (ho : own r = 0) : chk r = if foreign r = true then 11 else 0 := by unfold chk; rw [if_neg (by omega), if_neg (by simpa using ho)]
/-- What is foreign, as the program compares it. -/
def cmp (d : DDeal) (s : List UInt8) (m st : Int) (b : Bool) : Bool := beqDeal d zDeal && ((s == z32) && ((m == 0) && ((st == 0) && ((b == false) && true))))
theorem for_1 {r : DRecord} (h : r.kind = 1) : foreign r = !cmp zDeal r.secret r.move r.state (!none r.tx) := by
  unfold foreign cmp
  rw [h, beqDeal_iff.2 rfl]
  cases none r.tx <;> cases h1 : (r.secret == z32) <;> by_cases h2 : r.move = 0 <;> by_cases h3 : r.state = 0 <;> simp_all
theorem for_2 {r : DRecord} (h : r.kind = 2) : foreign r = !cmp r.deal z32 r.move r.state (!none r.tx) := by
  unfold foreign cmp
  rw [h]
  cases none r.tx <;> cases h1 : beqDeal r.deal zDeal <;> by_cases h2 : r.move = 0 <;> by_cases h3 : r.state = 0 <;> simp_all
theorem for_3 {r : DRecord} (h : r.kind = 3) : foreign r = !cmp r.deal r.secret 0 r.state false := by
  unfold foreign cmp
  rw [h]
  cases h1 : beqDeal r.deal zDeal <;> cases h2 : (r.secret == z32) <;> by_cases h3 : r.state = 0 <;> simp_all
theorem for_4 {r : DRecord} (h : r.kind = 4) : foreign r = !cmp r.deal r.secret r.move 0 (!none r.tx) := by
  unfold foreign cmp
  rw [h]
  cases none r.tx <;> cases h1 : beqDeal r.deal zDeal <;> cases h2 : (r.secret == z32) <;> by_cases h3 : r.move = 0 <;> simp_all
theorem for_5 {r : DRecord} (h : ¬ (1 ≤ r.kind ∧ r.kind ≤ 4)) : foreign r = !cmp r.deal r.secret r.move r.state (!none r.tx) := by
  unfold foreign cmp
  rw [decide_eq_true (show r.kind ≠ 1 by omega), decide_eq_true (show r.kind ≠ 2 by omega), decide_eq_true (show r.kind ≠ 3 by omega), decide_eq_true (show r.kind ≠ 4 by omega)]
  cases none r.tx <;> cases h1 : beqDeal r.deal zDeal <;> cases h2 : (r.secret == z32) <;> by_cases h3 : r.move = 0 <;> by_cases h4 : r.state = 0 <;> simp_all
theorem deal_no {d : DDeal} (h : ¬ dealOk d = true) : checkDeal d = 1 := by unfold checkDeal; rw [if_neg h]
theorem deal_yes {d : DDeal} (h : dealOk d = true) : checkDeal d = 0 := by unfold checkDeal; rw [if_pos h]
theorem deal_cases (d : DDeal) : ¬ (1 ≤ d.id ∧ d.id ≤ 1073741824) ∨ ((1 ≤ d.id ∧ d.id ≤ 1073741824) ∧ ¬ (1 ≤ d.role ∧ d.role ≤ 2)) ∨ ((1 ≤ d.id ∧ d.id ≤ 1073741824) ∧ (1 ≤ d.role ∧ d.role ≤ 2) ∧ legOk d.paid = false) ∨ ((1 ≤ d.id ∧ d.id ≤ 1073741824) ∧ (1 ≤ d.role ∧ d.role ≤ 2) ∧ legOk d.paid = true ∧ legOk d.got = false)
    ∨ ((1 ≤ d.id ∧ d.id ≤ 1073741824) ∧ (1 ≤ d.role ∧ d.role ≤ 2) ∧ legOk d.paid = true ∧ legOk d.got = true ∧ d.paid.whereA = d.got.whereA) ∨ ((1 ≤ d.id ∧ d.id ≤ 1073741824) ∧ (1 ≤ d.role ∧ d.role ≤ 2) ∧ legOk d.paid = true ∧ legOk d.got = true ∧ d.paid.whereA ≠ d.got.whereA) := by
  by_cases h1 : 1 ≤ d.id ∧ d.id ≤ 1073741824
  · by_cases h2 : 1 ≤ d.role ∧ d.role ≤ 2
    · cases h3 : legOk d.paid with
      | false => exact .inr (.inr (.inl ⟨h1, h2, rfl⟩))
      | true => cases h4 : legOk d.got with
        | false => exact .inr (.inr (.inr (.inl ⟨h1, h2, rfl, rfl⟩)))
        | true =>
          by_cases h5 : d.paid.whereA = d.got.whereA
          · exact .inr (.inr (.inr (.inr (.inl ⟨h1, h2, rfl, rfl, h5⟩))))
          · exact .inr (.inr (.inr (.inr (.inr ⟨h1, h2, rfl, rfl, h5⟩))))
    · exact .inr (.inl ⟨h1, h2⟩)
  · exact .inl h1
theorem deal_mk {d : DDeal} (h1 : 1 ≤ d.id ∧ d.id ≤ 1073741824) (h2 : 1 ≤ d.role ∧ d.role ≤ 2) (h3 : legOk d.paid = true) (h4 : legOk d.got = true) (h5 : d.paid.whereA ≠ d.got.whereA) (h6 : 1 ≤ d.peer ∧ d.peer ≤ 32) : dealOk d = true := by
  unfold dealOk
  simp only [Bool.and_eq_true, decide_eq_true_eq]
  exact ⟨h1, h2, h3, h4, h5, h6⟩
/-- Which kind, and whether what only it has is right. -/
theorem own_cases (r : DRecord) : (r.kind = 1 ∧ dealOk r.deal = false) ∨ (r.kind = 1 ∧ dealOk r.deal = true ∧ r.deal.id ≠ r.id) ∨ (r.kind = 1 ∧ dealOk r.deal = true ∧ r.deal.id = r.id) ∨ (r.kind = 3 ∧ ¬ (1 ≤ r.move ∧ r.move ≤ 3)) ∨ (r.kind = 3 ∧ (1 ≤ r.move ∧ r.move ≤ 3)) ∨ (r.kind = 4 ∧ ¬ (1 ≤ r.state ∧ r.state ≤ 6)) ∨ (r.kind = 4 ∧ (1 ≤ r.state ∧ r.state ≤ 6)) ∨ (r.kind ≠ 1 ∧ r.kind ≠ 3 ∧ r.kind ≠ 4) := by
  by_cases h1 : r.kind = 1
  · cases h2 : dealOk r.deal with
    | false => exact .inl ⟨h1, rfl⟩
    | true =>
      by_cases h3 : r.deal.id = r.id
      · exact .inr (.inr (.inl ⟨h1, rfl, h3⟩))
      · exact .inr (.inl ⟨h1, rfl, h3⟩)
  · cases h2 : dealOk r.deal <;> simp <;> omega
theorem own_bad {r : DRecord} (h : ¬ argOk r = true) : own r = 1 := by unfold own; rw [if_pos (by simpa using h)]
theorem own_tx {r : DRecord} (h : argOk r = true) (hk : r.kind = 3) (hn : none r.tx = false) : own r = Tx.chk r.tx := by unfold own; rw [if_neg (by rw [h]; simp), if_pos ⟨hk, hn⟩]
theorem own_ok {r : DRecord} (h : argOk r = true) (hk : ¬ (r.kind = 3 ∧ none r.tx = false)) : own r = 0 := by unfold own; rw [if_neg (by rw [h]; simp), if_neg hk]
theorem arg_mk {r : DRecord} (h0 : 1 ≤ r.id ∧ r.id ≤ 1073741824) (h1 : r.kind = 1 → dealOk r.deal = true ∧ r.deal.id = r.id) (h3 : r.kind = 3 → 1 ≤ r.move ∧ r.move ≤ 3) (h4 : r.kind = 4 → 1 ≤ r.state ∧ r.state ≤ 6) : argOk r = true := by
  unfold argOk
  simp only [Bool.and_eq_true, Bool.or_eq_true, Bool.not_eq_true', decide_eq_true_eq, decide_eq_false_iff_not]
  refine ⟨h0, ?_, ?_, ?_⟩
  · by_cases h : r.kind = 1
    · exact .inr (h1 h)
    · exact .inl h
  · by_cases h : r.kind = 3
    · exact .inr (h3 h)
    · exact .inl h
  · by_cases h : r.kind = 4
    · exact .inr (h4 h)
    · exact .inl h
theorem ok_zd : OkD zDeal := by
  have z : I64 0 := ⟨by decide, by decide⟩
  exact ⟨z, z, ⟨z, z, z⟩, ⟨z, z, z⟩, rfl, z⟩
end Rc
end Go.Proofs.YtfjhmecmhchbdaaGreatDoor

namespace Go.Proofs.YtfjhmecmhchbdaaGreatDoor
open Go Go.RowKit
attribute [local irreducible] wpList

theorem eq_bo {P : Program} {t : TypeId} {d : Nat} {x y : Bool} (hu : P.underlying t = some .bool) : EqT P (d + 1) t (.bool x) (.bool y) (x == y) := fun W => run_equalIn_bool W d t x y hu
theorem eq_fld {d : Nat} {x : DDeal} {s : List UInt8} {m st : Int} {b : Bool} (hx : Rc.OkD x) (hs : s.length = 32) : EqT Tryz.prog (d + 4) 96 (.agg (fldC x s m st b).toArray) (.agg (fldC Rc.zDeal Rc.z32 0 0 false).toArray) (Rc.cmp x s m st b) := by
  have hz : Rc.zDeal.hash.length = 32 := rfl
  have hz1 : Rc.z32.length = 32 := rfl
  have hh := hx.2.2.2.2.1
  refine eq_st (by kernel_rfl) (by unfold Program.fieldsOf; rw [Tryz.underlying96]) (by kernel_rfl) ?_
  refine eqf_cons rfl (part_Me ta27 ts27 (sub_f_deal hh)) (part_Me ta27 ts27 (sub_f_deal hz)) (eq_Deal (deal_rep (W := default) (S := nT) hx) (deal_rep (W := default) (S := nT) Rc.ok_zd)) ?_
  refine eqf_cons rfl (part_Me ta25 ts25 (sub_f_secret hh hs)) (part_Me ta25 ts25 (sub_f_secret hz hz1)) (eq_u8s tu25 tu5 ts5 hs hz1) ?_
  refine eqf_cons rfl (part_1 ta3 (sub_f_move hh hs)) (part_1 ta3 (sub_f_move hz hz1)) (eq_i tu3) ?_
  refine eqf_cons rfl (part_1 ta3 (sub_f_state hh hs)) (part_1 ta3 (sub_f_state hz hz1)) (eq_i tu3) ?_
  refine eqf_cons rfl (part_1 ta4 (sub_f_some hh hs)) (part_1 ta4 (sub_f_some hz hz1)) (eq_bo tu4) ?_
  exact eqf_nil
theorem tz96 : ((Tryz.prog.info? 96).bind (·.zero)).map (·.cells) = some (fldC Rc.zDeal Rc.z32 0 0 false).toArray := by kernel_rfl
theorem tz33 : ((Tryz.prog.info? 33).bind (·.zero)).map (·.cells) = some (recC Rc.zero (txC none 0 0 none 0 0 0)).toArray := by kernel_rfl

theorem withinR {n a b : Int} (w : World) : Calls Tryz.prog 33 [.int .i64 n, .int .i64 a, .int .i64 b].toArray w (Ret (Is w (.bool (decide (a ≤ n ∧ n ≤ b))))) := by
  refine k_enter (l := [_, _, _]) Tryz.func33 rfl rfl ?_
  have H := St.start nT w
  refine k_seq ?_
  refine k_region ?_
  refine s_run (w_none rfl) rfl (as_b rfl rfl) ?_
  refine l_nil ?_
  refine k_seq ?_
  rcases Int.lt_or_le n a with h1 | h1
  · skip
    refine k_region ?_
    refine s_run (w_none rfl) rfl (mv_i rfl rfl) ?_
    refine s_run (w_none rfl) rfl (mv_i rfl rfl) ?_
    refine s_run (w_none rfl) rfl (d_ge rfl rfl rfl) ?_
    refine s_run (w_none rfl) rfl (mv_bx (c := false) rfl rfl (by simp; omega)) ?_
    refine s_skip (w_gno rfl rfl rfl rfl rfl) rfl ?_
    refine s_skip (w_gno rfl rfl rfl rfl rfl) rfl ?_
    refine s_skip (w_gno rfl rfl rfl rfl rfl) rfl ?_
    refine s_run (w_none rfl) rfl (d_pickF rfl rfl rfl) ?_
    refine s_run (w_none rfl) rfl (as_b rfl rfl) ?_
    refine l_nil ?_
    refine k_ret ?_
    repeat (first | refine r_then ?_ | refine r_blk ?_)
    exact q_ret (v := .bool _) rfl rfl ⟨_, rfl, vb (by simp; omega), H.under⟩
  · skip
    refine k_region ?_
    refine s_run (w_none rfl) rfl (mv_i rfl rfl) ?_
    refine s_run (w_none rfl) rfl (mv_i rfl rfl) ?_
    refine s_run (w_none rfl) rfl (d_ge rfl rfl rfl) ?_
    refine s_run (w_none rfl) rfl (mv_bx (c := true) rfl rfl (by simp; omega)) ?_
    refine s_run (w_g rfl rfl rfl rfl) rfl (mv_i rfl rfl) ?_
    refine s_run (w_g rfl rfl rfl rfl) rfl (mv_i rfl rfl) ?_
    refine s_run (w_g rfl rfl rfl rfl) rfl (d_le rfl rfl rfl) ?_
    refine s_run (w_none rfl) rfl (d_pickT rfl rfl rfl) ?_
    refine s_run (w_none rfl) rfl (as_b rfl rfl) ?_
    refine l_nil ?_
    refine k_ret ?_
    repeat (first | refine r_then ?_ | refine r_blk ?_)
    exact q_ret (v := .bool _) rfl rfl ⟨_, rfl, vb (by simp; omega), H.under⟩

set_option maxHeartbeats 4000000 in
theorem legT {l : DLeg} (w : World) : Calls Tryz.prog 34 [.agg (legC l).toArray].toArray w (Ret (Is w (.bool (Rc.legOk l)))) := by
  refine k_enter (l := [_]) Tryz.func34 rfl rfl ?_
  have H := St.start nT w
  refine k_seq ?_
  refine k_region ?_
  refine s_eff (e_box (vs := (legC l)) (w_none rfl) rfl rfl rfl rfl H ?_)
  clear H; intro g0_0 W H
  refine s_run (w_none rfl) rfl (as_b rfl rfl) ?_
  refine l_nil ?_
  refine k_seq ?_
  rcases (show ¬ (0 ≤ l.whereA ∧ l.whereA ≤ 2) ∨ ((0 ≤ l.whereA ∧ l.whereA ≤ 2) ∧ ¬ (1 ≤ l.amount ∧ l.amount ≤ 1125899906842624)) ∨ ((0 ≤ l.whereA ∧ l.whereA ≤ 2) ∧ (1 ≤ l.amount ∧ l.amount ≤ 1125899906842624)) by omega) with h1 | h1 | h1
  · skip
    refine k_region ?_
    refine s_run (w_none rfl) rfl (d_fa rfl rfl tf23_0) ?_
    refine s_run (w_none rfl) rfl (d_ld rfl H rfl ta3 rfl) ?_
    refine s_eff (e_call (w_none rfl) rfl rfl Tryz.func33 rfl rfl rfl (withinR _) ?_)
    rintro _ W ⟨rfl, hb⟩
    replace H := H.below hb
    clear hb
    refine s_run (w_none rfl) rfl (mv_bx (c := false) rfl rfl (by first | rfl | (simp; omega) | simp_all)) ?_
    refine s_skip (w_gno rfl rfl rfl rfl rfl) rfl ?_
    refine s_skip (w_gno rfl rfl rfl rfl rfl) rfl ?_
    refine s_skip (w_gno rfl rfl rfl rfl rfl) rfl ?_
    refine s_run (w_none rfl) rfl (d_pickF rfl rfl rfl) ?_
    refine s_run (w_none rfl) rfl (mv_bx (c := false) rfl rfl (by first | rfl | (simp; omega) | simp_all)) ?_
    refine s_skip (w_gno rfl rfl rfl rfl rfl) rfl ?_
    refine s_skip (w_gno rfl rfl rfl rfl rfl) rfl ?_
    refine s_skip (w_gno rfl rfl rfl rfl rfl) rfl ?_
    refine s_run (w_none rfl) rfl (d_pickF rfl rfl rfl) ?_
    refine s_run (w_none rfl) rfl (as_b rfl rfl) ?_
    refine l_nil ?_
    refine k_ret ?_
    repeat (first | refine r_then ?_ | refine r_blk ?_)
    exact q_ret (v := .bool _) rfl rfl ⟨_, rfl, vb (Bool.eq_iff_iff.2 (by unfold Rc.legOk; simp; omega)), H.under⟩
  · skip
    refine k_region ?_
    refine s_run (w_none rfl) rfl (d_fa rfl rfl tf23_0) ?_
    refine s_run (w_none rfl) rfl (d_ld rfl H rfl ta3 rfl) ?_
    refine s_eff (e_call (w_none rfl) rfl rfl Tryz.func33 rfl rfl rfl (withinR _) ?_)
    rintro _ W ⟨rfl, hb⟩
    replace H := H.below hb
    clear hb
    refine s_run (w_none rfl) rfl (mv_bx (c := true) rfl rfl (by first | rfl | (simp; omega) | simp_all)) ?_
    refine s_run (w_g rfl rfl rfl rfl) rfl (d_fa rfl rfl tf23_1) ?_
    refine s_run (w_g rfl rfl rfl rfl) rfl (d_ld rfl H rfl ta3 rfl) ?_
    refine s_eff (e_call (w_g rfl rfl rfl rfl) rfl rfl Tryz.func33 rfl rfl rfl (withinR _) ?_)
    rintro _ W ⟨rfl, hb⟩
    replace H := H.below hb
    clear hb
    refine s_run (w_none rfl) rfl (d_pickT rfl rfl rfl) ?_
    refine s_run (w_none rfl) rfl (mv_bx (c := false) rfl rfl (by first | rfl | (simp; omega) | simp_all)) ?_
    refine s_skip (w_gno rfl rfl rfl rfl rfl) rfl ?_
    refine s_skip (w_gno rfl rfl rfl rfl rfl) rfl ?_
    refine s_skip (w_gno rfl rfl rfl rfl rfl) rfl ?_
    refine s_run (w_none rfl) rfl (d_pickF rfl rfl rfl) ?_
    refine s_run (w_none rfl) rfl (as_b rfl rfl) ?_
    refine l_nil ?_
    refine k_ret ?_
    repeat (first | refine r_then ?_ | refine r_blk ?_)
    exact q_ret (v := .bool _) rfl rfl ⟨_, rfl, vb (Bool.eq_iff_iff.2 (by unfold Rc.legOk; simp; omega)), H.under⟩
  · skip
    refine k_region ?_
    refine s_run (w_none rfl) rfl (d_fa rfl rfl tf23_0) ?_
    refine s_run (w_none rfl) rfl (d_ld rfl H rfl ta3 rfl) ?_
    refine s_eff (e_call (w_none rfl) rfl rfl Tryz.func33 rfl rfl rfl (withinR _) ?_)
    rintro _ W ⟨rfl, hb⟩
    replace H := H.below hb
    clear hb
    refine s_run (w_none rfl) rfl (mv_bx (c := true) rfl rfl (by first | rfl | (simp; omega) | simp_all)) ?_
    refine s_run (w_g rfl rfl rfl rfl) rfl (d_fa rfl rfl tf23_1) ?_
    refine s_run (w_g rfl rfl rfl rfl) rfl (d_ld rfl H rfl ta3 rfl) ?_
    refine s_eff (e_call (w_g rfl rfl rfl rfl) rfl rfl Tryz.func33 rfl rfl rfl (withinR _) ?_)
    rintro _ W ⟨rfl, hb⟩
    replace H := H.below hb
    clear hb
    refine s_run (w_none rfl) rfl (d_pickT rfl rfl rfl) ?_
    refine s_run (w_none rfl) rfl (mv_bx (c := true) rfl rfl (by first | rfl | (simp; omega) | simp_all)) ?_
    refine s_run (w_g rfl rfl rfl rfl) rfl (d_fa rfl rfl tf23_2) ?_
    refine s_run (w_g rfl rfl rfl rfl) rfl (d_ld rfl H rfl ta3 rfl) ?_
    refine s_eff (e_call (w_g rfl rfl rfl rfl) rfl rfl Tryz.func33 rfl rfl rfl (withinR _) ?_)
    rintro _ W ⟨rfl, hb⟩
    replace H := H.below hb
    clear hb
    refine s_run (w_none rfl) rfl (d_pickT rfl rfl rfl) ?_
    refine s_run (w_none rfl) rfl (as_b rfl rfl) ?_
    refine l_nil ?_
    refine k_ret ?_
    repeat (first | refine r_then ?_ | refine r_blk ?_)
    exact q_ret (v := .bool _) rfl rfl ⟨_, rfl, vb (Bool.eq_iff_iff.2 (by unfold Rc.legOk; simp; omega)), H.under⟩

set_option maxHeartbeats 4000000 in
theorem noneT {S : Nat → Prop} {cs : List Value} {t : DTx} (w : World) (ht : RTx w S cs t) : Calls Tryz.prog 25 [.agg cs.toArray].toArray w (Ret (Is w (.bool (Rc.none t)))) := by
  obtain ⟨A, c, B, d, rfl, hI, hO, hk⟩ := tx_of ht
  rw [Rc.none_at]
  refine k_enter (l := [_]) Tryz.func25 rfl rfl ?_
  have H := St.start nT w
  refine k_seq ?_
  refine k_region ?_
  refine s_eff (e_box (vs := (txC A t.ins.length c B t.outs.length d t.lock)) (w_none rfl) rfl rfl rfl rfl H ?_)
  clear H; intro gm W H
  refine s_run (w_none rfl) rfl (as_b rfl rfl) ?_
  refine l_nil ?_
  refine k_seq ?_
  rcases (show ¬ (t.ins.length = 0) ∨ (t.ins.length = 0 ∧ ¬ (t.outs.length = 0)) ∨ (t.ins.length = 0 ∧ t.outs.length = 0) by omega) with h1 | h1 | h1
  · skip
    refine k_region ?_
    refine s_run (w_none rfl) rfl (d_fa rfl rfl tf31_0) ?_
    refine s_run (w_none rfl) rfl (d_ld rfl H rfl ta28 rfl) ?_
    refine s_run (w_none rfl) rfl (d_len rfl rfl tu28) ?_
    refine s_run (w_none rfl) rfl (d_eq rfl rfl rfl) ?_
    refine s_run (w_none rfl) rfl (mv_bx (c := false) rfl rfl (by first | rfl | (simp; omega) | simp_all)) ?_
    refine s_skip (w_gno rfl rfl rfl rfl rfl) rfl ?_
    refine s_skip (w_gno rfl rfl rfl rfl rfl) rfl ?_
    refine s_skip (w_gno rfl rfl rfl rfl rfl) rfl ?_
    refine s_skip (w_gno rfl rfl rfl rfl rfl) rfl ?_
    refine s_run (w_none rfl) rfl (d_pickF rfl rfl rfl) ?_
    refine s_run (w_none rfl) rfl (mv_bx (c := false) rfl rfl (by first | rfl | (simp; omega) | simp_all)) ?_
    refine s_skip (w_gno rfl rfl rfl rfl rfl) rfl ?_
    refine s_skip (w_gno rfl rfl rfl rfl rfl) rfl ?_
    refine s_skip (w_gno rfl rfl rfl rfl rfl) rfl ?_
    refine s_run (w_none rfl) rfl (d_pickF rfl rfl rfl) ?_
    refine s_run (w_none rfl) rfl (as_b rfl rfl) ?_
    refine l_nil ?_
    refine k_ret ?_
    repeat (first | refine r_then ?_ | refine r_blk ?_)
    exact q_ret (v := .bool _) rfl rfl ⟨_, rfl, vb (by first | (simp; omega) | simp_all), H.under⟩
  · skip
    refine k_region ?_
    refine s_run (w_none rfl) rfl (d_fa rfl rfl tf31_0) ?_
    refine s_run (w_none rfl) rfl (d_ld rfl H rfl ta28 rfl) ?_
    refine s_run (w_none rfl) rfl (d_len rfl rfl tu28) ?_
    refine s_run (w_none rfl) rfl (d_eq rfl rfl rfl) ?_
    refine s_run (w_none rfl) rfl (mv_bx (c := true) rfl rfl (by first | rfl | (simp; omega) | simp_all)) ?_
    refine s_run (w_g rfl rfl rfl rfl) rfl (d_fa rfl rfl tf31_1) ?_
    refine s_run (w_g rfl rfl rfl rfl) rfl (d_ld rfl H rfl ta29 rfl) ?_
    refine s_run (w_g rfl rfl rfl rfl) rfl (d_len rfl rfl tu29) ?_
    refine s_run (w_g rfl rfl rfl rfl) rfl (d_eq rfl rfl rfl) ?_
    refine s_run (w_none rfl) rfl (d_pickT rfl rfl rfl) ?_
    refine s_run (w_none rfl) rfl (mv_bx (c := false) rfl rfl (by first | rfl | (simp; omega) | simp_all)) ?_
    refine s_skip (w_gno rfl rfl rfl rfl rfl) rfl ?_
    refine s_skip (w_gno rfl rfl rfl rfl rfl) rfl ?_
    refine s_skip (w_gno rfl rfl rfl rfl rfl) rfl ?_
    refine s_run (w_none rfl) rfl (d_pickF rfl rfl rfl) ?_
    refine s_run (w_none rfl) rfl (as_b rfl rfl) ?_
    refine l_nil ?_
    refine k_ret ?_
    repeat (first | refine r_then ?_ | refine r_blk ?_)
    exact q_ret (v := .bool _) rfl rfl ⟨_, rfl, vb (by first | (simp; omega) | simp_all), H.under⟩
  · skip
    refine k_region ?_
    refine s_run (w_none rfl) rfl (d_fa rfl rfl tf31_0) ?_
    refine s_run (w_none rfl) rfl (d_ld rfl H rfl ta28 rfl) ?_
    refine s_run (w_none rfl) rfl (d_len rfl rfl tu28) ?_
    refine s_run (w_none rfl) rfl (d_eq rfl rfl rfl) ?_
    refine s_run (w_none rfl) rfl (mv_bx (c := true) rfl rfl (by first | rfl | (simp; omega) | simp_all)) ?_
    refine s_run (w_g rfl rfl rfl rfl) rfl (d_fa rfl rfl tf31_1) ?_
    refine s_run (w_g rfl rfl rfl rfl) rfl (d_ld rfl H rfl ta29 rfl) ?_
    refine s_run (w_g rfl rfl rfl rfl) rfl (d_len rfl rfl tu29) ?_
    refine s_run (w_g rfl rfl rfl rfl) rfl (d_eq rfl rfl rfl) ?_
    refine s_run (w_none rfl) rfl (d_pickT rfl rfl rfl) ?_
    refine s_run (w_none rfl) rfl (mv_bx (c := true) rfl rfl (by first | rfl | (simp; omega) | simp_all)) ?_
    refine s_run (w_g rfl rfl rfl rfl) rfl (d_fa rfl rfl tf31_2) ?_
    refine s_run (w_g rfl rfl rfl rfl) rfl (d_ld rfl H rfl ta3 rfl) ?_
    refine s_run (w_g rfl rfl rfl rfl) rfl (d_eq rfl rfl rfl) ?_
    refine s_run (w_none rfl) rfl (d_pickT rfl rfl rfl) ?_
    refine s_run (w_none rfl) rfl (as_b rfl rfl) ?_
    refine l_nil ?_
    refine k_ret ?_
    repeat (first | refine r_then ?_ | refine r_blk ?_)
    exact q_ret (v := .bool _) rfl rfl ⟨_, rfl, vb (by first | (simp; omega) | simp_all), H.under⟩

set_option maxHeartbeats 4000000 in
theorem dealT {d : DDeal} (w : World) (hh : d.hash.length = 32) : Calls Tryz.prog 10 [.agg (dealC d).toArray].toArray w (Ret (Is w (.int .i64 (Rc.checkDeal d)))) := by
  refine k_enter (l := [_]) Tryz.func10 rfl rfl ?_
  have H := St.start nT w
  refine k_seq ?_
  refine k_region ?_
  refine s_eff (e_box (vs := (dealC d)) (w_none rfl) rfl rfl rfl rfl H ?_)
  clear H; intro gd W H
  refine s_run (w_none rfl) rfl (as_i rfl rfl) ?_
  refine l_nil ?_
  refine k_seq ?_
  refine k_seq ?_
  rcases Rc.deal_cases d with h1 | h1 | h1 | h1 | h1 | h1
  · skip
    refine k_region ?_
    refine s_run (w_none rfl) rfl (d_fa rfl rfl tf27_0) ?_
    refine s_run (w_none rfl) rfl (d_ldX (off := 0) rfl H rfl rfl rfl ta3) ?_
    refine s_eff (e_call (w_none rfl) rfl rfl Tryz.func33 rfl rfl rfl (withinR _) ?_)
    rintro _ W ⟨rfl, hb⟩
    replace H := H.below hb
    clear hb
    refine s_run (w_none rfl) rfl (d_not rfl rfl) ?_
    refine s_run (w_none rfl) rfl (mv_bx (c := true) rfl rfl (by first | rfl | (simp; omega) | simp_all)) ?_
    refine s_skip (w_gno rfl rfl rfl rfl rfl) rfl ?_
    refine s_skip (w_gno rfl rfl rfl rfl rfl) rfl ?_
    refine s_skip (w_gno rfl rfl rfl rfl rfl) rfl ?_
    refine s_skip (w_gno rfl rfl rfl rfl rfl) rfl ?_
    refine s_run (w_none rfl) rfl (d_pickT rfl rfl rfl) ?_
    refine s_run (w_none rfl) rfl (mv_bx (c := true) rfl rfl (by first | rfl | (simp; omega) | simp_all)) ?_
    refine s_skip (w_gno rfl rfl rfl rfl rfl) rfl ?_
    refine s_skip (w_gno rfl rfl rfl rfl rfl) rfl ?_
    refine s_skip (w_gno rfl rfl rfl rfl rfl) rfl ?_
    refine s_skip (w_gno rfl rfl rfl rfl rfl) rfl ?_
    refine s_run (w_none rfl) rfl (d_pickT rfl rfl rfl) ?_
    refine s_run (w_none rfl) rfl (mv_bx (c := true) rfl rfl (by first | rfl | (simp [h1]; done) | simp_all)) ?_
    refine s_skip (w_gno rfl rfl rfl rfl rfl) rfl ?_
    refine s_skip (w_gno rfl rfl rfl rfl rfl) rfl ?_
    refine s_skip (w_gno rfl rfl rfl rfl rfl) rfl ?_
    refine s_skip (w_gno rfl rfl rfl rfl rfl) rfl ?_
    refine s_run (w_none rfl) rfl (d_pickT rfl rfl rfl) ?_
    refine s_run (w_none rfl) rfl (mv_bx (c := true) rfl rfl (by first | rfl | (simp [h1]; done) | simp_all)) ?_
    refine s_skip (w_gno rfl rfl rfl rfl rfl) rfl ?_
    refine s_skip (w_gno rfl rfl rfl rfl rfl) rfl ?_
    refine s_skip (w_gno rfl rfl rfl rfl rfl) rfl ?_
    refine s_skip (w_gno rfl rfl rfl rfl rfl) rfl ?_
    refine s_skip (w_gno rfl rfl rfl rfl rfl) rfl ?_
    refine s_skip (w_gno rfl rfl rfl rfl rfl) rfl ?_
    refine s_skip (w_gno rfl rfl rfl rfl rfl) rfl ?_
    refine s_run (w_none rfl) rfl (d_pickT rfl rfl rfl) ?_
    refine s_run (w_none rfl) rfl (mv_bx (c := true) rfl rfl (by first | rfl | (simp [h1]; done) | simp_all)) ?_
    refine s_skip (w_gno rfl rfl rfl rfl rfl) rfl ?_
    refine s_skip (w_gno rfl rfl rfl rfl rfl) rfl ?_
    refine s_skip (w_gno rfl rfl rfl rfl rfl) rfl ?_
    refine s_skip (w_gno rfl rfl rfl rfl rfl) rfl ?_
    refine s_run (w_none rfl) rfl (d_pickT rfl rfl rfl) ?_
    refine l_nil ?_
    refine k_condT rfl rfl ?_
    refine k_seq ?_
    refine k_region ?_
    refine s_run (w_none rfl) rfl (as_i rfl rfl) ?_
    refine l_nil ?_
    refine k_ret ?_
    repeat (first | refine r_then ?_ | refine r_blk ?_)
    have hn : ¬ Rc.dealOk d = true := fun e => by obtain ⟨a1, a2, a3, a4, a5, a6⟩ := Rc.deal_of e; first | omega | simp_all
    exact q_ret (v := .int _ _) rfl rfl ⟨_, rfl, vi (Rc.deal_no hn).symm, H.under⟩
  · skip
    refine k_region ?_
    refine s_run (w_none rfl) rfl (d_fa rfl rfl tf27_0) ?_
    refine s_run (w_none rfl) rfl (d_ldX (off := 0) rfl H rfl rfl rfl ta3) ?_
    refine s_eff (e_call (w_none rfl) rfl rfl Tryz.func33 rfl rfl rfl (withinR _) ?_)
    rintro _ W ⟨rfl, hb⟩
    replace H := H.below hb
    clear hb
    refine s_run (w_none rfl) rfl (d_not rfl rfl) ?_
    refine s_run (w_none rfl) rfl (mv_bx (c := false) rfl rfl (by first | rfl | (simp; omega) | simp_all)) ?_
    refine s_run (w_g rfl rfl rfl rfl) rfl (d_fa rfl rfl tf27_1) ?_
    refine s_run (w_g rfl rfl rfl rfl) rfl (d_ldX (off := 1) rfl H rfl rfl rfl ta3) ?_
    refine s_eff (e_call (w_g rfl rfl rfl rfl) rfl rfl Tryz.func33 rfl rfl rfl (withinR _) ?_)
    rintro _ W ⟨rfl, hb⟩
    replace H := H.below hb
    clear hb
    refine s_run (w_g rfl rfl rfl rfl) rfl (d_not rfl rfl) ?_
    refine s_run (w_none rfl) rfl (d_pickF rfl rfl rfl) ?_
    refine s_run (w_none rfl) rfl (mv_bx (c := true) rfl rfl (by first | rfl | (simp; omega) | simp_all)) ?_
    refine s_skip (w_gno rfl rfl rfl rfl rfl) rfl ?_
    refine s_skip (w_gno rfl rfl rfl rfl rfl) rfl ?_
    refine s_skip (w_gno rfl rfl rfl rfl rfl) rfl ?_
    refine s_skip (w_gno rfl rfl rfl rfl rfl) rfl ?_
    refine s_run (w_none rfl) rfl (d_pickT rfl rfl rfl) ?_
    refine s_run (w_none rfl) rfl (mv_bx (c := true) rfl rfl (by first | rfl | (simp [h1]; done) | simp_all)) ?_
    refine s_skip (w_gno rfl rfl rfl rfl rfl) rfl ?_
    refine s_skip (w_gno rfl rfl rfl rfl rfl) rfl ?_
    refine s_skip (w_gno rfl rfl rfl rfl rfl) rfl ?_
    refine s_skip (w_gno rfl rfl rfl rfl rfl) rfl ?_
    refine s_run (w_none rfl) rfl (d_pickT rfl rfl rfl) ?_
    refine s_run (w_none rfl) rfl (mv_bx (c := true) rfl rfl (by first | rfl | (simp [h1]; done) | simp_all)) ?_
    refine s_skip (w_gno rfl rfl rfl rfl rfl) rfl ?_
    refine s_skip (w_gno rfl rfl rfl rfl rfl) rfl ?_
    refine s_skip (w_gno rfl rfl rfl rfl rfl) rfl ?_
    refine s_skip (w_gno rfl rfl rfl rfl rfl) rfl ?_
    refine s_skip (w_gno rfl rfl rfl rfl rfl) rfl ?_
    refine s_skip (w_gno rfl rfl rfl rfl rfl) rfl ?_
    refine s_skip (w_gno rfl rfl rfl rfl rfl) rfl ?_
    refine s_run (w_none rfl) rfl (d_pickT rfl rfl rfl) ?_
    refine s_run (w_none rfl) rfl (mv_bx (c := true) rfl rfl (by first | rfl | (simp [h1]; done) | simp_all)) ?_
    refine s_skip (w_gno rfl rfl rfl rfl rfl) rfl ?_
    refine s_skip (w_gno rfl rfl rfl rfl rfl) rfl ?_
    refine s_skip (w_gno rfl rfl rfl rfl rfl) rfl ?_
    refine s_skip (w_gno rfl rfl rfl rfl rfl) rfl ?_
    refine s_run (w_none rfl) rfl (d_pickT rfl rfl rfl) ?_
    refine l_nil ?_
    refine k_condT rfl rfl ?_
    refine k_seq ?_
    refine k_region ?_
    refine s_run (w_none rfl) rfl (as_i rfl rfl) ?_
    refine l_nil ?_
    refine k_ret ?_
    repeat (first | refine r_then ?_ | refine r_blk ?_)
    have hn : ¬ Rc.dealOk d = true := fun e => by obtain ⟨a1, a2, a3, a4, a5, a6⟩ := Rc.deal_of e; first | omega | simp_all
    exact q_ret (v := .int _ _) rfl rfl ⟨_, rfl, vi (Rc.deal_no hn).symm, H.under⟩
  · skip
    refine k_region ?_
    refine s_run (w_none rfl) rfl (d_fa rfl rfl tf27_0) ?_
    refine s_run (w_none rfl) rfl (d_ldX (off := 0) rfl H rfl rfl rfl ta3) ?_
    refine s_eff (e_call (w_none rfl) rfl rfl Tryz.func33 rfl rfl rfl (withinR _) ?_)
    rintro _ W ⟨rfl, hb⟩
    replace H := H.below hb
    clear hb
    refine s_run (w_none rfl) rfl (d_not rfl rfl) ?_
    refine s_run (w_none rfl) rfl (mv_bx (c := false) rfl rfl (by first | rfl | (simp; omega) | simp_all)) ?_
    refine s_run (w_g rfl rfl rfl rfl) rfl (d_fa rfl rfl tf27_1) ?_
    refine s_run (w_g rfl rfl rfl rfl) rfl (d_ldX (off := 1) rfl H rfl rfl rfl ta3) ?_
    refine s_eff (e_call (w_g rfl rfl rfl rfl) rfl rfl Tryz.func33 rfl rfl rfl (withinR _) ?_)
    rintro _ W ⟨rfl, hb⟩
    replace H := H.below hb
    clear hb
    refine s_run (w_g rfl rfl rfl rfl) rfl (d_not rfl rfl) ?_
    refine s_run (w_none rfl) rfl (d_pickF rfl rfl rfl) ?_
    refine s_run (w_none rfl) rfl (mv_bx (c := false) rfl rfl (by first | rfl | (simp; omega) | simp_all)) ?_
    refine s_run (w_g rfl rfl rfl rfl) rfl (d_fa rfl rfl tf27_2) ?_
    refine s_run (w_g rfl rfl rfl rfl) rfl (d_ldXM (g := gd) (cs := legC d.paid) (off := 2) rfl H rfl rfl rfl rfl rfl ta23 ts23) ?_
    refine s_eff (e_call (w_g rfl rfl rfl rfl) rfl rfl Tryz.func34 rfl rfl rfl (legT (l := d.paid) _) ?_)
    rintro _ W ⟨rfl, hb⟩
    replace H := H.below hb
    clear hb
    refine s_run (w_g rfl rfl rfl rfl) rfl (d_not rfl rfl) ?_
    refine s_run (w_none rfl) rfl (d_pickF rfl rfl rfl) ?_
    refine s_run (w_none rfl) rfl (mv_bx (c := true) rfl rfl (by first | rfl | (simp [h1]; done) | simp_all)) ?_
    refine s_skip (w_gno rfl rfl rfl rfl rfl) rfl ?_
    refine s_skip (w_gno rfl rfl rfl rfl rfl) rfl ?_
    refine s_skip (w_gno rfl rfl rfl rfl rfl) rfl ?_
    refine s_skip (w_gno rfl rfl rfl rfl rfl) rfl ?_
    refine s_run (w_none rfl) rfl (d_pickT rfl rfl rfl) ?_
    refine s_run (w_none rfl) rfl (mv_bx (c := true) rfl rfl (by first | rfl | (simp [h1]; done) | simp_all)) ?_
    refine s_skip (w_gno rfl rfl rfl rfl rfl) rfl ?_
    refine s_skip (w_gno rfl rfl rfl rfl rfl) rfl ?_
    refine s_skip (w_gno rfl rfl rfl rfl rfl) rfl ?_
    refine s_skip (w_gno rfl rfl rfl rfl rfl) rfl ?_
    refine s_skip (w_gno rfl rfl rfl rfl rfl) rfl ?_
    refine s_skip (w_gno rfl rfl rfl rfl rfl) rfl ?_
    refine s_skip (w_gno rfl rfl rfl rfl rfl) rfl ?_
    refine s_run (w_none rfl) rfl (d_pickT rfl rfl rfl) ?_
    refine s_run (w_none rfl) rfl (mv_bx (c := true) rfl rfl (by first | rfl | (simp [h1]; done) | simp_all)) ?_
    refine s_skip (w_gno rfl rfl rfl rfl rfl) rfl ?_
    refine s_skip (w_gno rfl rfl rfl rfl rfl) rfl ?_
    refine s_skip (w_gno rfl rfl rfl rfl rfl) rfl ?_
    refine s_skip (w_gno rfl rfl rfl rfl rfl) rfl ?_
    refine s_run (w_none rfl) rfl (d_pickT rfl rfl rfl) ?_
    refine l_nil ?_
    refine k_condT rfl rfl ?_
    refine k_seq ?_
    refine k_region ?_
    refine s_run (w_none rfl) rfl (as_i rfl rfl) ?_
    refine l_nil ?_
    refine k_ret ?_
    repeat (first | refine r_then ?_ | refine r_blk ?_)
    have hn : ¬ Rc.dealOk d = true := fun e => by obtain ⟨a1, a2, a3, a4, a5, a6⟩ := Rc.deal_of e; first | omega | simp_all
    exact q_ret (v := .int _ _) rfl rfl ⟨_, rfl, vi (Rc.deal_no hn).symm, H.under⟩
  · skip
    refine k_region ?_
    refine s_run (w_none rfl) rfl (d_fa rfl rfl tf27_0) ?_
    refine s_run (w_none rfl) rfl (d_ldX (off := 0) rfl H rfl rfl rfl ta3) ?_
    refine s_eff (e_call (w_none rfl) rfl rfl Tryz.func33 rfl rfl rfl (withinR _) ?_)
    rintro _ W ⟨rfl, hb⟩
    replace H := H.below hb
    clear hb
    refine s_run (w_none rfl) rfl (d_not rfl rfl) ?_
    refine s_run (w_none rfl) rfl (mv_bx (c := false) rfl rfl (by first | rfl | (simp; omega) | simp_all)) ?_
    refine s_run (w_g rfl rfl rfl rfl) rfl (d_fa rfl rfl tf27_1) ?_
    refine s_run (w_g rfl rfl rfl rfl) rfl (d_ldX (off := 1) rfl H rfl rfl rfl ta3) ?_
    refine s_eff (e_call (w_g rfl rfl rfl rfl) rfl rfl Tryz.func33 rfl rfl rfl (withinR _) ?_)
    rintro _ W ⟨rfl, hb⟩
    replace H := H.below hb
    clear hb
    refine s_run (w_g rfl rfl rfl rfl) rfl (d_not rfl rfl) ?_
    refine s_run (w_none rfl) rfl (d_pickF rfl rfl rfl) ?_
    refine s_run (w_none rfl) rfl (mv_bx (c := false) rfl rfl (by first | rfl | (simp; omega) | simp_all)) ?_
    refine s_run (w_g rfl rfl rfl rfl) rfl (d_fa rfl rfl tf27_2) ?_
    refine s_run (w_g rfl rfl rfl rfl) rfl (d_ldXM (g := gd) (cs := legC d.paid) (off := 2) rfl H rfl rfl rfl rfl rfl ta23 ts23) ?_
    refine s_eff (e_call (w_g rfl rfl rfl rfl) rfl rfl Tryz.func34 rfl rfl rfl (legT (l := d.paid) _) ?_)
    rintro _ W ⟨rfl, hb⟩
    replace H := H.below hb
    clear hb
    refine s_run (w_g rfl rfl rfl rfl) rfl (d_not rfl rfl) ?_
    refine s_run (w_none rfl) rfl (d_pickF rfl rfl rfl) ?_
    refine s_run (w_none rfl) rfl (mv_bx (c := false) rfl rfl (by first | rfl | (simp [h1]; done) | simp_all)) ?_
    refine s_run (w_g rfl rfl rfl rfl) rfl (d_fa rfl rfl tf27_3) ?_
    refine s_run (w_g rfl rfl rfl rfl) rfl (d_ldXM (g := gd) (cs := legC d.got) (off := 5) rfl H rfl rfl rfl rfl rfl ta23 ts23) ?_
    refine s_eff (e_call (w_g rfl rfl rfl rfl) rfl rfl Tryz.func34 rfl rfl rfl (legT (l := d.got) _) ?_)
    rintro _ W ⟨rfl, hb⟩
    replace H := H.below hb
    clear hb
    refine s_run (w_g rfl rfl rfl rfl) rfl (d_not rfl rfl) ?_
    refine s_run (w_none rfl) rfl (d_pickF rfl rfl rfl) ?_
    refine s_run (w_none rfl) rfl (mv_bx (c := true) rfl rfl (by first | rfl | (simp [h1]; done) | simp_all)) ?_
    refine s_skip (w_gno rfl rfl rfl rfl rfl) rfl ?_
    refine s_skip (w_gno rfl rfl rfl rfl rfl) rfl ?_
    refine s_skip (w_gno rfl rfl rfl rfl rfl) rfl ?_
    refine s_skip (w_gno rfl rfl rfl rfl rfl) rfl ?_
    refine s_skip (w_gno rfl rfl rfl rfl rfl) rfl ?_
    refine s_skip (w_gno rfl rfl rfl rfl rfl) rfl ?_
    refine s_skip (w_gno rfl rfl rfl rfl rfl) rfl ?_
    refine s_run (w_none rfl) rfl (d_pickT rfl rfl rfl) ?_
    refine s_run (w_none rfl) rfl (mv_bx (c := true) rfl rfl (by first | rfl | (simp [h1]; done) | simp_all)) ?_
    refine s_skip (w_gno rfl rfl rfl rfl rfl) rfl ?_
    refine s_skip (w_gno rfl rfl rfl rfl rfl) rfl ?_
    refine s_skip (w_gno rfl rfl rfl rfl rfl) rfl ?_
    refine s_skip (w_gno rfl rfl rfl rfl rfl) rfl ?_
    refine s_run (w_none rfl) rfl (d_pickT rfl rfl rfl) ?_
    refine l_nil ?_
    refine k_condT rfl rfl ?_
    refine k_seq ?_
    refine k_region ?_
    refine s_run (w_none rfl) rfl (as_i rfl rfl) ?_
    refine l_nil ?_
    refine k_ret ?_
    repeat (first | refine r_then ?_ | refine r_blk ?_)
    have hn : ¬ Rc.dealOk d = true := fun e => by obtain ⟨a1, a2, a3, a4, a5, a6⟩ := Rc.deal_of e; first | omega | simp_all
    exact q_ret (v := .int _ _) rfl rfl ⟨_, rfl, vi (Rc.deal_no hn).symm, H.under⟩
  · skip
    refine k_region ?_
    refine s_run (w_none rfl) rfl (d_fa rfl rfl tf27_0) ?_
    refine s_run (w_none rfl) rfl (d_ldX (off := 0) rfl H rfl rfl rfl ta3) ?_
    refine s_eff (e_call (w_none rfl) rfl rfl Tryz.func33 rfl rfl rfl (withinR _) ?_)
    rintro _ W ⟨rfl, hb⟩
    replace H := H.below hb
    clear hb
    refine s_run (w_none rfl) rfl (d_not rfl rfl) ?_
    refine s_run (w_none rfl) rfl (mv_bx (c := false) rfl rfl (by first | rfl | (simp; omega) | simp_all)) ?_
    refine s_run (w_g rfl rfl rfl rfl) rfl (d_fa rfl rfl tf27_1) ?_
    refine s_run (w_g rfl rfl rfl rfl) rfl (d_ldX (off := 1) rfl H rfl rfl rfl ta3) ?_
    refine s_eff (e_call (w_g rfl rfl rfl rfl) rfl rfl Tryz.func33 rfl rfl rfl (withinR _) ?_)
    rintro _ W ⟨rfl, hb⟩
    replace H := H.below hb
    clear hb
    refine s_run (w_g rfl rfl rfl rfl) rfl (d_not rfl rfl) ?_
    refine s_run (w_none rfl) rfl (d_pickF rfl rfl rfl) ?_
    refine s_run (w_none rfl) rfl (mv_bx (c := false) rfl rfl (by first | rfl | (simp; omega) | simp_all)) ?_
    refine s_run (w_g rfl rfl rfl rfl) rfl (d_fa rfl rfl tf27_2) ?_
    refine s_run (w_g rfl rfl rfl rfl) rfl (d_ldXM (g := gd) (cs := legC d.paid) (off := 2) rfl H rfl rfl rfl rfl rfl ta23 ts23) ?_
    refine s_eff (e_call (w_g rfl rfl rfl rfl) rfl rfl Tryz.func34 rfl rfl rfl (legT (l := d.paid) _) ?_)
    rintro _ W ⟨rfl, hb⟩
    replace H := H.below hb
    clear hb
    refine s_run (w_g rfl rfl rfl rfl) rfl (d_not rfl rfl) ?_
    refine s_run (w_none rfl) rfl (d_pickF rfl rfl rfl) ?_
    refine s_run (w_none rfl) rfl (mv_bx (c := false) rfl rfl (by first | rfl | (simp [h1]; done) | simp_all)) ?_
    refine s_run (w_g rfl rfl rfl rfl) rfl (d_fa rfl rfl tf27_3) ?_
    refine s_run (w_g rfl rfl rfl rfl) rfl (d_ldXM (g := gd) (cs := legC d.got) (off := 5) rfl H rfl rfl rfl rfl rfl ta23 ts23) ?_
    refine s_eff (e_call (w_g rfl rfl rfl rfl) rfl rfl Tryz.func34 rfl rfl rfl (legT (l := d.got) _) ?_)
    rintro _ W ⟨rfl, hb⟩
    replace H := H.below hb
    clear hb
    refine s_run (w_g rfl rfl rfl rfl) rfl (d_not rfl rfl) ?_
    refine s_run (w_none rfl) rfl (d_pickF rfl rfl rfl) ?_
    refine s_run (w_none rfl) rfl (mv_bx (c := false) rfl rfl (by first | rfl | (simp [h1]; done) | simp_all)) ?_
    refine s_run (w_g rfl rfl rfl rfl) rfl (d_fa rfl rfl tf27_2) ?_
    refine s_run (w_g rfl rfl rfl rfl) rfl (d_fa rfl rfl tf23_0) ?_
    refine s_run (w_g rfl rfl rfl rfl) rfl (d_ldX (off := 2) rfl H rfl rfl rfl ta3) ?_
    refine s_run (w_g rfl rfl rfl rfl) rfl (d_fa rfl rfl tf27_3) ?_
    refine s_run (w_g rfl rfl rfl rfl) rfl (d_fa rfl rfl tf23_0) ?_
    refine s_run (w_g rfl rfl rfl rfl) rfl (d_ldX (off := 5) rfl H rfl rfl rfl ta3) ?_
    refine s_run (w_g rfl rfl rfl rfl) rfl (d_eq rfl rfl rfl) ?_
    refine s_run (w_none rfl) rfl (d_pickF rfl rfl rfl) ?_
    refine s_run (w_none rfl) rfl (mv_bx (c := true) rfl rfl (by first | rfl | (simp [h1]; done) | simp_all)) ?_
    refine s_skip (w_gno rfl rfl rfl rfl rfl) rfl ?_
    refine s_skip (w_gno rfl rfl rfl rfl rfl) rfl ?_
    refine s_skip (w_gno rfl rfl rfl rfl rfl) rfl ?_
    refine s_skip (w_gno rfl rfl rfl rfl rfl) rfl ?_
    refine s_run (w_none rfl) rfl (d_pickT rfl rfl rfl) ?_
    refine l_nil ?_
    refine k_condT rfl rfl ?_
    refine k_seq ?_
    refine k_region ?_
    refine s_run (w_none rfl) rfl (as_i rfl rfl) ?_
    refine l_nil ?_
    refine k_ret ?_
    repeat (first | refine r_then ?_ | refine r_blk ?_)
    have hn : ¬ Rc.dealOk d = true := fun e => by obtain ⟨a1, a2, a3, a4, a5, a6⟩ := Rc.deal_of e; first | omega | simp_all
    exact q_ret (v := .int _ _) rfl rfl ⟨_, rfl, vi (Rc.deal_no hn).symm, H.under⟩
  · skip
    refine k_region ?_
    refine s_run (w_none rfl) rfl (d_fa rfl rfl tf27_0) ?_
    refine s_run (w_none rfl) rfl (d_ldX (off := 0) rfl H rfl rfl rfl ta3) ?_
    refine s_eff (e_call (w_none rfl) rfl rfl Tryz.func33 rfl rfl rfl (withinR _) ?_)
    rintro _ W ⟨rfl, hb⟩
    replace H := H.below hb
    clear hb
    refine s_run (w_none rfl) rfl (d_not rfl rfl) ?_
    refine s_run (w_none rfl) rfl (mv_bx (c := false) rfl rfl (by first | rfl | (simp; omega) | simp_all)) ?_
    refine s_run (w_g rfl rfl rfl rfl) rfl (d_fa rfl rfl tf27_1) ?_
    refine s_run (w_g rfl rfl rfl rfl) rfl (d_ldX (off := 1) rfl H rfl rfl rfl ta3) ?_
    refine s_eff (e_call (w_g rfl rfl rfl rfl) rfl rfl Tryz.func33 rfl rfl rfl (withinR _) ?_)
    rintro _ W ⟨rfl, hb⟩
    replace H := H.below hb
    clear hb
    refine s_run (w_g rfl rfl rfl rfl) rfl (d_not rfl rfl) ?_
    refine s_run (w_none rfl) rfl (d_pickF rfl rfl rfl) ?_
    refine s_run (w_none rfl) rfl (mv_bx (c := false) rfl rfl (by first | rfl | (simp; omega) | simp_all)) ?_
    refine s_run (w_g rfl rfl rfl rfl) rfl (d_fa rfl rfl tf27_2) ?_
    refine s_run (w_g rfl rfl rfl rfl) rfl (d_ldXM (g := gd) (cs := legC d.paid) (off := 2) rfl H rfl rfl rfl rfl rfl ta23 ts23) ?_
    refine s_eff (e_call (w_g rfl rfl rfl rfl) rfl rfl Tryz.func34 rfl rfl rfl (legT (l := d.paid) _) ?_)
    rintro _ W ⟨rfl, hb⟩
    replace H := H.below hb
    clear hb
    refine s_run (w_g rfl rfl rfl rfl) rfl (d_not rfl rfl) ?_
    refine s_run (w_none rfl) rfl (d_pickF rfl rfl rfl) ?_
    refine s_run (w_none rfl) rfl (mv_bx (c := false) rfl rfl (by first | rfl | (simp [h1]; done) | simp_all)) ?_
    refine s_run (w_g rfl rfl rfl rfl) rfl (d_fa rfl rfl tf27_3) ?_
    refine s_run (w_g rfl rfl rfl rfl) rfl (d_ldXM (g := gd) (cs := legC d.got) (off := 5) rfl H rfl rfl rfl rfl rfl ta23 ts23) ?_
    refine s_eff (e_call (w_g rfl rfl rfl rfl) rfl rfl Tryz.func34 rfl rfl rfl (legT (l := d.got) _) ?_)
    rintro _ W ⟨rfl, hb⟩
    replace H := H.below hb
    clear hb
    refine s_run (w_g rfl rfl rfl rfl) rfl (d_not rfl rfl) ?_
    refine s_run (w_none rfl) rfl (d_pickF rfl rfl rfl) ?_
    refine s_run (w_none rfl) rfl (mv_bx (c := false) rfl rfl (by first | rfl | (simp [h1]; done) | simp_all)) ?_
    refine s_run (w_g rfl rfl rfl rfl) rfl (d_fa rfl rfl tf27_2) ?_
    refine s_run (w_g rfl rfl rfl rfl) rfl (d_fa rfl rfl tf23_0) ?_
    refine s_run (w_g rfl rfl rfl rfl) rfl (d_ldX (off := 2) rfl H rfl rfl rfl ta3) ?_
    refine s_run (w_g rfl rfl rfl rfl) rfl (d_fa rfl rfl tf27_3) ?_
    refine s_run (w_g rfl rfl rfl rfl) rfl (d_fa rfl rfl tf23_0) ?_
    refine s_run (w_g rfl rfl rfl rfl) rfl (d_ldX (off := 5) rfl H rfl rfl rfl ta3) ?_
    refine s_run (w_g rfl rfl rfl rfl) rfl (d_eq rfl rfl rfl) ?_
    refine s_run (w_none rfl) rfl (d_pickF rfl rfl rfl) ?_
    refine s_run (w_none rfl) rfl (mv_bx (c := false) rfl rfl (by first | rfl | (simp [h1]; done) | simp_all)) ?_
    refine s_run (w_g rfl rfl rfl rfl) rfl (d_fa rfl rfl tf27_5) ?_
    refine s_run (w_g rfl rfl rfl rfl) rfl (d_ldX (off := 40) rfl H (sub_d_peer hh) rfl rfl ta3) ?_
    refine s_eff (e_call (w_g rfl rfl rfl rfl) rfl rfl Tryz.func33 rfl rfl rfl (withinR _) ?_)
    rintro _ W ⟨rfl, hb⟩
    replace H := H.below hb
    clear hb
    refine s_run (w_g rfl rfl rfl rfl) rfl (d_not rfl rfl) ?_
    refine s_run (w_none rfl) rfl (d_pickF rfl rfl rfl) ?_
    refine l_nil ?_
    refine k_cond rfl (fun hc39 => ?_) (fun hc39 => ?_)
    · have hn : ¬ Rc.dealOk d = true := fun e => by have := Rc.deal_of e; simp at hc39; omega
      refine k_seq ?_
      refine k_region ?_
      refine s_run (w_none rfl) rfl (as_i rfl rfl) ?_
      refine l_nil ?_
      refine k_ret ?_
      repeat (first | refine r_then ?_ | refine r_blk ?_)
      exact q_ret (v := .int _ _) rfl rfl ⟨_, rfl, vi (Rc.deal_no hn).symm, H.under⟩
    · have hn : Rc.dealOk d = true := Rc.deal_mk h1.1 h1.2.1 h1.2.2.1 h1.2.2.2.1 h1.2.2.2.2 (by simp at hc39; omega)
      refine k_skip ?_
      refine k_seq ?_
      refine k_region ?_
      refine s_run (w_none rfl) rfl (as_i rfl rfl) ?_
      refine l_nil ?_
      refine k_ret ?_
      repeat (first | refine r_then ?_ | refine r_blk ?_)
      exact q_ret (v := .int _ _) rfl rfl ⟨_, rfl, vi (Rc.deal_yes hn).symm, H.under⟩
end Go.Proofs.YtfjhmecmhchbdaaGreatDoor

namespace Go.Proofs.YtfjhmecmhchbdaaGreatDoor
open Go Go.RowKit
attribute [local irreducible] wpList

set_option maxHeartbeats 4000000 in
theorem ownT {S : Nat → Prop} {ct : List Value} {r : DRecord} (w : World) (ho : Rc.Ok r) (ht : RTx w S ct r.tx) : Calls Tryz.prog 36 [.agg (recC r ct).toArray].toArray w (Ret (Is w (.int .i64 (Rc.own r)))) := by
  obtain ⟨A, c, B, d, rfl, hI, hO, hk⟩ := tx_of ht
  refine k_enter (l := [_]) Tryz.func36 rfl rfl ?_
  have H := St.start nT w
  refine k_seq ?_
  refine k_region ?_
  refine s_eff (e_box (vs := (recC r (txC A r.tx.ins.length c B r.tx.outs.length d r.tx.lock))) (w_none rfl) rfl rfl rfl rfl H ?_)
  clear H; intro gm W H
  refine s_run (w_none rfl) rfl (as_i rfl rfl) ?_
  refine l_nil ?_
  refine k_seq ?_
  refine k_region ?_
  refine s_run (w_none rfl) rfl (as_b rfl rfl) ?_
  refine l_nil ?_
  refine k_seq ?_
  refine k_seq ?_
  rcases Rc.own_cases r with h1 | h1 | h1 | h1 | h1 | h1 | h1 | h1
  · skip
    refine k_region ?_
    refine s_run (w_none rfl) rfl (d_fa rfl rfl tf33_0) ?_
    refine s_run (w_none rfl) rfl (d_ldX (off := 0) rfl H rfl rfl rfl ta3) ?_
    refine l_nil ?_
    refine k_block ?_
    refine k_seq ?_
    refine k_region ?_
    refine s_run (w_none rfl) rfl (d_eq rfl rfl rfl) ?_
    refine s_run (w_none rfl) rfl (as_b rfl rfl) ?_
    refine l_nil ?_
    refine k_condT rfl (by first | rfl | (simp; omega) | (simp; done) | simp_all) ?_
    refine k_region ?_
    refine s_run (w_none rfl) rfl (d_fa rfl rfl tf33_2) ?_
    refine s_run (w_none rfl) rfl (d_ldXM (off := 2) rfl H (sub_r_deal ho) (len_deal ho.2.2.1.2.2.2.2.1) rfl rfl rfl ta27 ts27) ?_
    refine s_eff (e_call (w_none rfl) rfl rfl Tryz.func10 rfl rfl rfl (dealT (d := r.deal) _ ho.2.2.1.2.2.2.2.1) ?_)
    rintro _ W ⟨rfl, hb⟩
    replace H := H.below hb
    clear hb
    refine s_run (w_none rfl) rfl (d_eq rfl rfl rfl) ?_
    refine s_run (w_none rfl) rfl (mv_bx (c := false) rfl rfl (by first | (rw [Rc.deal_yes h1.2.1]; rfl) | (rw [Rc.deal_no (by rw [h1.2]; simp)]; rfl))) ?_
    refine s_skip (w_gno rfl rfl rfl rfl rfl) rfl ?_
    refine s_skip (w_gno rfl rfl rfl rfl rfl) rfl ?_
    refine s_skip (w_gno rfl rfl rfl rfl rfl) rfl ?_
    refine s_skip (w_gno rfl rfl rfl rfl rfl) rfl ?_
    refine s_skip (w_gno rfl rfl rfl rfl rfl) rfl ?_
    refine s_skip (w_gno rfl rfl rfl rfl rfl) rfl ?_
    refine s_run (w_none rfl) rfl (d_pickF rfl rfl rfl) ?_
    refine s_run (w_none rfl) rfl (as_b rfl rfl) ?_
    refine l_nil ?_
    refine k_nil ?_
    refine b_end ?_
    refine k_seq ?_
    refine k_block ?_
    refine k_seq ?_
    refine k_region ?_
    refine s_run (w_none rfl) rfl (mv_b rfl rfl) ?_
    refine s_run (w_none rfl) rfl (d_not rfl rfl) ?_
    refine s_run (w_none rfl) rfl (mv_bx (c := true) rfl rfl (by first | rfl | (simp [h1]; done) | (simp; omega) | simp_all)) ?_
    refine s_skip (w_gno rfl rfl rfl rfl rfl) rfl ?_
    refine s_skip (w_gno rfl rfl rfl rfl rfl) rfl ?_
    refine s_skip (w_gno rfl rfl rfl rfl rfl) rfl ?_
    refine s_skip (w_gno rfl rfl rfl rfl rfl) rfl ?_
    refine s_run (w_none rfl) rfl (d_pickT rfl rfl rfl) ?_
    refine s_run (w_none rfl) rfl (as_b rfl rfl) ?_
    refine l_nil ?_
    refine k_condT rfl rfl ?_
    refine k_seq ?_
    refine k_region ?_
    refine s_run (w_none rfl) rfl (as_i rfl rfl) ?_
    refine l_nil ?_
    refine k_ret ?_
    repeat (first | refine r_then ?_ | refine r_blk ?_)
    have ha : ¬ Rc.argOk r = true := fun e => by obtain ⟨a0, a1, a3, a4⟩ := Rc.arg_of e; (have := (a1 h1.1).1; rw [h1.2] at this; cases this)
    exact q_ret (v := .int _ _) rfl rfl ⟨_, rfl, vi ((Rc.own_bad ha).symm), H.under⟩
  · skip
    refine k_region ?_
    refine s_run (w_none rfl) rfl (d_fa rfl rfl tf33_0) ?_
    refine s_run (w_none rfl) rfl (d_ldX (off := 0) rfl H rfl rfl rfl ta3) ?_
    refine l_nil ?_
    refine k_block ?_
    refine k_seq ?_
    refine k_region ?_
    refine s_run (w_none rfl) rfl (d_eq rfl rfl rfl) ?_
    refine s_run (w_none rfl) rfl (as_b rfl rfl) ?_
    refine l_nil ?_
    refine k_condT rfl (by first | rfl | (simp; omega) | (simp; done) | simp_all) ?_
    refine k_region ?_
    refine s_run (w_none rfl) rfl (d_fa rfl rfl tf33_2) ?_
    refine s_run (w_none rfl) rfl (d_ldXM (off := 2) rfl H (sub_r_deal ho) (len_deal ho.2.2.1.2.2.2.2.1) rfl rfl rfl ta27 ts27) ?_
    refine s_eff (e_call (w_none rfl) rfl rfl Tryz.func10 rfl rfl rfl (dealT (d := r.deal) _ ho.2.2.1.2.2.2.2.1) ?_)
    rintro _ W ⟨rfl, hb⟩
    replace H := H.below hb
    clear hb
    refine s_run (w_none rfl) rfl (d_eq rfl rfl rfl) ?_
    refine s_run (w_none rfl) rfl (mv_bx (c := true) rfl rfl (by first | (rw [Rc.deal_yes h1.2.1]; rfl) | (rw [Rc.deal_no (by rw [h1.2]; simp)]; rfl))) ?_
    refine s_run (w_g rfl rfl rfl rfl) rfl (d_fa rfl rfl tf33_2) ?_
    refine s_run (w_g rfl rfl rfl rfl) rfl (d_fa rfl rfl tf27_0) ?_
    refine s_run (w_g rfl rfl rfl rfl) rfl (d_ldX (off := 2) rfl H rfl rfl rfl ta3) ?_
    refine s_run (w_g rfl rfl rfl rfl) rfl (d_fa rfl rfl tf33_1) ?_
    refine s_run (w_g rfl rfl rfl rfl) rfl (d_ldX (off := 1) rfl H rfl rfl rfl ta3) ?_
    refine s_run (w_g rfl rfl rfl rfl) rfl (d_eq rfl rfl rfl) ?_
    refine s_run (w_none rfl) rfl (d_pickT rfl rfl rfl) ?_
    refine s_run (w_none rfl) rfl (as_b rfl rfl) ?_
    refine l_nil ?_
    refine k_nil ?_
    refine b_end ?_
    refine k_seq ?_
    refine k_block ?_
    refine k_seq ?_
    refine k_region ?_
    refine s_run (w_none rfl) rfl (mv_b rfl rfl) ?_
    refine s_run (w_none rfl) rfl (d_not rfl rfl) ?_
    refine s_run (w_none rfl) rfl (mv_bx (c := true) rfl rfl (by first | rfl | (simp [h1]; done) | (simp; omega) | simp_all)) ?_
    refine s_skip (w_gno rfl rfl rfl rfl rfl) rfl ?_
    refine s_skip (w_gno rfl rfl rfl rfl rfl) rfl ?_
    refine s_skip (w_gno rfl rfl rfl rfl rfl) rfl ?_
    refine s_skip (w_gno rfl rfl rfl rfl rfl) rfl ?_
    refine s_run (w_none rfl) rfl (d_pickT rfl rfl rfl) ?_
    refine s_run (w_none rfl) rfl (as_b rfl rfl) ?_
    refine l_nil ?_
    refine k_condT rfl rfl ?_
    refine k_seq ?_
    refine k_region ?_
    refine s_run (w_none rfl) rfl (as_i rfl rfl) ?_
    refine l_nil ?_
    refine k_ret ?_
    repeat (first | refine r_then ?_ | refine r_blk ?_)
    have ha : ¬ Rc.argOk r = true := fun e => by obtain ⟨a0, a1, a3, a4⟩ := Rc.arg_of e; exact h1.2.2 (a1 h1.1).2
    exact q_ret (v := .int _ _) rfl rfl ⟨_, rfl, vi ((Rc.own_bad ha).symm), H.under⟩
  · skip
    refine k_region ?_
    refine s_run (w_none rfl) rfl (d_fa rfl rfl tf33_0) ?_
    refine s_run (w_none rfl) rfl (d_ldX (off := 0) rfl H rfl rfl rfl ta3) ?_
    refine l_nil ?_
    refine k_block ?_
    refine k_seq ?_
    refine k_region ?_
    refine s_run (w_none rfl) rfl (d_eq rfl rfl rfl) ?_
    refine s_run (w_none rfl) rfl (as_b rfl rfl) ?_
    refine l_nil ?_
    refine k_condT rfl (by first | rfl | (simp; omega) | (simp; done) | simp_all) ?_
    refine k_region ?_
    refine s_run (w_none rfl) rfl (d_fa rfl rfl tf33_2) ?_
    refine s_run (w_none rfl) rfl (d_ldXM (off := 2) rfl H (sub_r_deal ho) (len_deal ho.2.2.1.2.2.2.2.1) rfl rfl rfl ta27 ts27) ?_
    refine s_eff (e_call (w_none rfl) rfl rfl Tryz.func10 rfl rfl rfl (dealT (d := r.deal) _ ho.2.2.1.2.2.2.2.1) ?_)
    rintro _ W ⟨rfl, hb⟩
    replace H := H.below hb
    clear hb
    refine s_run (w_none rfl) rfl (d_eq rfl rfl rfl) ?_
    refine s_run (w_none rfl) rfl (mv_bx (c := true) rfl rfl (by first | (rw [Rc.deal_yes h1.2.1]; rfl) | (rw [Rc.deal_no (by rw [h1.2]; simp)]; rfl))) ?_
    refine s_run (w_g rfl rfl rfl rfl) rfl (d_fa rfl rfl tf33_2) ?_
    refine s_run (w_g rfl rfl rfl rfl) rfl (d_fa rfl rfl tf27_0) ?_
    refine s_run (w_g rfl rfl rfl rfl) rfl (d_ldX (off := 2) rfl H rfl rfl rfl ta3) ?_
    refine s_run (w_g rfl rfl rfl rfl) rfl (d_fa rfl rfl tf33_1) ?_
    refine s_run (w_g rfl rfl rfl rfl) rfl (d_ldX (off := 1) rfl H rfl rfl rfl ta3) ?_
    refine s_run (w_g rfl rfl rfl rfl) rfl (d_eq rfl rfl rfl) ?_
    refine s_run (w_none rfl) rfl (d_pickT rfl rfl rfl) ?_
    refine s_run (w_none rfl) rfl (as_b rfl rfl) ?_
    refine l_nil ?_
    refine k_nil ?_
    refine b_end ?_
    refine k_seq ?_
    refine k_block ?_
    refine k_seq ?_
    refine k_region ?_
    refine s_run (w_none rfl) rfl (mv_b rfl rfl) ?_
    refine s_run (w_none rfl) rfl (d_not rfl rfl) ?_
    refine s_run (w_none rfl) rfl (mv_bx (c := false) rfl rfl (by first | rfl | (simp [h1]; done) | (simp; omega) | simp_all)) ?_
    refine s_run (w_g rfl rfl rfl rfl) rfl (d_fa rfl rfl tf33_1) ?_
    refine s_run (w_g rfl rfl rfl rfl) rfl (d_ldX (off := 1) rfl H rfl rfl rfl ta3) ?_
    refine s_eff (e_call (w_g rfl rfl rfl rfl) rfl rfl Tryz.func33 rfl rfl rfl (withinR _) ?_)
    rintro _ W ⟨rfl, hb⟩
    replace H := H.below hb
    clear hb
    refine s_run (w_g rfl rfl rfl rfl) rfl (d_not rfl rfl) ?_
    refine s_run (w_none rfl) rfl (d_pickF rfl rfl rfl) ?_
    refine s_run (w_none rfl) rfl (as_b rfl rfl) ?_
    refine l_nil ?_
    refine k_cond rfl (fun hc30 => ?_) (fun hc30 => ?_)
    · have hid : ¬ (1 ≤ r.id ∧ r.id ≤ 1073741824) := by simp at hc30; omega
      refine k_seq ?_
      refine k_region ?_
      refine s_run (w_none rfl) rfl (as_i rfl rfl) ?_
      refine l_nil ?_
      refine k_ret ?_
      repeat (first | refine r_then ?_ | refine r_blk ?_)
      have ha : ¬ Rc.argOk r = true := fun e => by obtain ⟨a0, a1, a3, a4⟩ := Rc.arg_of e; omega
      exact q_ret (v := .int _ _) rfl rfl ⟨_, rfl, vi ((Rc.own_bad ha).symm), H.under⟩
    · have hid : 1 ≤ r.id ∧ r.id ≤ 1073741824 := by simpa using hc30
      refine k_seq ?_
      refine k_region ?_
      refine s_run (w_none rfl) rfl (d_fa rfl rfl tf33_0) ?_
      refine s_run (w_none rfl) rfl (d_ldX (off := 0) rfl H rfl rfl rfl ta3) ?_
      refine s_run (w_none rfl) rfl (d_eq rfl rfl rfl) ?_
      refine s_run (w_none rfl) rfl (mv_bx (c := false) rfl rfl (by first | (simp [h1.1]; done) | (simp; omega) | simp_all)) ?_
      refine s_skip (w_gno rfl rfl rfl rfl rfl) rfl ?_
      refine s_skip (w_gno rfl rfl rfl rfl rfl) rfl ?_
      refine s_skip (w_gno rfl rfl rfl rfl rfl) rfl ?_
      refine s_skip (w_gno rfl rfl rfl rfl rfl) rfl ?_
      refine s_run (w_none rfl) rfl (d_pickF rfl rfl rfl) ?_
      refine s_run (w_none rfl) rfl (as_b rfl rfl) ?_
      refine l_nil ?_
      refine k_condF rfl rfl ?_
      refine k_skip ?_
      refine k_nil ?_
      refine b_end ?_
      refine k_seq ?_
      refine k_region ?_
      refine s_run (w_none rfl) rfl (as_i rfl rfl) ?_
      refine l_nil ?_
      refine k_ret ?_
      repeat (first | refine r_then ?_ | refine r_blk ?_)
      have ha : Rc.argOk r = true := Rc.arg_mk hid (fun e => by first | exact ⟨h1.2.1, h1.2.2⟩ | (exfalso; omega)) (fun e => by first | exact h1.2 | (exfalso; omega)) (fun e => by first | exact h1.2 | (exfalso; omega))
      exact q_ret (v := .int _ _) rfl rfl ⟨_, rfl, vi ((Rc.own_ok ha (fun e => by have := e.1; omega)).symm), H.under⟩
  · skip
    refine k_region ?_
    refine s_run (w_none rfl) rfl (d_fa rfl rfl tf33_0) ?_
    refine s_run (w_none rfl) rfl (d_ldX (off := 0) rfl H rfl rfl rfl ta3) ?_
    refine l_nil ?_
    refine k_block ?_
    refine k_seq ?_
    refine k_region ?_
    refine s_run (w_none rfl) rfl (d_eq rfl rfl rfl) ?_
    refine s_run (w_none rfl) rfl (as_b rfl rfl) ?_
    refine l_nil ?_
    refine k_condF rfl (by first | rfl | (simp; omega) | (simp; done) | simp_all) ?_
    refine k_seq ?_
    refine k_region ?_
    refine s_run (w_none rfl) rfl (d_eq rfl rfl rfl) ?_
    refine s_run (w_none rfl) rfl (as_b rfl rfl) ?_
    refine l_nil ?_
    refine k_condT rfl (by first | rfl | (simp; omega) | (simp; done) | simp_all) ?_
    refine k_region ?_
    refine s_run (w_none rfl) rfl (d_fa rfl rfl tf33_4) ?_
    refine s_run (w_none rfl) rfl (d_ldX (off := 75) rfl H (sub_r_move ho) rfl rfl ta3) ?_
    refine s_eff (e_call (w_none rfl) rfl rfl Tryz.func33 rfl rfl rfl (withinR _) ?_)
    rintro _ W ⟨rfl, hb⟩
    replace H := H.below hb
    clear hb
    refine s_run (w_none rfl) rfl (as_b rfl rfl) ?_
    refine l_nil ?_
    refine k_nil ?_
    refine b_end ?_
    refine k_seq ?_
    refine k_block ?_
    refine k_seq ?_
    refine k_region ?_
    refine s_run (w_none rfl) rfl (mv_b rfl rfl) ?_
    refine s_run (w_none rfl) rfl (d_not rfl rfl) ?_
    refine s_run (w_none rfl) rfl (mv_bx (c := true) rfl rfl (by first | rfl | (simp [h1]; done) | (simp; omega) | simp_all)) ?_
    refine s_skip (w_gno rfl rfl rfl rfl rfl) rfl ?_
    refine s_skip (w_gno rfl rfl rfl rfl rfl) rfl ?_
    refine s_skip (w_gno rfl rfl rfl rfl rfl) rfl ?_
    refine s_skip (w_gno rfl rfl rfl rfl rfl) rfl ?_
    refine s_run (w_none rfl) rfl (d_pickT rfl rfl rfl) ?_
    refine s_run (w_none rfl) rfl (as_b rfl rfl) ?_
    refine l_nil ?_
    refine k_condT rfl rfl ?_
    refine k_seq ?_
    refine k_region ?_
    refine s_run (w_none rfl) rfl (as_i rfl rfl) ?_
    refine l_nil ?_
    refine k_ret ?_
    repeat (first | refine r_then ?_ | refine r_blk ?_)
    have ha : ¬ Rc.argOk r = true := fun e => by obtain ⟨a0, a1, a3, a4⟩ := Rc.arg_of e; (have := a3 h1.1; omega)
    exact q_ret (v := .int _ _) rfl rfl ⟨_, rfl, vi ((Rc.own_bad ha).symm), H.under⟩
  · skip
    refine k_region ?_
    refine s_run (w_none rfl) rfl (d_fa rfl rfl tf33_0) ?_
    refine s_run (w_none rfl) rfl (d_ldX (off := 0) rfl H rfl rfl rfl ta3) ?_
    refine l_nil ?_
    refine k_block ?_
    refine k_seq ?_
    refine k_region ?_
    refine s_run (w_none rfl) rfl (d_eq rfl rfl rfl) ?_
    refine s_run (w_none rfl) rfl (as_b rfl rfl) ?_
    refine l_nil ?_
    refine k_condF rfl (by first | rfl | (simp; omega) | (simp; done) | simp_all) ?_
    refine k_seq ?_
    refine k_region ?_
    refine s_run (w_none rfl) rfl (d_eq rfl rfl rfl) ?_
    refine s_run (w_none rfl) rfl (as_b rfl rfl) ?_
    refine l_nil ?_
    refine k_condT rfl (by first | rfl | (simp; omega) | (simp; done) | simp_all) ?_
    refine k_region ?_
    refine s_run (w_none rfl) rfl (d_fa rfl rfl tf33_4) ?_
    refine s_run (w_none rfl) rfl (d_ldX (off := 75) rfl H (sub_r_move ho) rfl rfl ta3) ?_
    refine s_eff (e_call (w_none rfl) rfl rfl Tryz.func33 rfl rfl rfl (withinR _) ?_)
    rintro _ W ⟨rfl, hb⟩
    replace H := H.below hb
    clear hb
    refine s_run (w_none rfl) rfl (as_b rfl rfl) ?_
    refine l_nil ?_
    refine k_nil ?_
    refine b_end ?_
    refine k_seq ?_
    refine k_block ?_
    refine k_seq ?_
    refine k_region ?_
    refine s_run (w_none rfl) rfl (mv_b rfl rfl) ?_
    refine s_run (w_none rfl) rfl (d_not rfl rfl) ?_
    refine s_run (w_none rfl) rfl (mv_bx (c := false) rfl rfl (by first | rfl | (simp [h1]; done) | (simp; omega) | simp_all)) ?_
    refine s_run (w_g rfl rfl rfl rfl) rfl (d_fa rfl rfl tf33_1) ?_
    refine s_run (w_g rfl rfl rfl rfl) rfl (d_ldX (off := 1) rfl H rfl rfl rfl ta3) ?_
    refine s_eff (e_call (w_g rfl rfl rfl rfl) rfl rfl Tryz.func33 rfl rfl rfl (withinR _) ?_)
    rintro _ W ⟨rfl, hb⟩
    replace H := H.below hb
    clear hb
    refine s_run (w_g rfl rfl rfl rfl) rfl (d_not rfl rfl) ?_
    refine s_run (w_none rfl) rfl (d_pickF rfl rfl rfl) ?_
    refine s_run (w_none rfl) rfl (as_b rfl rfl) ?_
    refine l_nil ?_
    refine k_cond rfl (fun hc30 => ?_) (fun hc30 => ?_)
    · have hid : ¬ (1 ≤ r.id ∧ r.id ≤ 1073741824) := by simp at hc30; omega
      refine k_seq ?_
      refine k_region ?_
      refine s_run (w_none rfl) rfl (as_i rfl rfl) ?_
      refine l_nil ?_
      refine k_ret ?_
      repeat (first | refine r_then ?_ | refine r_blk ?_)
      have ha : ¬ Rc.argOk r = true := fun e => by obtain ⟨a0, a1, a3, a4⟩ := Rc.arg_of e; omega
      exact q_ret (v := .int _ _) rfl rfl ⟨_, rfl, vi ((Rc.own_bad ha).symm), H.under⟩
    · have hid : 1 ≤ r.id ∧ r.id ≤ 1073741824 := by simpa using hc30
      refine k_seq ?_
      refine k_region ?_
      refine s_run (w_none rfl) rfl (d_fa rfl rfl tf33_0) ?_
      refine s_run (w_none rfl) rfl (d_ldX (off := 0) rfl H rfl rfl rfl ta3) ?_
      refine s_run (w_none rfl) rfl (d_eq rfl rfl rfl) ?_
      refine s_run (w_none rfl) rfl (mv_bx (c := true) rfl rfl (by first | (simp [h1.1]; done) | (simp; omega) | simp_all)) ?_
      refine s_run (w_g rfl rfl rfl rfl) rfl (d_fa rfl rfl tf33_6) ?_
      refine s_run (w_g rfl rfl rfl rfl) rfl (d_ldXM (off := 77) rfl H (sub_r_tx ho rfl) rfl rfl rfl rfl ta31 ts31) ?_
      refine s_eff (e_call (w_g rfl rfl rfl rfl) rfl rfl Tryz.func25 rfl rfl rfl (noneT _ (keeps_Tx _ _ _ _ _ ht (fun g hg _ => H.fr.block g hg (fun h => h)))) ?_)
      rintro _ W ⟨rfl, hb⟩
      replace H := H.below hb
      clear hb
      refine s_run (w_g rfl rfl rfl rfl) rfl (d_not rfl rfl) ?_
      refine s_run (w_none rfl) rfl (d_pickT rfl rfl rfl) ?_
      refine s_run (w_none rfl) rfl (as_b rfl rfl) ?_
      refine l_nil ?_
      refine k_cond rfl (fun hc39 => ?_) (fun hc39 => ?_)
      · have hn : Rc.none r.tx = false := by simpa using hc39
        refine k_seq ?_
        refine k_region ?_
        refine s_run (w_none rfl) rfl (d_fa rfl rfl tf33_6) ?_
        refine s_run (w_none rfl) rfl (d_ldXM (off := 77) rfl H (sub_r_tx ho rfl) rfl rfl rfl rfl ta31 ts31) ?_
        refine s_eff (e_call (w_none rfl) rfl rfl Tryz.func68 rfl rfl rfl (checkTP _ (keeps_Tx _ _ _ _ _ ht (fun g hg _ => H.fr.block g hg (fun h => h)))) ?_)
        rintro _ W ⟨rfl, hb⟩
        replace H := H.below hb
        clear hb
        refine s_run (w_none rfl) rfl (as_i rfl rfl) ?_
        refine l_nil ?_
        refine k_ret ?_
        repeat (first | refine r_then ?_ | refine r_blk ?_)
        have ha : Rc.argOk r = true := Rc.arg_mk hid (fun e => by first | exact ⟨h1.2.1, h1.2.2⟩ | (exfalso; omega)) (fun e => by first | exact h1.2 | (exfalso; omega)) (fun e => by first | exact h1.2 | (exfalso; omega))
        exact q_ret (v := .int _ _) rfl rfl ⟨_, rfl, vi ((Rc.own_tx ha h1.1 hn).symm), H.under⟩
      · have hn : Rc.none r.tx = true := by simpa using hc39
        refine k_skip ?_
        refine k_nil ?_
        refine b_end ?_
        refine k_seq ?_
        refine k_region ?_
        refine s_run (w_none rfl) rfl (as_i rfl rfl) ?_
        refine l_nil ?_
        refine k_ret ?_
        repeat (first | refine r_then ?_ | refine r_blk ?_)
        have ha : Rc.argOk r = true := Rc.arg_mk hid (fun e => by first | exact ⟨h1.2.1, h1.2.2⟩ | (exfalso; omega)) (fun e => by first | exact h1.2 | (exfalso; omega)) (fun e => by first | exact h1.2 | (exfalso; omega))
        exact q_ret (v := .int _ _) rfl rfl ⟨_, rfl, vi ((Rc.own_ok ha (fun e => by rw [hn] at e; cases e.2)).symm), H.under⟩
  · skip
    refine k_region ?_
    refine s_run (w_none rfl) rfl (d_fa rfl rfl tf33_0) ?_
    refine s_run (w_none rfl) rfl (d_ldX (off := 0) rfl H rfl rfl rfl ta3) ?_
    refine l_nil ?_
    refine k_block ?_
    refine k_seq ?_
    refine k_region ?_
    refine s_run (w_none rfl) rfl (d_eq rfl rfl rfl) ?_
    refine s_run (w_none rfl) rfl (as_b rfl rfl) ?_
    refine l_nil ?_
    refine k_condF rfl (by first | rfl | (simp; omega) | (simp; done) | simp_all) ?_
    refine k_seq ?_
    refine k_region ?_
    refine s_run (w_none rfl) rfl (d_eq rfl rfl rfl) ?_
    refine s_run (w_none rfl) rfl (as_b rfl rfl) ?_
    refine l_nil ?_
    refine k_condF rfl (by first | rfl | (simp; omega) | (simp; done) | simp_all) ?_
    refine k_seq ?_
    refine k_region ?_
    refine s_run (w_none rfl) rfl (d_eq rfl rfl rfl) ?_
    refine s_run (w_none rfl) rfl (as_b rfl rfl) ?_
    refine l_nil ?_
    refine k_condT rfl (by first | rfl | (simp; omega) | (simp; done) | simp_all) ?_
    refine k_region ?_
    refine s_run (w_none rfl) rfl (d_fa rfl rfl tf33_5) ?_
    refine s_run (w_none rfl) rfl (d_ldX (off := 76) rfl H (sub_r_state ho) rfl rfl ta3) ?_
    refine s_eff (e_call (w_none rfl) rfl rfl Tryz.func33 rfl rfl rfl (withinR _) ?_)
    rintro _ W ⟨rfl, hb⟩
    replace H := H.below hb
    clear hb
    refine s_run (w_none rfl) rfl (as_b rfl rfl) ?_
    refine l_nil ?_
    refine k_nil ?_
    refine b_end ?_
    refine k_seq ?_
    refine k_block ?_
    refine k_seq ?_
    refine k_region ?_
    refine s_run (w_none rfl) rfl (mv_b rfl rfl) ?_
    refine s_run (w_none rfl) rfl (d_not rfl rfl) ?_
    refine s_run (w_none rfl) rfl (mv_bx (c := true) rfl rfl (by first | rfl | (simp [h1]; done) | (simp; omega) | simp_all)) ?_
    refine s_skip (w_gno rfl rfl rfl rfl rfl) rfl ?_
    refine s_skip (w_gno rfl rfl rfl rfl rfl) rfl ?_
    refine s_skip (w_gno rfl rfl rfl rfl rfl) rfl ?_
    refine s_skip (w_gno rfl rfl rfl rfl rfl) rfl ?_
    refine s_run (w_none rfl) rfl (d_pickT rfl rfl rfl) ?_
    refine s_run (w_none rfl) rfl (as_b rfl rfl) ?_
    refine l_nil ?_
    refine k_condT rfl rfl ?_
    refine k_seq ?_
    refine k_region ?_
    refine s_run (w_none rfl) rfl (as_i rfl rfl) ?_
    refine l_nil ?_
    refine k_ret ?_
    repeat (first | refine r_then ?_ | refine r_blk ?_)
    have ha : ¬ Rc.argOk r = true := fun e => by obtain ⟨a0, a1, a3, a4⟩ := Rc.arg_of e; (have := a4 h1.1; omega)
    exact q_ret (v := .int _ _) rfl rfl ⟨_, rfl, vi ((Rc.own_bad ha).symm), H.under⟩
  · skip
    refine k_region ?_
    refine s_run (w_none rfl) rfl (d_fa rfl rfl tf33_0) ?_
    refine s_run (w_none rfl) rfl (d_ldX (off := 0) rfl H rfl rfl rfl ta3) ?_
    refine l_nil ?_
    refine k_block ?_
    refine k_seq ?_
    refine k_region ?_
    refine s_run (w_none rfl) rfl (d_eq rfl rfl rfl) ?_
    refine s_run (w_none rfl) rfl (as_b rfl rfl) ?_
    refine l_nil ?_
    refine k_condF rfl (by first | rfl | (simp; omega) | (simp; done) | simp_all) ?_
    refine k_seq ?_
    refine k_region ?_
    refine s_run (w_none rfl) rfl (d_eq rfl rfl rfl) ?_
    refine s_run (w_none rfl) rfl (as_b rfl rfl) ?_
    refine l_nil ?_
    refine k_condF rfl (by first | rfl | (simp; omega) | (simp; done) | simp_all) ?_
    refine k_seq ?_
    refine k_region ?_
    refine s_run (w_none rfl) rfl (d_eq rfl rfl rfl) ?_
    refine s_run (w_none rfl) rfl (as_b rfl rfl) ?_
    refine l_nil ?_
    refine k_condT rfl (by first | rfl | (simp; omega) | (simp; done) | simp_all) ?_
    refine k_region ?_
    refine s_run (w_none rfl) rfl (d_fa rfl rfl tf33_5) ?_
    refine s_run (w_none rfl) rfl (d_ldX (off := 76) rfl H (sub_r_state ho) rfl rfl ta3) ?_
    refine s_eff (e_call (w_none rfl) rfl rfl Tryz.func33 rfl rfl rfl (withinR _) ?_)
    rintro _ W ⟨rfl, hb⟩
    replace H := H.below hb
    clear hb
    refine s_run (w_none rfl) rfl (as_b rfl rfl) ?_
    refine l_nil ?_
    refine k_nil ?_
    refine b_end ?_
    refine k_seq ?_
    refine k_block ?_
    refine k_seq ?_
    refine k_region ?_
    refine s_run (w_none rfl) rfl (mv_b rfl rfl) ?_
    refine s_run (w_none rfl) rfl (d_not rfl rfl) ?_
    refine s_run (w_none rfl) rfl (mv_bx (c := false) rfl rfl (by first | rfl | (simp [h1]; done) | (simp; omega) | simp_all)) ?_
    refine s_run (w_g rfl rfl rfl rfl) rfl (d_fa rfl rfl tf33_1) ?_
    refine s_run (w_g rfl rfl rfl rfl) rfl (d_ldX (off := 1) rfl H rfl rfl rfl ta3) ?_
    refine s_eff (e_call (w_g rfl rfl rfl rfl) rfl rfl Tryz.func33 rfl rfl rfl (withinR _) ?_)
    rintro _ W ⟨rfl, hb⟩
    replace H := H.below hb
    clear hb
    refine s_run (w_g rfl rfl rfl rfl) rfl (d_not rfl rfl) ?_
    refine s_run (w_none rfl) rfl (d_pickF rfl rfl rfl) ?_
    refine s_run (w_none rfl) rfl (as_b rfl rfl) ?_
    refine l_nil ?_
    refine k_cond rfl (fun hc30 => ?_) (fun hc30 => ?_)
    · have hid : ¬ (1 ≤ r.id ∧ r.id ≤ 1073741824) := by simp at hc30; omega
      refine k_seq ?_
      refine k_region ?_
      refine s_run (w_none rfl) rfl (as_i rfl rfl) ?_
      refine l_nil ?_
      refine k_ret ?_
      repeat (first | refine r_then ?_ | refine r_blk ?_)
      have ha : ¬ Rc.argOk r = true := fun e => by obtain ⟨a0, a1, a3, a4⟩ := Rc.arg_of e; omega
      exact q_ret (v := .int _ _) rfl rfl ⟨_, rfl, vi ((Rc.own_bad ha).symm), H.under⟩
    · have hid : 1 ≤ r.id ∧ r.id ≤ 1073741824 := by simpa using hc30
      refine k_seq ?_
      refine k_region ?_
      refine s_run (w_none rfl) rfl (d_fa rfl rfl tf33_0) ?_
      refine s_run (w_none rfl) rfl (d_ldX (off := 0) rfl H rfl rfl rfl ta3) ?_
      refine s_run (w_none rfl) rfl (d_eq rfl rfl rfl) ?_
      refine s_run (w_none rfl) rfl (mv_bx (c := false) rfl rfl (by first | (simp [h1.1]; done) | (simp; omega) | simp_all)) ?_
      refine s_skip (w_gno rfl rfl rfl rfl rfl) rfl ?_
      refine s_skip (w_gno rfl rfl rfl rfl rfl) rfl ?_
      refine s_skip (w_gno rfl rfl rfl rfl rfl) rfl ?_
      refine s_skip (w_gno rfl rfl rfl rfl rfl) rfl ?_
      refine s_run (w_none rfl) rfl (d_pickF rfl rfl rfl) ?_
      refine s_run (w_none rfl) rfl (as_b rfl rfl) ?_
      refine l_nil ?_
      refine k_condF rfl rfl ?_
      refine k_skip ?_
      refine k_nil ?_
      refine b_end ?_
      refine k_seq ?_
      refine k_region ?_
      refine s_run (w_none rfl) rfl (as_i rfl rfl) ?_
      refine l_nil ?_
      refine k_ret ?_
      repeat (first | refine r_then ?_ | refine r_blk ?_)
      have ha : Rc.argOk r = true := Rc.arg_mk hid (fun e => by first | exact ⟨h1.2.1, h1.2.2⟩ | (exfalso; omega)) (fun e => by first | exact h1.2 | (exfalso; omega)) (fun e => by first | exact h1.2 | (exfalso; omega))
      exact q_ret (v := .int _ _) rfl rfl ⟨_, rfl, vi ((Rc.own_ok ha (fun e => by have := e.1; omega)).symm), H.under⟩
  · skip
    refine k_region ?_
    refine s_run (w_none rfl) rfl (d_fa rfl rfl tf33_0) ?_
    refine s_run (w_none rfl) rfl (d_ldX (off := 0) rfl H rfl rfl rfl ta3) ?_
    refine l_nil ?_
    refine k_block ?_
    refine k_seq ?_
    refine k_region ?_
    refine s_run (w_none rfl) rfl (d_eq rfl rfl rfl) ?_
    refine s_run (w_none rfl) rfl (as_b rfl rfl) ?_
    refine l_nil ?_
    refine k_condF rfl (by first | rfl | (simp; omega) | (simp; done) | simp_all) ?_
    refine k_seq ?_
    refine k_region ?_
    refine s_run (w_none rfl) rfl (d_eq rfl rfl rfl) ?_
    refine s_run (w_none rfl) rfl (as_b rfl rfl) ?_
    refine l_nil ?_
    refine k_condF rfl (by first | rfl | (simp; omega) | (simp; done) | simp_all) ?_
    refine k_seq ?_
    refine k_region ?_
    refine s_run (w_none rfl) rfl (d_eq rfl rfl rfl) ?_
    refine s_run (w_none rfl) rfl (as_b rfl rfl) ?_
    refine l_nil ?_
    refine k_condF rfl (by first | rfl | (simp; omega) | (simp; done) | simp_all) ?_
    refine k_skip ?_
    refine k_nil ?_
    refine b_end ?_
    refine k_seq ?_
    refine k_block ?_
    refine k_seq ?_
    refine k_region ?_
    refine s_run (w_none rfl) rfl (mv_b rfl rfl) ?_
    refine s_run (w_none rfl) rfl (d_not rfl rfl) ?_
    refine s_run (w_none rfl) rfl (mv_bx (c := false) rfl rfl (by first | rfl | (simp [h1]; done) | (simp; omega) | simp_all)) ?_
    refine s_run (w_g rfl rfl rfl rfl) rfl (d_fa rfl rfl tf33_1) ?_
    refine s_run (w_g rfl rfl rfl rfl) rfl (d_ldX (off := 1) rfl H rfl rfl rfl ta3) ?_
    refine s_eff (e_call (w_g rfl rfl rfl rfl) rfl rfl Tryz.func33 rfl rfl rfl (withinR _) ?_)
    rintro _ W ⟨rfl, hb⟩
    replace H := H.below hb
    clear hb
    refine s_run (w_g rfl rfl rfl rfl) rfl (d_not rfl rfl) ?_
    refine s_run (w_none rfl) rfl (d_pickF rfl rfl rfl) ?_
    refine s_run (w_none rfl) rfl (as_b rfl rfl) ?_
    refine l_nil ?_
    refine k_cond rfl (fun hc30 => ?_) (fun hc30 => ?_)
    · have hid : ¬ (1 ≤ r.id ∧ r.id ≤ 1073741824) := by simp at hc30; omega
      refine k_seq ?_
      refine k_region ?_
      refine s_run (w_none rfl) rfl (as_i rfl rfl) ?_
      refine l_nil ?_
      refine k_ret ?_
      repeat (first | refine r_then ?_ | refine r_blk ?_)
      have ha : ¬ Rc.argOk r = true := fun e => by obtain ⟨a0, a1, a3, a4⟩ := Rc.arg_of e; omega
      exact q_ret (v := .int _ _) rfl rfl ⟨_, rfl, vi ((Rc.own_bad ha).symm), H.under⟩
    · have hid : 1 ≤ r.id ∧ r.id ≤ 1073741824 := by simpa using hc30
      refine k_seq ?_
      refine k_region ?_
      refine s_run (w_none rfl) rfl (d_fa rfl rfl tf33_0) ?_
      refine s_run (w_none rfl) rfl (d_ldX (off := 0) rfl H rfl rfl rfl ta3) ?_
      refine s_run (w_none rfl) rfl (d_eq rfl rfl rfl) ?_
      refine s_run (w_none rfl) rfl (mv_bx (c := false) rfl rfl (by first | (simp [h1.1]; done) | (simp; omega) | simp_all)) ?_
      refine s_skip (w_gno rfl rfl rfl rfl rfl) rfl ?_
      refine s_skip (w_gno rfl rfl rfl rfl rfl) rfl ?_
      refine s_skip (w_gno rfl rfl rfl rfl rfl) rfl ?_
      refine s_skip (w_gno rfl rfl rfl rfl rfl) rfl ?_
      refine s_run (w_none rfl) rfl (d_pickF rfl rfl rfl) ?_
      refine s_run (w_none rfl) rfl (as_b rfl rfl) ?_
      refine l_nil ?_
      refine k_condF rfl rfl ?_
      refine k_skip ?_
      refine k_nil ?_
      refine b_end ?_
      refine k_seq ?_
      refine k_region ?_
      refine s_run (w_none rfl) rfl (as_i rfl rfl) ?_
      refine l_nil ?_
      refine k_ret ?_
      repeat (first | refine r_then ?_ | refine r_blk ?_)
      have ha : Rc.argOk r = true := Rc.arg_mk hid (fun e => by first | exact ⟨h1.2.1, h1.2.2⟩ | (exfalso; omega)) (fun e => by first | exact h1.2 | (exfalso; omega)) (fun e => by first | exact h1.2 | (exfalso; omega))
      exact q_ret (v := .int _ _) rfl rfl ⟨_, rfl, vi ((Rc.own_ok ha (fun e => by have := e.1; omega)).symm), H.under⟩

set_option maxHeartbeats 4000000 in
theorem foreignT {S : Nat → Prop} {ct : List Value} {r : DRecord} (w : World) (ho : Rc.Ok r) (ht : RTx w S ct r.tx) : Calls Tryz.prog 37 [.agg (recC r ct).toArray].toArray w (Ret (Is w (.bool (Rc.foreign r)))) := by
  obtain ⟨A, c, B, d, rfl, hI, hO, hk⟩ := tx_of ht
  have hs := ho.2.2.2.1
  have hsl : (r.secret.map u8v).length = 32 := by rw [List.length_map]; exact hs
  have hh := ho.2.2.1.2.2.2.2.1
  refine k_enter (l := [_]) Tryz.func37 rfl rfl ?_
  have H := St.start nT w
  refine k_seq ?_
  refine k_region ?_
  refine s_eff (e_box (vs := (recC r (txC A r.tx.ins.length c B r.tx.outs.length d r.tx.lock))) (w_none rfl) rfl rfl rfl rfl H ?_)
  clear H; intro gm W H
  refine s_run (w_none rfl) rfl (as_b rfl rfl) ?_
  refine l_nil ?_
  refine k_seq ?_
  refine k_cut 3 [] (fun sl W => ∃ gf : Nat, sl = [(3, .pointer (some ⟨gf, 0, none⟩))] ∧ St nT w W [Fact.blk gf (fldC r.deal r.secret r.move r.state (!Rc.none r.tx)) 96, Fact.blk gm (recC r (txC A r.tx.ins.length c B r.tx.outs.length d r.tx.lock)) 33]) ?_ (fun sl ρv W hJ => ?_)
  · skip
    refine k_drawT (.rd 0 (.rd 1 (.rd 2 (.rd 3 (.rd 4 (.rd 5 (.rd 6 (.rd 7 (.rd 8 (.rd 9 (.many 4 [10, 13] fun j => (bif Nat.beq j 10 then (.rd 11 (.rd 12 (.ef 13 (.ef 14 .nil)))) else (.ef 10 (.rd 11 (.rd 12 (.ef 14 .nil)))))))))))))))) [Fact.blk gm (recC r (txC A r.tx.ins.length c B r.tx.outs.length d r.tx.lock)) 33] (by kernel_rfl) (by kernel_rfl) H (.refl _) ?_
    clear H; intro W H
    refine t_run rfl (w_none rfl) rfl (fun W H => d_fa rfl rfl tf33_2) ?_
    refine t_run rfl (w_none rfl) rfl (fun W H => d_ldXM (off := 2) rfl H (sub_r_deal ho) (len_deal ho.2.2.1.2.2.2.2.1) rfl rfl rfl ta27 ts27) ?_
    refine t_run rfl (w_none rfl) rfl (fun W H => d_fa rfl rfl tf33_3) ?_
    refine t_run rfl (w_none rfl) rfl (fun W H => d_ldXM (off := 43) rfl H (sub_r_secret ho) (by rw [List.length_map]; exact ho.2.2.2.1) rfl rfl rfl ta25 ts25) ?_
    refine t_run rfl (w_none rfl) rfl (fun W H => d_fa rfl rfl tf33_4) ?_
    refine t_run rfl (w_none rfl) rfl (fun W H => d_ldX (off := 75) rfl H (sub_r_move ho) rfl rfl ta3) ?_
    refine t_run rfl (w_none rfl) rfl (fun W H => d_fa rfl rfl tf33_5) ?_
    refine t_run rfl (w_none rfl) rfl (fun W H => d_ldX (off := 76) rfl H (sub_r_state ho) rfl rfl ta3) ?_
    refine t_run rfl (w_none rfl) rfl (fun W H => d_fa rfl rfl tf33_6) ?_
    refine t_run rfl (w_none rfl) rfl (fun W H => d_ldXM (off := 77) rfl H (sub_r_tx ho rfl) rfl rfl rfl rfl ta31 ts31) ?_
    refine t_each ?_ ?_
    · skip
      refine t_eff rfl (e_call (w_none rfl) rfl rfl Tryz.func25 rfl rfl rfl (noneT _ (keeps_Tx _ _ _ _ _ ht (fun g hg _ => H.fr.block g hg (fun h => h)))) ?_)
      rintro _ W ⟨rfl, hb⟩
      replace H := H.below hb
      clear hb
      refine ⟨_, fun _ h => h, H.sub (by repeat (first | exact List.Sublist.refl _ | exact List.nil_sublist _ | refine List.Sublist.cons_cons _ ?_ | refine List.Sublist.cons _ ?_)), ?_⟩
      refine t_run rfl (w_none rfl) rfl (fun W H => d_not rfl rfl) ?_
      refine t_run rfl (w_none rfl) rfl (fun W H => d_build (vs := (fldC r.deal r.secret r.move r.state (!Rc.none r.tx))) rfl (built_fields (places := [(0, 41), (41, 32), (73, 1), (74, 1), (75, 1)]) tz96 (by kernel_rfl) (by kernel_rfl) (fill_next (vs := (dealC r.deal)) (.agg ((dealC r.deal)).toArray) rfl rfl rfl (len_deal hh) (Nat.le_of_ble_eq_true rfl) (fill_next (vs := (r.secret.map u8v)) (.agg ((r.secret.map u8v)).toArray) rfl (by first | (simp [(len_deal hh)]; done) | (simp [(len_deal hh)]; omega)) rfl hsl (Nat.le_of_ble_eq_true rfl) (fill_next (vs := [.int .i64 r.move]) (.int .i64 r.move) rfl (by first | (simp [(len_deal hh), hsl]; done) | (simp [(len_deal hh), hsl]; omega)) rfl rfl (Nat.le_of_ble_eq_true rfl) (fill_next (vs := [.int .i64 r.state]) (.int .i64 r.state) rfl (by first | (simp [(len_deal hh), hsl]; done) | (simp [(len_deal hh), hsl]; omega)) rfl rfl (Nat.le_of_ble_eq_true rfl) (fill_next (vs := [.bool (!Rc.none r.tx)]) (.bool (!Rc.none r.tx)) rfl (by first | (simp [(len_deal hh), hsl]; done) | (simp [(len_deal hh), hsl]; omega)) rfl rfl (Nat.le_of_ble_eq_true rfl) (fill_end (by simp [fldC, len_deal (d := Rc.zDeal) rfl]))))))))) ?_
      refine t_eff rfl (e_alloc (w_none rfl) rfl rfl (fldC Rc.zDeal Rc.z32 0 0 false) tz96 H ?_)
      clear H; intro gf W H
      refine ⟨_, fun _ h => h, H.sub (by repeat (first | exact List.Sublist.refl _ | exact List.nil_sublist _ | refine List.Sublist.cons_cons _ ?_ | refine List.Sublist.cons _ ?_)), ?_⟩
      refine t_eff rfl (e_stoK ((fldC r.deal r.secret r.move r.state (!Rc.none r.tx))) (w_none rfl) rfl rfl rfl rfl rfl ts96 (len_fld hh hs) fld_one H (by rw [len_fld rfl rfl]; decide) (spl_all (by rw [len_fld hh hs, len_fld rfl rfl])) ?_)
      clear H; intro W H
      refine ⟨_, fun _ h => h, H.sub (by repeat (first | exact List.Sublist.refl _ | exact List.nil_sublist _ | refine List.Sublist.cons_cons _ ?_ | refine List.Sublist.cons _ ?_)), ?_⟩
      refine t_nil ?_
      refine k_nil ?_
      refine n_then ?_
      refine ⟨_, _, rfl, ?_, ?_, ⟨gf, rfl, H⟩⟩
      · repeat (first | (with_reducible exact Eqo.refl) | ((with_reducible refine Eqo.updl _ (Eqo.ovr2 ?_ ?_) ?_); rotate_left; exact rfl; exact rfl) | ((with_reducible refine Eqo.upd ?_ ?_); rotate_left; exact rfl))
      · refine ⟨?_, trivial⟩
        · exact rfl
    refine t_each ?_ ?_
    · skip
      refine t_eff rfl (e_alloc (w_none rfl) rfl rfl (fldC Rc.zDeal Rc.z32 0 0 false) tz96 H ?_)
      clear H; intro gf W H
      refine ⟨_, fun _ h => h, H.sub (by repeat (first | exact List.Sublist.refl _ | exact List.nil_sublist _ | refine List.Sublist.cons_cons _ ?_ | refine List.Sublist.cons _ ?_)), ?_⟩
      refine t_eff rfl (e_call (w_none rfl) rfl rfl Tryz.func25 rfl rfl rfl (noneT _ (keeps_Tx _ _ _ _ _ ht (fun g hg _ => H.fr.block g hg (fun h => h)))) ?_)
      rintro _ W ⟨rfl, hb⟩
      replace H := H.below hb
      clear hb
      refine ⟨_, fun _ h => h, H.sub (by repeat (first | exact List.Sublist.refl _ | exact List.nil_sublist _ | refine List.Sublist.cons_cons _ ?_ | refine List.Sublist.cons _ ?_)), ?_⟩
      refine t_run rfl (w_none rfl) rfl (fun W H => d_not rfl rfl) ?_
      refine t_run rfl (w_none rfl) rfl (fun W H => d_build (vs := (fldC r.deal r.secret r.move r.state (!Rc.none r.tx))) rfl (built_fields (places := [(0, 41), (41, 32), (73, 1), (74, 1), (75, 1)]) tz96 (by kernel_rfl) (by kernel_rfl) (fill_next (vs := (dealC r.deal)) (.agg ((dealC r.deal)).toArray) rfl rfl rfl (len_deal hh) (Nat.le_of_ble_eq_true rfl) (fill_next (vs := (r.secret.map u8v)) (.agg ((r.secret.map u8v)).toArray) rfl (by first | (simp [(len_deal hh)]; done) | (simp [(len_deal hh)]; omega)) rfl hsl (Nat.le_of_ble_eq_true rfl) (fill_next (vs := [.int .i64 r.move]) (.int .i64 r.move) rfl (by first | (simp [(len_deal hh), hsl]; done) | (simp [(len_deal hh), hsl]; omega)) rfl rfl (Nat.le_of_ble_eq_true rfl) (fill_next (vs := [.int .i64 r.state]) (.int .i64 r.state) rfl (by first | (simp [(len_deal hh), hsl]; done) | (simp [(len_deal hh), hsl]; omega)) rfl rfl (Nat.le_of_ble_eq_true rfl) (fill_next (vs := [.bool (!Rc.none r.tx)]) (.bool (!Rc.none r.tx)) rfl (by first | (simp [(len_deal hh), hsl]; done) | (simp [(len_deal hh), hsl]; omega)) rfl rfl (Nat.le_of_ble_eq_true rfl) (fill_end (by simp [fldC, len_deal (d := Rc.zDeal) rfl]))))))))) ?_
      refine t_eff rfl (e_stoK ((fldC r.deal r.secret r.move r.state (!Rc.none r.tx))) (w_none rfl) rfl rfl rfl rfl rfl ts96 (len_fld hh hs) fld_one H (by rw [len_fld rfl rfl]; decide) (spl_all (by rw [len_fld hh hs, len_fld rfl rfl])) ?_)
      clear H; intro W H
      refine ⟨_, fun _ h => h, H.sub (by repeat (first | exact List.Sublist.refl _ | exact List.nil_sublist _ | refine List.Sublist.cons_cons _ ?_ | refine List.Sublist.cons _ ?_)), ?_⟩
      refine t_nil ?_
      refine k_nil ?_
      refine n_then ?_
      refine ⟨_, _, rfl, ?_, ?_, ⟨gf, rfl, H⟩⟩
      · repeat (first | (with_reducible exact Eqo.refl) | ((with_reducible refine Eqo.updl _ (Eqo.ovr2 ?_ ?_) ?_); rotate_left; exact rfl; exact rfl) | ((with_reducible refine Eqo.upd ?_ ?_); rotate_left; exact rfl))
      · refine ⟨?_, trivial⟩
        · exact rfl
    exact t_none
  clear H; obtain ⟨gf, rfl, H⟩ := hJ
  refine k_seq ?_
  refine k_seq ?_
  rcases (show r.kind = 1 ∨ r.kind = 2 ∨ r.kind = 3 ∨ r.kind = 4 ∨ ¬ (1 ≤ r.kind ∧ r.kind ≤ 4) by omega) with h1 | h1 | h1 | h1 | h1
  · skip
    refine k_region ?_
    refine s_run (w_none rfl) rfl (d_fa rfl rfl tf33_0) ?_
    refine s_run (w_none rfl) rfl (d_ldX (off := 0) rfl H rfl rfl rfl ta3) ?_
    refine l_nil ?_
    refine k_block ?_
    refine k_seq ?_
    refine k_region ?_
    refine s_run (w_none rfl) rfl (d_eq rfl rfl rfl) ?_
    refine s_run (w_none rfl) rfl (as_b rfl rfl) ?_
    refine l_nil ?_
    refine k_condT rfl (by first | rfl | (simp; omega) | (simp; done) | simp_all) ?_
    refine k_region ?_
    refine s_run (w_none rfl) rfl (d_build (vs := dealC Rc.zDeal) rfl (by kernel_rfl)) ?_
    refine s_run (w_none rfl) rfl (d_fa rfl rfl tf96_0) ?_
    refine s_eff (e_stoK ((fldC Rc.zDeal r.secret r.move r.state (!Rc.none r.tx))) (w_none rfl) rfl rfl rfl rfl rfl ts27 (len_deal rfl) deal_one H (by rw [len_fld hh hs]; decide) (spl_f_deal hh rfl) ?_)
    clear H; intro W H
    refine l_nil ?_
    refine k_nil ?_
    refine b_end ?_
    refine k_seq ?_
    refine k_region ?_
    refine s_run (w_none rfl) rfl (d_ldm0 (g := gf) rfl H rfl ta96 ts96 (len_fld rfl hs)) ?_
    refine s_run (w_none rfl) rfl (d_build (vs := fldC Rc.zDeal Rc.z32 0 0 false) rfl (by kernel_rfl)) ?_
    refine s_run (w_none rfl) rfl (d_nest (r := Rc.cmp Rc.zDeal r.secret r.move r.state (!Rc.none r.tx)) rfl rfl rfl (eq_fld (d := 9996) Rc.ok_zd hs) (by kernel_rfl)) ?_
    refine s_run (w_none rfl) rfl (as_b rfl rfl) ?_
    refine l_nil ?_
    refine k_ret ?_
    repeat (first | refine r_then ?_ | refine r_blk ?_)
    exact q_ret (v := .bool _) rfl rfl ⟨_, rfl, vb ((Rc.for_1 h1).symm), H.under⟩
  · skip
    refine k_region ?_
    refine s_run (w_none rfl) rfl (d_fa rfl rfl tf33_0) ?_
    refine s_run (w_none rfl) rfl (d_ldX (off := 0) rfl H rfl rfl rfl ta3) ?_
    refine l_nil ?_
    refine k_block ?_
    refine k_seq ?_
    refine k_region ?_
    refine s_run (w_none rfl) rfl (d_eq rfl rfl rfl) ?_
    refine s_run (w_none rfl) rfl (as_b rfl rfl) ?_
    refine l_nil ?_
    refine k_condF rfl (by first | rfl | (simp; omega) | (simp; done) | simp_all) ?_
    refine k_seq ?_
    refine k_region ?_
    refine s_run (w_none rfl) rfl (d_eq rfl rfl rfl) ?_
    refine s_run (w_none rfl) rfl (as_b rfl rfl) ?_
    refine l_nil ?_
    refine k_condT rfl (by first | rfl | (simp; omega) | (simp; done) | simp_all) ?_
    refine k_region ?_
    refine s_run (w_none rfl) rfl (d_build (vs := Rc.z32.map u8v) rfl (by kernel_rfl)) ?_
    refine s_run (w_none rfl) rfl (d_fa rfl rfl tf96_1) ?_
    refine s_eff (e_stoK ((fldC r.deal Rc.z32 r.move r.state (!Rc.none r.tx))) (w_none rfl) rfl rfl rfl rfl rfl ts25 rfl (all_u8L _) H (by rw [len_fld hh hs]; decide) (spl_f_secret hh hs rfl) ?_)
    clear H; intro W H
    refine l_nil ?_
    refine k_nil ?_
    refine b_end ?_
    refine k_seq ?_
    refine k_region ?_
    refine s_run (w_none rfl) rfl (d_ldm0 (g := gf) rfl H rfl ta96 ts96 (len_fld hh rfl)) ?_
    refine s_run (w_none rfl) rfl (d_build (vs := fldC Rc.zDeal Rc.z32 0 0 false) rfl (by kernel_rfl)) ?_
    refine s_run (w_none rfl) rfl (d_nest (r := Rc.cmp r.deal Rc.z32 r.move r.state (!Rc.none r.tx)) rfl rfl rfl (eq_fld (d := 9996) ho.2.2.1 rfl) (by kernel_rfl)) ?_
    refine s_run (w_none rfl) rfl (as_b rfl rfl) ?_
    refine l_nil ?_
    refine k_ret ?_
    repeat (first | refine r_then ?_ | refine r_blk ?_)
    exact q_ret (v := .bool _) rfl rfl ⟨_, rfl, vb ((Rc.for_2 h1).symm), H.under⟩
  · skip
    refine k_region ?_
    refine s_run (w_none rfl) rfl (d_fa rfl rfl tf33_0) ?_
    refine s_run (w_none rfl) rfl (d_ldX (off := 0) rfl H rfl rfl rfl ta3) ?_
    refine l_nil ?_
    refine k_block ?_
    refine k_seq ?_
    refine k_region ?_
    refine s_run (w_none rfl) rfl (d_eq rfl rfl rfl) ?_
    refine s_run (w_none rfl) rfl (as_b rfl rfl) ?_
    refine l_nil ?_
    refine k_condF rfl (by first | rfl | (simp; omega) | (simp; done) | simp_all) ?_
    refine k_seq ?_
    refine k_region ?_
    refine s_run (w_none rfl) rfl (d_eq rfl rfl rfl) ?_
    refine s_run (w_none rfl) rfl (as_b rfl rfl) ?_
    refine l_nil ?_
    refine k_condF rfl (by first | rfl | (simp; omega) | (simp; done) | simp_all) ?_
    refine k_seq ?_
    refine k_region ?_
    refine s_run (w_none rfl) rfl (d_eq rfl rfl rfl) ?_
    refine s_run (w_none rfl) rfl (as_b rfl rfl) ?_
    refine l_nil ?_
    refine k_condT rfl (by first | rfl | (simp; omega) | (simp; done) | simp_all) ?_
    refine k_region ?_
    refine s_run (w_none rfl) rfl (d_fa rfl rfl tf96_2) ?_
    refine s_eff (e_stoK (v := .int .i64 0) (vs := [.int .i64 0]) ((fldC r.deal r.secret 0 r.state (!Rc.none r.tx))) (w_none rfl) rfl rfl rfl rfl rfl ts3 rfl rfl H (by rw [len_fld hh hs]; decide) (spl_f_move hh hs) ?_)
    clear H; intro W H
    refine s_run (w_none rfl) rfl (d_fa rfl rfl tf96_4) ?_
    refine s_eff (e_stoK (v := .bool false) (vs := [.bool false]) ((fldC r.deal r.secret 0 r.state false)) (w_none rfl) rfl rfl rfl rfl rfl ts4 rfl rfl H (by rw [len_fld hh hs]; decide) (spl_f_some hh hs) ?_)
    clear H; intro W H
    refine l_nil ?_
    refine k_nil ?_
    refine b_end ?_
    refine k_seq ?_
    refine k_region ?_
    refine s_run (w_none rfl) rfl (d_ldm0 (g := gf) rfl H rfl ta96 ts96 (len_fld hh hs)) ?_
    refine s_run (w_none rfl) rfl (d_build (vs := fldC Rc.zDeal Rc.z32 0 0 false) rfl (by kernel_rfl)) ?_
    refine s_run (w_none rfl) rfl (d_nest (r := Rc.cmp r.deal r.secret 0 r.state false) rfl rfl rfl (eq_fld (d := 9996) ho.2.2.1 hs) (by kernel_rfl)) ?_
    refine s_run (w_none rfl) rfl (as_b rfl rfl) ?_
    refine l_nil ?_
    refine k_ret ?_
    repeat (first | refine r_then ?_ | refine r_blk ?_)
    exact q_ret (v := .bool _) rfl rfl ⟨_, rfl, vb ((Rc.for_3 h1).symm), H.under⟩
  · skip
    refine k_region ?_
    refine s_run (w_none rfl) rfl (d_fa rfl rfl tf33_0) ?_
    refine s_run (w_none rfl) rfl (d_ldX (off := 0) rfl H rfl rfl rfl ta3) ?_
    refine l_nil ?_
    refine k_block ?_
    refine k_seq ?_
    refine k_region ?_
    refine s_run (w_none rfl) rfl (d_eq rfl rfl rfl) ?_
    refine s_run (w_none rfl) rfl (as_b rfl rfl) ?_
    refine l_nil ?_
    refine k_condF rfl (by first | rfl | (simp; omega) | (simp; done) | simp_all) ?_
    refine k_seq ?_
    refine k_region ?_
    refine s_run (w_none rfl) rfl (d_eq rfl rfl rfl) ?_
    refine s_run (w_none rfl) rfl (as_b rfl rfl) ?_
    refine l_nil ?_
    refine k_condF rfl (by first | rfl | (simp; omega) | (simp; done) | simp_all) ?_
    refine k_seq ?_
    refine k_region ?_
    refine s_run (w_none rfl) rfl (d_eq rfl rfl rfl) ?_
    refine s_run (w_none rfl) rfl (as_b rfl rfl) ?_
    refine l_nil ?_
    refine k_condF rfl (by first | rfl | (simp; omega) | (simp; done) | simp_all) ?_
    refine k_seq ?_
    refine k_region ?_
    refine s_run (w_none rfl) rfl (d_eq rfl rfl rfl) ?_
    refine s_run (w_none rfl) rfl (as_b rfl rfl) ?_
    refine l_nil ?_
    refine k_condT rfl (by first | rfl | (simp; omega) | (simp; done) | simp_all) ?_
    refine k_region ?_
    refine s_run (w_none rfl) rfl (d_fa rfl rfl tf96_3) ?_
    refine s_eff (e_stoK (v := .int .i64 0) (vs := [.int .i64 0]) ((fldC r.deal r.secret r.move 0 (!Rc.none r.tx))) (w_none rfl) rfl rfl rfl rfl rfl ts3 rfl rfl H (by rw [len_fld hh hs]; decide) (spl_f_state hh hs) ?_)
    clear H; intro W H
    refine l_nil ?_
    refine k_nil ?_
    refine b_end ?_
    refine k_seq ?_
    refine k_region ?_
    refine s_run (w_none rfl) rfl (d_ldm0 (g := gf) rfl H rfl ta96 ts96 (len_fld hh hs)) ?_
    refine s_run (w_none rfl) rfl (d_build (vs := fldC Rc.zDeal Rc.z32 0 0 false) rfl (by kernel_rfl)) ?_
    refine s_run (w_none rfl) rfl (d_nest (r := Rc.cmp r.deal r.secret r.move 0 (!Rc.none r.tx)) rfl rfl rfl (eq_fld (d := 9996) ho.2.2.1 hs) (by kernel_rfl)) ?_
    refine s_run (w_none rfl) rfl (as_b rfl rfl) ?_
    refine l_nil ?_
    refine k_ret ?_
    repeat (first | refine r_then ?_ | refine r_blk ?_)
    exact q_ret (v := .bool _) rfl rfl ⟨_, rfl, vb ((Rc.for_4 h1).symm), H.under⟩
  · skip
    refine k_region ?_
    refine s_run (w_none rfl) rfl (d_fa rfl rfl tf33_0) ?_
    refine s_run (w_none rfl) rfl (d_ldX (off := 0) rfl H rfl rfl rfl ta3) ?_
    refine l_nil ?_
    refine k_block ?_
    refine k_seq ?_
    refine k_region ?_
    refine s_run (w_none rfl) rfl (d_eq rfl rfl rfl) ?_
    refine s_run (w_none rfl) rfl (as_b rfl rfl) ?_
    refine l_nil ?_
    refine k_condF rfl (by first | rfl | (simp; omega) | (simp; done) | simp_all) ?_
    refine k_seq ?_
    refine k_region ?_
    refine s_run (w_none rfl) rfl (d_eq rfl rfl rfl) ?_
    refine s_run (w_none rfl) rfl (as_b rfl rfl) ?_
    refine l_nil ?_
    refine k_condF rfl (by first | rfl | (simp; omega) | (simp; done) | simp_all) ?_
    refine k_seq ?_
    refine k_region ?_
    refine s_run (w_none rfl) rfl (d_eq rfl rfl rfl) ?_
    refine s_run (w_none rfl) rfl (as_b rfl rfl) ?_
    refine l_nil ?_
    refine k_condF rfl (by first | rfl | (simp; omega) | (simp; done) | simp_all) ?_
    refine k_seq ?_
    refine k_region ?_
    refine s_run (w_none rfl) rfl (d_eq rfl rfl rfl) ?_
    refine s_run (w_none rfl) rfl (as_b rfl rfl) ?_
    refine l_nil ?_
    refine k_condF rfl (by first | rfl | (simp; omega) | (simp; done) | simp_all) ?_
    refine k_skip ?_
    refine k_nil ?_
    refine b_end ?_
    refine k_seq ?_
    refine k_region ?_
    refine s_run (w_none rfl) rfl (d_ldm0 (g := gf) rfl H rfl ta96 ts96 (len_fld hh hs)) ?_
    refine s_run (w_none rfl) rfl (d_build (vs := fldC Rc.zDeal Rc.z32 0 0 false) rfl (by kernel_rfl)) ?_
    refine s_run (w_none rfl) rfl (d_nest (r := Rc.cmp r.deal r.secret r.move r.state (!Rc.none r.tx)) rfl rfl rfl (eq_fld (d := 9996) ho.2.2.1 hs) (by kernel_rfl)) ?_
    refine s_run (w_none rfl) rfl (as_b rfl rfl) ?_
    refine l_nil ?_
    refine k_ret ?_
    repeat (first | refine r_then ?_ | refine r_blk ?_)
    exact q_ret (v := .bool _) rfl rfl ⟨_, rfl, vb ((Rc.for_5 h1).symm), H.under⟩

set_option maxHeartbeats 4000000 in
theorem checkRT {S : Nat → Prop} {ct : List Value} {r : DRecord} (w : World) (ho : Rc.Ok r) (ht : RTx w S ct r.tx) : Calls Tryz.prog 12 [.agg (recC r ct).toArray].toArray w (Ret (Is w (.int .i64 (Rc.chk r)))) := by
  obtain ⟨A, c, B, d, rfl, hI, hO, hk⟩ := tx_of ht
  refine k_enter (l := [_]) Tryz.func12 rfl rfl ?_
  have H := St.start nT w
  refine k_seq ?_
  refine k_region ?_
  refine s_eff (e_box (vs := (recC r (txC A r.tx.ins.length c B r.tx.outs.length d r.tx.lock))) (w_none rfl) rfl rfl rfl rfl H ?_)
  clear H; intro gm W H
  refine s_run (w_none rfl) rfl (as_i rfl rfl) ?_
  refine l_nil ?_
  refine k_seq ?_
  refine k_seq ?_
  refine k_region ?_
  refine s_run (w_none rfl) rfl (d_fa rfl rfl tf33_0) ?_
  refine s_run (w_none rfl) rfl (d_ldX (off := 0) rfl H rfl rfl rfl ta3) ?_
  refine s_eff (e_call (w_none rfl) rfl rfl Tryz.func33 rfl rfl rfl (withinR _) ?_)
  rintro _ W ⟨rfl, hb⟩
  replace H := H.below hb
  clear hb
  refine s_run (w_none rfl) rfl (d_not rfl rfl) ?_
  refine l_nil ?_
  refine k_cond rfl (fun hc7 => ?_) (fun hc7 => ?_)
  · have hk9 : r.kind < 1 ∨ 4 < r.kind := by simp at hc7; omega
    refine k_seq ?_
    refine k_region ?_
    refine s_run (w_none rfl) rfl (as_i rfl rfl) ?_
    refine l_nil ?_
    refine k_ret ?_
    repeat (first | refine r_then ?_ | refine r_blk ?_)
    exact q_ret (v := .int _ _) rfl rfl ⟨_, rfl, vi ((Rc.chk_bad hk9).symm), H.under⟩
  · have hk9 : 1 ≤ r.kind ∧ r.kind ≤ 4 := by simpa using hc7
    refine k_skip ?_
    refine k_seq ?_
    refine k_seq ?_
    refine k_region ?_
    refine s_run (w_none rfl) rfl (d_ldXM (off := 0) rfl H (sub_all (len_rec' ho rfl)) (len_rec' ho rfl) rfl rfl rfl ta33 ts33) ?_
    refine s_eff (e_call (w_none rfl) rfl rfl Tryz.func36 rfl rfl rfl (ownT _ ho (keeps_Tx _ _ _ _ _ ht (fun g hg _ => H.fr.block g hg (fun h => h)))) ?_)
    rintro _ W ⟨rfl, hb⟩
    replace H := H.below hb
    clear hb
    refine s_run (w_none rfl) rfl (as_i rfl rfl) ?_
    refine l_nil ?_
    refine k_seq ?_
    refine k_region ?_
    refine s_run (w_none rfl) rfl (mv_i rfl rfl) ?_
    refine s_run (w_none rfl) rfl (d_ne rfl rfl rfl) ?_
    refine l_nil ?_
    refine k_cond rfl (fun hc11 => ?_) (fun hc11 => ?_)
    · have h9 : Rc.own r ≠ 0 := by simpa using hc11
      refine k_seq ?_
      refine k_region ?_
      refine s_run (w_none rfl) rfl (mv_i rfl rfl) ?_
      refine s_run (w_none rfl) rfl (as_i rfl rfl) ?_
      refine l_nil ?_
      refine k_ret ?_
      repeat (first | refine r_then ?_ | refine r_blk ?_)
      exact q_ret (v := .int _ _) rfl rfl ⟨_, rfl, vi ((Rc.chk_own hk9 h9).symm), H.under⟩
    · have h9 : Rc.own r = 0 := by simpa using hc11
      refine k_skip ?_
      refine k_seq ?_
      refine k_seq ?_
      refine k_region ?_
      refine s_run (w_none rfl) rfl (d_ldXM (off := 0) rfl H (sub_all (len_rec' ho rfl)) (len_rec' ho rfl) rfl rfl rfl ta33 ts33) ?_
      refine s_eff (e_call (w_none rfl) rfl rfl Tryz.func37 rfl rfl rfl (foreignT _ ho (keeps_Tx _ _ _ _ _ ht (fun g hg _ => H.fr.block g hg (fun h => h)))) ?_)
      rintro _ W ⟨rfl, hb⟩
      replace H := H.below hb
      clear hb
      refine l_nil ?_
      refine k_cond rfl (fun hc14 => ?_) (fun hc14 => ?_)
      · skip
        refine k_seq ?_
        refine k_region ?_
        refine s_run (w_none rfl) rfl (as_i rfl rfl) ?_
        refine l_nil ?_
        refine k_ret ?_
        repeat (first | refine r_then ?_ | refine r_blk ?_)
        exact q_ret (v := .int _ _) rfl rfl ⟨_, rfl, vi (by rw [Rc.chk_for hk9 h9, if_pos hc14]), H.under⟩
      · skip
        refine k_skip ?_
        refine k_seq ?_
        refine k_region ?_
        refine s_run (w_none rfl) rfl (as_i rfl rfl) ?_
        refine l_nil ?_
        refine k_ret ?_
        repeat (first | refine r_then ?_ | refine r_blk ?_)
        exact q_ret (v := .int _ _) rfl rfl ⟨_, rfl, vi (by rw [Rc.chk_for hk9 h9, if_neg (by simpa using hc14)]), H.under⟩
end Go.Proofs.YtfjhmecmhchbdaaGreatDoor

namespace Go.Proofs.YtfjhmecmhchbdaaGreatDoor
open Go Go.RowKit
attribute [local irreducible] wpList

set_option maxHeartbeats 4000000 in
theorem ints1 {S : Nat → Prop} {v : Value} {b : List UInt8} {x0 : Int} {q : Nat} (w : World) (hG : Gat w 0 formsC) (hb : Bs w S v b) (hbl : b.length ≤ 1000000) (hq : Gat w q [.int .i64 x0]) (h0 : I64 x0) : Calls Tryz.prog 23 [v, .slice (some ⟨q, 0, none⟩) 1 1].toArray w (Ret (NewB 5 w (b ++ Pk.int (Pk.toU x0)))) := by
  have hb0 := hb
  obtain ⟨Ab, cb, rfl, _, _, _⟩ := hb.op
  have hq0 := Pk.len_int (Pk.toU x0)
  refine k_enter (l := [_, _]) Tryz.func23 rfl rfl ?_
  have H := St.start nT w
  refine k_seq ?_
  refine k_region ?_
  refine s_run (w_none rfl) rfl (as_s rfl rfl) ?_
  refine l_nil ?_
  refine k_seq ?_
  refine k_seq ?_
  refine k_region ?_
  refine s_run (w_none rfl) rfl (mv_s rfl rfl) ?_
  refine s_run (w_none rfl) rfl (d_len rfl rfl tu66) ?_
  refine s_run (w_none rfl) rfl (mv_i rfl rfl) ?_
  refine l_nil ?_
  refine k_block ?_
  refine k_unr (k_one ?_)
  refine k_seq ?_
  refine k_region ?_
  refine s_run (w_none rfl) rfl (d_lt rfl rfl rfl) ?_
  refine l_nil ?_
  refine k_seq ?_
  refine k_condT rfl rfl ?_
  refine k_skip ?_
  refine k_seq ?_
  refine k_block ?_
  refine k_seq ?_
  refine k_region ?_
  refine s_run (w_none rfl) rfl (d_iaP (q := 0) rfl rfl rfl rfl (by decide) tu66 ts3) ?_
  refine s_run (w_none rfl) rfl (d_ldG rfl ((H.gat hq)) rfl ta3 rfl) ?_
  refine s_run (w_none rfl) rfl (as_i rfl rfl) ?_
  refine l_nil ?_
  refine k_region ?_
  refine s_run (w_none rfl) rfl (mv_s rfl rfl) ?_
  refine s_run (w_none rfl) rfl (mv_i rfl rfl) ?_
  refine s_eff (e_call (w_none rfl) rfl rfl Tryz.func62 rfl rfl rfl (packInt (b := (b)) x0 _ (H.gat hG) (H.bs hb0) h0 (by first | omega | (simp only [List.length_append]; omega))) ?_)
  rintro _ W ⟨A1, c1, rfl, hc1, hd1, hn⟩
  replace H := H.new hn
  clear hn
  refine s_run (w_none rfl) rfl (as_s rfl rfl) ?_
  refine l_nil ?_
  refine k_nil ?_
  refine b_end ?_
  refine k_region ?_
  refine s_run (w_none rfl) rfl (d_add rfl rfl rfl (by omega)) ?_
  refine s_run (w_none rfl) rfl (mv_i rfl rfl) ?_
  refine l_nil ?_
  refine k_nil ?_
  refine k_next (hd_of (k_one ?_))
  refine k_seq ?_
  refine k_region ?_
  refine s_run (w_none rfl) rfl (d_lt rfl rfl rfl) ?_
  refine l_nil ?_
  refine k_seq ?_
  refine k_condF rfl rfl ?_
  refine k_exit ?_
  refine x_then (x_then ?_)
  refine x_hit ?_
  refine k_seq ?_
  refine k_region ?_
  refine s_run (w_none rfl) rfl (mv_s rfl rfl) ?_
  refine s_run (w_none rfl) rfl (as_s rfl rfl) ?_
  refine l_nil ?_
  refine k_ret ?_
  repeat (first | refine r_then ?_ | refine r_blk ?_)
  exact q_ret (v := .slice _ _ _) rfl rfl ⟨_, rfl, H.newB rfl rfl hc1 hd1⟩

set_option maxHeartbeats 4000000 in
theorem ints2 {S : Nat → Prop} {v : Value} {b : List UInt8} {x0 x1 : Int} {q : Nat} (w : World) (hG : Gat w 0 formsC) (hb : Bs w S v b) (hbl : b.length ≤ 1000000) (hq : Gat w q [.int .i64 x0, .int .i64 x1]) (h0 : I64 x0) (h1 : I64 x1) : Calls Tryz.prog 23 [v, .slice (some ⟨q, 0, none⟩) 2 2].toArray w (Ret (NewB 5 w (b ++ Pk.int (Pk.toU x0) ++ Pk.int (Pk.toU x1)))) := by
  have hb0 := hb
  obtain ⟨Ab, cb, rfl, _, _, _⟩ := hb.op
  have hq0 := Pk.len_int (Pk.toU x0)
  have hq1 := Pk.len_int (Pk.toU x1)
  refine k_enter (l := [_, _]) Tryz.func23 rfl rfl ?_
  have H := St.start nT w
  refine k_seq ?_
  refine k_region ?_
  refine s_run (w_none rfl) rfl (as_s rfl rfl) ?_
  refine l_nil ?_
  refine k_seq ?_
  refine k_seq ?_
  refine k_region ?_
  refine s_run (w_none rfl) rfl (mv_s rfl rfl) ?_
  refine s_run (w_none rfl) rfl (d_len rfl rfl tu66) ?_
  refine s_run (w_none rfl) rfl (mv_i rfl rfl) ?_
  refine l_nil ?_
  refine k_block ?_
  refine k_unr (k_one ?_)
  refine k_seq ?_
  refine k_region ?_
  refine s_run (w_none rfl) rfl (d_lt rfl rfl rfl) ?_
  refine l_nil ?_
  refine k_seq ?_
  refine k_condT rfl rfl ?_
  refine k_skip ?_
  refine k_seq ?_
  refine k_block ?_
  refine k_seq ?_
  refine k_region ?_
  refine s_run (w_none rfl) rfl (d_iaP (q := 0) rfl rfl rfl rfl (by decide) tu66 ts3) ?_
  refine s_run (w_none rfl) rfl (d_ldG rfl ((H.gat hq)) rfl ta3 rfl) ?_
  refine s_run (w_none rfl) rfl (as_i rfl rfl) ?_
  refine l_nil ?_
  refine k_region ?_
  refine s_run (w_none rfl) rfl (mv_s rfl rfl) ?_
  refine s_run (w_none rfl) rfl (mv_i rfl rfl) ?_
  refine s_eff (e_call (w_none rfl) rfl rfl Tryz.func62 rfl rfl rfl (packInt (b := (b)) x0 _ (H.gat hG) (H.bs hb0) h0 (by first | omega | (simp only [List.length_append]; omega))) ?_)
  rintro _ W ⟨A1, c1, rfl, hc1, hd1, hn⟩
  replace H := H.new hn
  clear hn
  refine s_run (w_none rfl) rfl (as_s rfl rfl) ?_
  refine l_nil ?_
  refine k_nil ?_
  refine b_end ?_
  refine k_region ?_
  refine s_run (w_none rfl) rfl (d_add rfl rfl rfl (by omega)) ?_
  refine s_run (w_none rfl) rfl (mv_i rfl rfl) ?_
  refine l_nil ?_
  refine k_nil ?_
  refine k_next (hd_of (k_one ?_))
  refine k_seq ?_
  refine k_region ?_
  refine s_run (w_none rfl) rfl (d_lt rfl rfl rfl) ?_
  refine l_nil ?_
  refine k_seq ?_
  refine k_condT rfl rfl ?_
  refine k_skip ?_
  refine k_seq ?_
  refine k_block ?_
  refine k_seq ?_
  refine k_region ?_
  refine s_run (w_none rfl) rfl (d_iaP (q := 1) rfl rfl rfl rfl (by decide) tu66 ts3) ?_
  refine s_run (w_none rfl) rfl (d_ldG rfl ((H.gat hq)) rfl ta3 rfl) ?_
  refine s_run (w_none rfl) rfl (as_i rfl rfl) ?_
  refine l_nil ?_
  refine k_region ?_
  refine s_run (w_none rfl) rfl (mv_s rfl rfl) ?_
  refine s_run (w_none rfl) rfl (mv_i rfl rfl) ?_
  refine s_eff (e_call (w_none rfl) rfl rfl Tryz.func62 rfl rfl rfl (packInt (b := (b ++ Pk.int (Pk.toU x0))) x1 _ (H.gat hG) (H.rowbs (A := A1) rfl) h1 (by first | omega | (simp only [List.length_append]; omega))) ?_)
  rintro _ W ⟨A2, c2, rfl, hc2, hd2, hn⟩
  replace H := H.new hn
  clear hn
  refine s_run (w_none rfl) rfl (as_s rfl rfl) ?_
  refine l_nil ?_
  refine k_nil ?_
  refine b_end ?_
  refine k_region ?_
  refine s_run (w_none rfl) rfl (d_add rfl rfl rfl (by omega)) ?_
  refine s_run (w_none rfl) rfl (mv_i rfl rfl) ?_
  refine l_nil ?_
  refine k_nil ?_
  refine k_next (hd_of (k_one ?_))
  refine k_seq ?_
  refine k_region ?_
  refine s_run (w_none rfl) rfl (d_lt rfl rfl rfl) ?_
  refine l_nil ?_
  refine k_seq ?_
  refine k_condF rfl rfl ?_
  refine k_exit ?_
  refine x_then (x_then ?_)
  refine x_hit ?_
  refine k_seq ?_
  refine k_region ?_
  refine s_run (w_none rfl) rfl (mv_s rfl rfl) ?_
  refine s_run (w_none rfl) rfl (as_s rfl rfl) ?_
  refine l_nil ?_
  refine k_ret ?_
  repeat (first | refine r_then ?_ | refine r_blk ?_)
  exact q_ret (v := .slice _ _ _) rfl rfl ⟨_, rfl, H.newB rfl rfl hc2 hd2⟩

set_option maxHeartbeats 4000000 in
theorem sameRec {S S1 : Nat → Prop} {ct cu : List Value} {r u : DRecord} (w : World) (ho : Rc.Ok r) (ht : RTx w S ct r.tx) (ho2 : Rc.Ok u) (hu : RTx w S1 cu u.tx) : Calls Tryz.prog 15 [.agg (recC r ct).toArray, .agg (recC u cu).toArray].toArray w (Ret (Is w (.bool (decide (r = u))))) := by
  obtain ⟨A, c, B, d, rfl, hI, hO, hk⟩ := tx_of ht
  obtain ⟨A1, c1, B1, d1, rfl, hI1, hO1, hk1⟩ := tx_of hu
  refine k_enter (l := [_, _]) Tryz.func15 rfl rfl ?_
  have H := St.start nT w
  refine k_seq ?_
  refine k_region ?_
  refine s_eff (e_box (vs := (recC r (txC A r.tx.ins.length c B r.tx.outs.length d r.tx.lock))) (w_none rfl) rfl rfl rfl rfl H ?_)
  clear H; intro gm W H
  refine s_eff (e_box (vs := (recC u (txC A1 u.tx.ins.length c1 B1 u.tx.outs.length d1 u.tx.lock))) (w_none rfl) rfl rfl rfl rfl H ?_)
  clear H; intro gu W H
  refine s_run (w_none rfl) rfl (as_b rfl rfl) ?_
  refine l_nil ?_
  refine k_seq ?_
  rcases rec_same (r := r) (u := u) with h1 | h1 | h1 | h1 | h1 | h1 | h1
  · skip
    refine k_region ?_
    refine s_run (w_none rfl) rfl (d_fa rfl rfl tf33_0) ?_
    refine s_run (w_none rfl) rfl (d_ldX (g := gm) (off := 0) rfl H rfl rfl rfl ta3) ?_
    refine s_run (w_none rfl) rfl (d_fa rfl rfl tf33_0) ?_
    refine s_run (w_none rfl) rfl (d_ldX (g := gu) (off := 0) rfl H rfl rfl rfl ta3) ?_
    refine s_run (w_none rfl) rfl (d_eq rfl rfl rfl) ?_
    refine s_run (w_none rfl) rfl (mv_bx (c := false) rfl rfl (by first | rfl | (simp; omega) | simp_all)) ?_
    refine s_skip (w_gno rfl rfl rfl rfl rfl) rfl ?_
    refine s_skip (w_gno rfl rfl rfl rfl rfl) rfl ?_
    refine s_skip (w_gno rfl rfl rfl rfl rfl) rfl ?_
    refine s_skip (w_gno rfl rfl rfl rfl rfl) rfl ?_
    refine s_skip (w_gno rfl rfl rfl rfl rfl) rfl ?_
    refine s_run (w_none rfl) rfl (d_pickF rfl rfl rfl) ?_
    refine s_run (w_none rfl) rfl (mv_bx (c := false) rfl rfl (by first | rfl | (simp; omega) | simp_all)) ?_
    refine s_skip (w_gno rfl rfl rfl rfl rfl) rfl ?_
    refine s_skip (w_gno rfl rfl rfl rfl rfl) rfl ?_
    refine s_skip (w_gno rfl rfl rfl rfl rfl) rfl ?_
    refine s_skip (w_gno rfl rfl rfl rfl rfl) rfl ?_
    refine s_skip (w_gno rfl rfl rfl rfl rfl) rfl ?_
    refine s_run (w_none rfl) rfl (d_pickF rfl rfl rfl) ?_
    refine s_run (w_none rfl) rfl (mv_bx (c := false) rfl rfl (by first | rfl | (rw [h1.2.2.1]; done) | (rw [h1.2.2]; done) | simp_all)) ?_
    refine s_skip (w_gno rfl rfl rfl rfl rfl) rfl ?_
    refine s_skip (w_gno rfl rfl rfl rfl rfl) rfl ?_
    refine s_skip (w_gno rfl rfl rfl rfl rfl) rfl ?_
    refine s_skip (w_gno rfl rfl rfl rfl rfl) rfl ?_
    refine s_skip (w_gno rfl rfl rfl rfl rfl) rfl ?_
    refine s_run (w_none rfl) rfl (d_pickF rfl rfl rfl) ?_
    refine s_run (w_none rfl) rfl (mv_bx (c := false) rfl rfl (by first | rfl | (rw [h1.2.2.2.1]; done) | (rw [h1.2.2.2]; done) | simp_all)) ?_
    refine s_skip (w_gno rfl rfl rfl rfl rfl) rfl ?_
    refine s_skip (w_gno rfl rfl rfl rfl rfl) rfl ?_
    refine s_skip (w_gno rfl rfl rfl rfl rfl) rfl ?_
    refine s_skip (w_gno rfl rfl rfl rfl rfl) rfl ?_
    refine s_skip (w_gno rfl rfl rfl rfl rfl) rfl ?_
    refine s_run (w_none rfl) rfl (d_pickF rfl rfl rfl) ?_
    refine s_run (w_none rfl) rfl (mv_bx (c := false) rfl rfl (by first | rfl | (simp; omega) | simp_all)) ?_
    refine s_skip (w_gno rfl rfl rfl rfl rfl) rfl ?_
    refine s_skip (w_gno rfl rfl rfl rfl rfl) rfl ?_
    refine s_skip (w_gno rfl rfl rfl rfl rfl) rfl ?_
    refine s_skip (w_gno rfl rfl rfl rfl rfl) rfl ?_
    refine s_skip (w_gno rfl rfl rfl rfl rfl) rfl ?_
    refine s_run (w_none rfl) rfl (d_pickF rfl rfl rfl) ?_
    refine s_run (w_none rfl) rfl (mv_bx (c := false) rfl rfl (by first | rfl | (simp; omega) | simp_all)) ?_
    refine s_skip (w_gno rfl rfl rfl rfl rfl) rfl ?_
    refine s_skip (w_gno rfl rfl rfl rfl rfl) rfl ?_
    refine s_skip (w_gno rfl rfl rfl rfl rfl) rfl ?_
    refine s_skip (w_gno rfl rfl rfl rfl rfl) rfl ?_
    refine s_skip (w_gno rfl rfl rfl rfl rfl) rfl ?_
    refine s_run (w_none rfl) rfl (d_pickF rfl rfl rfl) ?_
    refine s_run (w_none rfl) rfl (as_b rfl rfl) ?_
    refine l_nil ?_
    refine k_ret ?_
    repeat (first | refine r_then ?_ | refine r_blk ?_)
    exact q_ret (v := .bool _) rfl rfl ⟨_, rfl, vb (decide_eq_false (fun e => by subst e; first | omega | simp_all [beqDeal_iff.2])).symm, H.under⟩
  · skip
    refine k_region ?_
    refine s_run (w_none rfl) rfl (d_fa rfl rfl tf33_0) ?_
    refine s_run (w_none rfl) rfl (d_ldX (g := gm) (off := 0) rfl H rfl rfl rfl ta3) ?_
    refine s_run (w_none rfl) rfl (d_fa rfl rfl tf33_0) ?_
    refine s_run (w_none rfl) rfl (d_ldX (g := gu) (off := 0) rfl H rfl rfl rfl ta3) ?_
    refine s_run (w_none rfl) rfl (d_eq rfl rfl rfl) ?_
    refine s_run (w_none rfl) rfl (mv_bx (c := true) rfl rfl (by first | rfl | (simp; omega) | simp_all)) ?_
    refine s_run (w_g rfl rfl rfl rfl) rfl (d_fa rfl rfl tf33_1) ?_
    refine s_run (w_g rfl rfl rfl rfl) rfl (d_ldX (g := gm) (off := 1) rfl H rfl rfl rfl ta3) ?_
    refine s_run (w_g rfl rfl rfl rfl) rfl (d_fa rfl rfl tf33_1) ?_
    refine s_run (w_g rfl rfl rfl rfl) rfl (d_ldX (g := gu) (off := 1) rfl H rfl rfl rfl ta3) ?_
    refine s_run (w_g rfl rfl rfl rfl) rfl (d_eq rfl rfl rfl) ?_
    refine s_run (w_none rfl) rfl (d_pickT rfl rfl rfl) ?_
    refine s_run (w_none rfl) rfl (mv_bx (c := false) rfl rfl (by first | rfl | (simp; omega) | simp_all)) ?_
    refine s_skip (w_gno rfl rfl rfl rfl rfl) rfl ?_
    refine s_skip (w_gno rfl rfl rfl rfl rfl) rfl ?_
    refine s_skip (w_gno rfl rfl rfl rfl rfl) rfl ?_
    refine s_skip (w_gno rfl rfl rfl rfl rfl) rfl ?_
    refine s_skip (w_gno rfl rfl rfl rfl rfl) rfl ?_
    refine s_run (w_none rfl) rfl (d_pickF rfl rfl rfl) ?_
    refine s_run (w_none rfl) rfl (mv_bx (c := false) rfl rfl (by first | rfl | (rw [h1.2.2.1]; done) | (rw [h1.2.2]; done) | simp_all)) ?_
    refine s_skip (w_gno rfl rfl rfl rfl rfl) rfl ?_
    refine s_skip (w_gno rfl rfl rfl rfl rfl) rfl ?_
    refine s_skip (w_gno rfl rfl rfl rfl rfl) rfl ?_
    refine s_skip (w_gno rfl rfl rfl rfl rfl) rfl ?_
    refine s_skip (w_gno rfl rfl rfl rfl rfl) rfl ?_
    refine s_run (w_none rfl) rfl (d_pickF rfl rfl rfl) ?_
    refine s_run (w_none rfl) rfl (mv_bx (c := false) rfl rfl (by first | rfl | (rw [h1.2.2.2.1]; done) | (rw [h1.2.2.2]; done) | simp_all)) ?_
    refine s_skip (w_gno rfl rfl rfl rfl rfl) rfl ?_
    refine s_skip (w_gno rfl rfl rfl rfl rfl) rfl ?_
    refine s_skip (w_gno rfl rfl rfl rfl rfl) rfl ?_
    refine s_skip (w_gno rfl rfl rfl rfl rfl) rfl ?_
    refine s_skip (w_gno rfl rfl rfl rfl rfl) rfl ?_
    refine s_run (w_none rfl) rfl (d_pickF rfl rfl rfl) ?_
    refine s_run (w_none rfl) rfl (mv_bx (c := false) rfl rfl (by first | rfl | (simp; omega) | simp_all)) ?_
    refine s_skip (w_gno rfl rfl rfl rfl rfl) rfl ?_
    refine s_skip (w_gno rfl rfl rfl rfl rfl) rfl ?_
    refine s_skip (w_gno rfl rfl rfl rfl rfl) rfl ?_
    refine s_skip (w_gno rfl rfl rfl rfl rfl) rfl ?_
    refine s_skip (w_gno rfl rfl rfl rfl rfl) rfl ?_
    refine s_run (w_none rfl) rfl (d_pickF rfl rfl rfl) ?_
    refine s_run (w_none rfl) rfl (mv_bx (c := false) rfl rfl (by first | rfl | (simp; omega) | simp_all)) ?_
    refine s_skip (w_gno rfl rfl rfl rfl rfl) rfl ?_
    refine s_skip (w_gno rfl rfl rfl rfl rfl) rfl ?_
    refine s_skip (w_gno rfl rfl rfl rfl rfl) rfl ?_
    refine s_skip (w_gno rfl rfl rfl rfl rfl) rfl ?_
    refine s_skip (w_gno rfl rfl rfl rfl rfl) rfl ?_
    refine s_run (w_none rfl) rfl (d_pickF rfl rfl rfl) ?_
    refine s_run (w_none rfl) rfl (as_b rfl rfl) ?_
    refine l_nil ?_
    refine k_ret ?_
    repeat (first | refine r_then ?_ | refine r_blk ?_)
    exact q_ret (v := .bool _) rfl rfl ⟨_, rfl, vb (decide_eq_false (fun e => by subst e; first | omega | simp_all [beqDeal_iff.2])).symm, H.under⟩
  · skip
    refine k_region ?_
    refine s_run (w_none rfl) rfl (d_fa rfl rfl tf33_0) ?_
    refine s_run (w_none rfl) rfl (d_ldX (g := gm) (off := 0) rfl H rfl rfl rfl ta3) ?_
    refine s_run (w_none rfl) rfl (d_fa rfl rfl tf33_0) ?_
    refine s_run (w_none rfl) rfl (d_ldX (g := gu) (off := 0) rfl H rfl rfl rfl ta3) ?_
    refine s_run (w_none rfl) rfl (d_eq rfl rfl rfl) ?_
    refine s_run (w_none rfl) rfl (mv_bx (c := true) rfl rfl (by first | rfl | (simp; omega) | simp_all)) ?_
    refine s_run (w_g rfl rfl rfl rfl) rfl (d_fa rfl rfl tf33_1) ?_
    refine s_run (w_g rfl rfl rfl rfl) rfl (d_ldX (g := gm) (off := 1) rfl H rfl rfl rfl ta3) ?_
    refine s_run (w_g rfl rfl rfl rfl) rfl (d_fa rfl rfl tf33_1) ?_
    refine s_run (w_g rfl rfl rfl rfl) rfl (d_ldX (g := gu) (off := 1) rfl H rfl rfl rfl ta3) ?_
    refine s_run (w_g rfl rfl rfl rfl) rfl (d_eq rfl rfl rfl) ?_
    refine s_run (w_none rfl) rfl (d_pickT rfl rfl rfl) ?_
    refine s_run (w_none rfl) rfl (mv_bx (c := true) rfl rfl (by first | rfl | (simp; omega) | simp_all)) ?_
    refine s_run (w_g rfl rfl rfl rfl) rfl (d_fa rfl rfl tf33_2) ?_
    refine s_run (w_g rfl rfl rfl rfl) rfl (d_ldXM (g := gm) (off := 2) rfl H (sub_r_deal ho) (len_deal ho.2.2.1.2.2.2.2.1) rfl rfl rfl ta27 ts27) ?_
    refine s_run (w_g rfl rfl rfl rfl) rfl (d_fa rfl rfl tf33_2) ?_
    refine s_run (w_g rfl rfl rfl rfl) rfl (d_ldXM (g := gu) (off := 2) rfl H (sub_r_deal ho2) (len_deal ho2.2.2.1.2.2.2.2.1) rfl rfl rfl ta27 ts27) ?_
    refine s_run (w_g rfl rfl rfl rfl) rfl (d_eqst (r := beqDeal r.deal u.deal) rfl rfl rfl (eq_Deal (d := 9997) (deal_rep (W := w) (S := nT) ho.2.2.1) (deal_rep (W := w) (S := nT) ho2.2.2.1)) (by kernel_rfl)) ?_
    refine s_run (w_none rfl) rfl (d_pickT rfl rfl rfl) ?_
    refine s_run (w_none rfl) rfl (mv_bx (c := false) rfl rfl (by first | rfl | (rw [h1.2.2.1]; done) | (rw [h1.2.2]; done) | simp_all)) ?_
    refine s_skip (w_gno rfl rfl rfl rfl rfl) rfl ?_
    refine s_skip (w_gno rfl rfl rfl rfl rfl) rfl ?_
    refine s_skip (w_gno rfl rfl rfl rfl rfl) rfl ?_
    refine s_skip (w_gno rfl rfl rfl rfl rfl) rfl ?_
    refine s_skip (w_gno rfl rfl rfl rfl rfl) rfl ?_
    refine s_run (w_none rfl) rfl (d_pickF rfl rfl rfl) ?_
    refine s_run (w_none rfl) rfl (mv_bx (c := false) rfl rfl (by first | rfl | (rw [h1.2.2.2.1]; done) | (rw [h1.2.2.2]; done) | simp_all)) ?_
    refine s_skip (w_gno rfl rfl rfl rfl rfl) rfl ?_
    refine s_skip (w_gno rfl rfl rfl rfl rfl) rfl ?_
    refine s_skip (w_gno rfl rfl rfl rfl rfl) rfl ?_
    refine s_skip (w_gno rfl rfl rfl rfl rfl) rfl ?_
    refine s_skip (w_gno rfl rfl rfl rfl rfl) rfl ?_
    refine s_run (w_none rfl) rfl (d_pickF rfl rfl rfl) ?_
    refine s_run (w_none rfl) rfl (mv_bx (c := false) rfl rfl (by first | rfl | (simp; omega) | simp_all)) ?_
    refine s_skip (w_gno rfl rfl rfl rfl rfl) rfl ?_
    refine s_skip (w_gno rfl rfl rfl rfl rfl) rfl ?_
    refine s_skip (w_gno rfl rfl rfl rfl rfl) rfl ?_
    refine s_skip (w_gno rfl rfl rfl rfl rfl) rfl ?_
    refine s_skip (w_gno rfl rfl rfl rfl rfl) rfl ?_
    refine s_run (w_none rfl) rfl (d_pickF rfl rfl rfl) ?_
    refine s_run (w_none rfl) rfl (mv_bx (c := false) rfl rfl (by first | rfl | (simp; omega) | simp_all)) ?_
    refine s_skip (w_gno rfl rfl rfl rfl rfl) rfl ?_
    refine s_skip (w_gno rfl rfl rfl rfl rfl) rfl ?_
    refine s_skip (w_gno rfl rfl rfl rfl rfl) rfl ?_
    refine s_skip (w_gno rfl rfl rfl rfl rfl) rfl ?_
    refine s_skip (w_gno rfl rfl rfl rfl rfl) rfl ?_
    refine s_run (w_none rfl) rfl (d_pickF rfl rfl rfl) ?_
    refine s_run (w_none rfl) rfl (as_b rfl rfl) ?_
    refine l_nil ?_
    refine k_ret ?_
    repeat (first | refine r_then ?_ | refine r_blk ?_)
    exact q_ret (v := .bool _) rfl rfl ⟨_, rfl, vb (decide_eq_false (fun e => by subst e; first | omega | simp_all [beqDeal_iff.2])).symm, H.under⟩
  · skip
    refine k_region ?_
    refine s_run (w_none rfl) rfl (d_fa rfl rfl tf33_0) ?_
    refine s_run (w_none rfl) rfl (d_ldX (g := gm) (off := 0) rfl H rfl rfl rfl ta3) ?_
    refine s_run (w_none rfl) rfl (d_fa rfl rfl tf33_0) ?_
    refine s_run (w_none rfl) rfl (d_ldX (g := gu) (off := 0) rfl H rfl rfl rfl ta3) ?_
    refine s_run (w_none rfl) rfl (d_eq rfl rfl rfl) ?_
    refine s_run (w_none rfl) rfl (mv_bx (c := true) rfl rfl (by first | rfl | (simp; omega) | simp_all)) ?_
    refine s_run (w_g rfl rfl rfl rfl) rfl (d_fa rfl rfl tf33_1) ?_
    refine s_run (w_g rfl rfl rfl rfl) rfl (d_ldX (g := gm) (off := 1) rfl H rfl rfl rfl ta3) ?_
    refine s_run (w_g rfl rfl rfl rfl) rfl (d_fa rfl rfl tf33_1) ?_
    refine s_run (w_g rfl rfl rfl rfl) rfl (d_ldX (g := gu) (off := 1) rfl H rfl rfl rfl ta3) ?_
    refine s_run (w_g rfl rfl rfl rfl) rfl (d_eq rfl rfl rfl) ?_
    refine s_run (w_none rfl) rfl (d_pickT rfl rfl rfl) ?_
    refine s_run (w_none rfl) rfl (mv_bx (c := true) rfl rfl (by first | rfl | (simp; omega) | simp_all)) ?_
    refine s_run (w_g rfl rfl rfl rfl) rfl (d_fa rfl rfl tf33_2) ?_
    refine s_run (w_g rfl rfl rfl rfl) rfl (d_ldXM (g := gm) (off := 2) rfl H (sub_r_deal ho) (len_deal ho.2.2.1.2.2.2.2.1) rfl rfl rfl ta27 ts27) ?_
    refine s_run (w_g rfl rfl rfl rfl) rfl (d_fa rfl rfl tf33_2) ?_
    refine s_run (w_g rfl rfl rfl rfl) rfl (d_ldXM (g := gu) (off := 2) rfl H (sub_r_deal ho2) (len_deal ho2.2.2.1.2.2.2.2.1) rfl rfl rfl ta27 ts27) ?_
    refine s_run (w_g rfl rfl rfl rfl) rfl (d_eqst (r := beqDeal r.deal u.deal) rfl rfl rfl (eq_Deal (d := 9997) (deal_rep (W := w) (S := nT) ho.2.2.1) (deal_rep (W := w) (S := nT) ho2.2.2.1)) (by kernel_rfl)) ?_
    refine s_run (w_none rfl) rfl (d_pickT rfl rfl rfl) ?_
    refine s_run (w_none rfl) rfl (mv_bx (c := true) rfl rfl (by first | rfl | (rw [h1.2.2.1]; done) | (rw [h1.2.2]; done) | simp_all)) ?_
    refine s_run (w_g rfl rfl rfl rfl) rfl (d_fa rfl rfl tf33_3) ?_
    refine s_run (w_g rfl rfl rfl rfl) rfl (d_ldXM (g := gm) (off := 43) rfl H (sub_r_secret ho) (by rw [List.length_map]; exact ho.2.2.2.1) rfl rfl rfl ta25 ts25) ?_
    refine s_run (w_g rfl rfl rfl rfl) rfl (d_fa rfl rfl tf33_3) ?_
    refine s_run (w_g rfl rfl rfl rfl) rfl (d_ldXM (g := gu) (off := 43) rfl H (sub_r_secret ho2) (by rw [List.length_map]; exact ho2.2.2.2.1) rfl rfl rfl ta25 ts25) ?_
    refine s_run (w_g rfl rfl rfl rfl) rfl (d_eqarr rfl rfl rfl tu25 tu5 ts5 ho.2.2.2.1 ho2.2.2.2.1 (by kernel_rfl)) ?_
    refine s_run (w_none rfl) rfl (d_pickT rfl rfl rfl) ?_
    refine s_run (w_none rfl) rfl (mv_bx (c := false) rfl rfl (by first | rfl | (rw [h1.2.2.2.1]; done) | (rw [h1.2.2.2]; done) | simp_all)) ?_
    refine s_skip (w_gno rfl rfl rfl rfl rfl) rfl ?_
    refine s_skip (w_gno rfl rfl rfl rfl rfl) rfl ?_
    refine s_skip (w_gno rfl rfl rfl rfl rfl) rfl ?_
    refine s_skip (w_gno rfl rfl rfl rfl rfl) rfl ?_
    refine s_skip (w_gno rfl rfl rfl rfl rfl) rfl ?_
    refine s_run (w_none rfl) rfl (d_pickF rfl rfl rfl) ?_
    refine s_run (w_none rfl) rfl (mv_bx (c := false) rfl rfl (by first | rfl | (simp; omega) | simp_all)) ?_
    refine s_skip (w_gno rfl rfl rfl rfl rfl) rfl ?_
    refine s_skip (w_gno rfl rfl rfl rfl rfl) rfl ?_
    refine s_skip (w_gno rfl rfl rfl rfl rfl) rfl ?_
    refine s_skip (w_gno rfl rfl rfl rfl rfl) rfl ?_
    refine s_skip (w_gno rfl rfl rfl rfl rfl) rfl ?_
    refine s_run (w_none rfl) rfl (d_pickF rfl rfl rfl) ?_
    refine s_run (w_none rfl) rfl (mv_bx (c := false) rfl rfl (by first | rfl | (simp; omega) | simp_all)) ?_
    refine s_skip (w_gno rfl rfl rfl rfl rfl) rfl ?_
    refine s_skip (w_gno rfl rfl rfl rfl rfl) rfl ?_
    refine s_skip (w_gno rfl rfl rfl rfl rfl) rfl ?_
    refine s_skip (w_gno rfl rfl rfl rfl rfl) rfl ?_
    refine s_skip (w_gno rfl rfl rfl rfl rfl) rfl ?_
    refine s_run (w_none rfl) rfl (d_pickF rfl rfl rfl) ?_
    refine s_run (w_none rfl) rfl (as_b rfl rfl) ?_
    refine l_nil ?_
    refine k_ret ?_
    repeat (first | refine r_then ?_ | refine r_blk ?_)
    exact q_ret (v := .bool _) rfl rfl ⟨_, rfl, vb (decide_eq_false (fun e => by subst e; first | omega | simp_all [beqDeal_iff.2])).symm, H.under⟩
  · skip
    refine k_region ?_
    refine s_run (w_none rfl) rfl (d_fa rfl rfl tf33_0) ?_
    refine s_run (w_none rfl) rfl (d_ldX (g := gm) (off := 0) rfl H rfl rfl rfl ta3) ?_
    refine s_run (w_none rfl) rfl (d_fa rfl rfl tf33_0) ?_
    refine s_run (w_none rfl) rfl (d_ldX (g := gu) (off := 0) rfl H rfl rfl rfl ta3) ?_
    refine s_run (w_none rfl) rfl (d_eq rfl rfl rfl) ?_
    refine s_run (w_none rfl) rfl (mv_bx (c := true) rfl rfl (by first | rfl | (simp; omega) | simp_all)) ?_
    refine s_run (w_g rfl rfl rfl rfl) rfl (d_fa rfl rfl tf33_1) ?_
    refine s_run (w_g rfl rfl rfl rfl) rfl (d_ldX (g := gm) (off := 1) rfl H rfl rfl rfl ta3) ?_
    refine s_run (w_g rfl rfl rfl rfl) rfl (d_fa rfl rfl tf33_1) ?_
    refine s_run (w_g rfl rfl rfl rfl) rfl (d_ldX (g := gu) (off := 1) rfl H rfl rfl rfl ta3) ?_
    refine s_run (w_g rfl rfl rfl rfl) rfl (d_eq rfl rfl rfl) ?_
    refine s_run (w_none rfl) rfl (d_pickT rfl rfl rfl) ?_
    refine s_run (w_none rfl) rfl (mv_bx (c := true) rfl rfl (by first | rfl | (simp; omega) | simp_all)) ?_
    refine s_run (w_g rfl rfl rfl rfl) rfl (d_fa rfl rfl tf33_2) ?_
    refine s_run (w_g rfl rfl rfl rfl) rfl (d_ldXM (g := gm) (off := 2) rfl H (sub_r_deal ho) (len_deal ho.2.2.1.2.2.2.2.1) rfl rfl rfl ta27 ts27) ?_
    refine s_run (w_g rfl rfl rfl rfl) rfl (d_fa rfl rfl tf33_2) ?_
    refine s_run (w_g rfl rfl rfl rfl) rfl (d_ldXM (g := gu) (off := 2) rfl H (sub_r_deal ho2) (len_deal ho2.2.2.1.2.2.2.2.1) rfl rfl rfl ta27 ts27) ?_
    refine s_run (w_g rfl rfl rfl rfl) rfl (d_eqst (r := beqDeal r.deal u.deal) rfl rfl rfl (eq_Deal (d := 9997) (deal_rep (W := w) (S := nT) ho.2.2.1) (deal_rep (W := w) (S := nT) ho2.2.2.1)) (by kernel_rfl)) ?_
    refine s_run (w_none rfl) rfl (d_pickT rfl rfl rfl) ?_
    refine s_run (w_none rfl) rfl (mv_bx (c := true) rfl rfl (by first | rfl | (rw [h1.2.2.1]; done) | (rw [h1.2.2]; done) | simp_all)) ?_
    refine s_run (w_g rfl rfl rfl rfl) rfl (d_fa rfl rfl tf33_3) ?_
    refine s_run (w_g rfl rfl rfl rfl) rfl (d_ldXM (g := gm) (off := 43) rfl H (sub_r_secret ho) (by rw [List.length_map]; exact ho.2.2.2.1) rfl rfl rfl ta25 ts25) ?_
    refine s_run (w_g rfl rfl rfl rfl) rfl (d_fa rfl rfl tf33_3) ?_
    refine s_run (w_g rfl rfl rfl rfl) rfl (d_ldXM (g := gu) (off := 43) rfl H (sub_r_secret ho2) (by rw [List.length_map]; exact ho2.2.2.2.1) rfl rfl rfl ta25 ts25) ?_
    refine s_run (w_g rfl rfl rfl rfl) rfl (d_eqarr rfl rfl rfl tu25 tu5 ts5 ho.2.2.2.1 ho2.2.2.2.1 (by kernel_rfl)) ?_
    refine s_run (w_none rfl) rfl (d_pickT rfl rfl rfl) ?_
    refine s_run (w_none rfl) rfl (mv_bx (c := true) rfl rfl (by first | rfl | (rw [h1.2.2.2.1]; done) | (rw [h1.2.2.2]; done) | simp_all)) ?_
    refine s_run (w_g rfl rfl rfl rfl) rfl (d_fa rfl rfl tf33_4) ?_
    refine s_run (w_g rfl rfl rfl rfl) rfl (d_ldX (g := gm) (off := 75) rfl H (sub_r_move ho) rfl rfl ta3) ?_
    refine s_run (w_g rfl rfl rfl rfl) rfl (d_fa rfl rfl tf33_4) ?_
    refine s_run (w_g rfl rfl rfl rfl) rfl (d_ldX (g := gu) (off := 75) rfl H (sub_r_move ho2) rfl rfl ta3) ?_
    refine s_run (w_g rfl rfl rfl rfl) rfl (d_eq rfl rfl rfl) ?_
    refine s_run (w_none rfl) rfl (d_pickT rfl rfl rfl) ?_
    refine s_run (w_none rfl) rfl (mv_bx (c := false) rfl rfl (by first | rfl | (simp; omega) | simp_all)) ?_
    refine s_skip (w_gno rfl rfl rfl rfl rfl) rfl ?_
    refine s_skip (w_gno rfl rfl rfl rfl rfl) rfl ?_
    refine s_skip (w_gno rfl rfl rfl rfl rfl) rfl ?_
    refine s_skip (w_gno rfl rfl rfl rfl rfl) rfl ?_
    refine s_skip (w_gno rfl rfl rfl rfl rfl) rfl ?_
    refine s_run (w_none rfl) rfl (d_pickF rfl rfl rfl) ?_
    refine s_run (w_none rfl) rfl (mv_bx (c := false) rfl rfl (by first | rfl | (simp; omega) | simp_all)) ?_
    refine s_skip (w_gno rfl rfl rfl rfl rfl) rfl ?_
    refine s_skip (w_gno rfl rfl rfl rfl rfl) rfl ?_
    refine s_skip (w_gno rfl rfl rfl rfl rfl) rfl ?_
    refine s_skip (w_gno rfl rfl rfl rfl rfl) rfl ?_
    refine s_skip (w_gno rfl rfl rfl rfl rfl) rfl ?_
    refine s_run (w_none rfl) rfl (d_pickF rfl rfl rfl) ?_
    refine s_run (w_none rfl) rfl (as_b rfl rfl) ?_
    refine l_nil ?_
    refine k_ret ?_
    repeat (first | refine r_then ?_ | refine r_blk ?_)
    exact q_ret (v := .bool _) rfl rfl ⟨_, rfl, vb (decide_eq_false (fun e => by subst e; first | omega | simp_all [beqDeal_iff.2])).symm, H.under⟩
  · skip
    refine k_region ?_
    refine s_run (w_none rfl) rfl (d_fa rfl rfl tf33_0) ?_
    refine s_run (w_none rfl) rfl (d_ldX (g := gm) (off := 0) rfl H rfl rfl rfl ta3) ?_
    refine s_run (w_none rfl) rfl (d_fa rfl rfl tf33_0) ?_
    refine s_run (w_none rfl) rfl (d_ldX (g := gu) (off := 0) rfl H rfl rfl rfl ta3) ?_
    refine s_run (w_none rfl) rfl (d_eq rfl rfl rfl) ?_
    refine s_run (w_none rfl) rfl (mv_bx (c := true) rfl rfl (by first | rfl | (simp; omega) | simp_all)) ?_
    refine s_run (w_g rfl rfl rfl rfl) rfl (d_fa rfl rfl tf33_1) ?_
    refine s_run (w_g rfl rfl rfl rfl) rfl (d_ldX (g := gm) (off := 1) rfl H rfl rfl rfl ta3) ?_
    refine s_run (w_g rfl rfl rfl rfl) rfl (d_fa rfl rfl tf33_1) ?_
    refine s_run (w_g rfl rfl rfl rfl) rfl (d_ldX (g := gu) (off := 1) rfl H rfl rfl rfl ta3) ?_
    refine s_run (w_g rfl rfl rfl rfl) rfl (d_eq rfl rfl rfl) ?_
    refine s_run (w_none rfl) rfl (d_pickT rfl rfl rfl) ?_
    refine s_run (w_none rfl) rfl (mv_bx (c := true) rfl rfl (by first | rfl | (simp; omega) | simp_all)) ?_
    refine s_run (w_g rfl rfl rfl rfl) rfl (d_fa rfl rfl tf33_2) ?_
    refine s_run (w_g rfl rfl rfl rfl) rfl (d_ldXM (g := gm) (off := 2) rfl H (sub_r_deal ho) (len_deal ho.2.2.1.2.2.2.2.1) rfl rfl rfl ta27 ts27) ?_
    refine s_run (w_g rfl rfl rfl rfl) rfl (d_fa rfl rfl tf33_2) ?_
    refine s_run (w_g rfl rfl rfl rfl) rfl (d_ldXM (g := gu) (off := 2) rfl H (sub_r_deal ho2) (len_deal ho2.2.2.1.2.2.2.2.1) rfl rfl rfl ta27 ts27) ?_
    refine s_run (w_g rfl rfl rfl rfl) rfl (d_eqst (r := beqDeal r.deal u.deal) rfl rfl rfl (eq_Deal (d := 9997) (deal_rep (W := w) (S := nT) ho.2.2.1) (deal_rep (W := w) (S := nT) ho2.2.2.1)) (by kernel_rfl)) ?_
    refine s_run (w_none rfl) rfl (d_pickT rfl rfl rfl) ?_
    refine s_run (w_none rfl) rfl (mv_bx (c := true) rfl rfl (by first | rfl | (rw [h1.2.2.1]; done) | (rw [h1.2.2]; done) | simp_all)) ?_
    refine s_run (w_g rfl rfl rfl rfl) rfl (d_fa rfl rfl tf33_3) ?_
    refine s_run (w_g rfl rfl rfl rfl) rfl (d_ldXM (g := gm) (off := 43) rfl H (sub_r_secret ho) (by rw [List.length_map]; exact ho.2.2.2.1) rfl rfl rfl ta25 ts25) ?_
    refine s_run (w_g rfl rfl rfl rfl) rfl (d_fa rfl rfl tf33_3) ?_
    refine s_run (w_g rfl rfl rfl rfl) rfl (d_ldXM (g := gu) (off := 43) rfl H (sub_r_secret ho2) (by rw [List.length_map]; exact ho2.2.2.2.1) rfl rfl rfl ta25 ts25) ?_
    refine s_run (w_g rfl rfl rfl rfl) rfl (d_eqarr rfl rfl rfl tu25 tu5 ts5 ho.2.2.2.1 ho2.2.2.2.1 (by kernel_rfl)) ?_
    refine s_run (w_none rfl) rfl (d_pickT rfl rfl rfl) ?_
    refine s_run (w_none rfl) rfl (mv_bx (c := true) rfl rfl (by first | rfl | (rw [h1.2.2.2.1]; done) | (rw [h1.2.2.2]; done) | simp_all)) ?_
    refine s_run (w_g rfl rfl rfl rfl) rfl (d_fa rfl rfl tf33_4) ?_
    refine s_run (w_g rfl rfl rfl rfl) rfl (d_ldX (g := gm) (off := 75) rfl H (sub_r_move ho) rfl rfl ta3) ?_
    refine s_run (w_g rfl rfl rfl rfl) rfl (d_fa rfl rfl tf33_4) ?_
    refine s_run (w_g rfl rfl rfl rfl) rfl (d_ldX (g := gu) (off := 75) rfl H (sub_r_move ho2) rfl rfl ta3) ?_
    refine s_run (w_g rfl rfl rfl rfl) rfl (d_eq rfl rfl rfl) ?_
    refine s_run (w_none rfl) rfl (d_pickT rfl rfl rfl) ?_
    refine s_run (w_none rfl) rfl (mv_bx (c := true) rfl rfl (by first | rfl | (simp; omega) | simp_all)) ?_
    refine s_run (w_g rfl rfl rfl rfl) rfl (d_fa rfl rfl tf33_5) ?_
    refine s_run (w_g rfl rfl rfl rfl) rfl (d_ldX (g := gm) (off := 76) rfl H (sub_r_state ho) rfl rfl ta3) ?_
    refine s_run (w_g rfl rfl rfl rfl) rfl (d_fa rfl rfl tf33_5) ?_
    refine s_run (w_g rfl rfl rfl rfl) rfl (d_ldX (g := gu) (off := 76) rfl H (sub_r_state ho2) rfl rfl ta3) ?_
    refine s_run (w_g rfl rfl rfl rfl) rfl (d_eq rfl rfl rfl) ?_
    refine s_run (w_none rfl) rfl (d_pickT rfl rfl rfl) ?_
    refine s_run (w_none rfl) rfl (mv_bx (c := false) rfl rfl (by first | rfl | (simp; omega) | simp_all)) ?_
    refine s_skip (w_gno rfl rfl rfl rfl rfl) rfl ?_
    refine s_skip (w_gno rfl rfl rfl rfl rfl) rfl ?_
    refine s_skip (w_gno rfl rfl rfl rfl rfl) rfl ?_
    refine s_skip (w_gno rfl rfl rfl rfl rfl) rfl ?_
    refine s_skip (w_gno rfl rfl rfl rfl rfl) rfl ?_
    refine s_run (w_none rfl) rfl (d_pickF rfl rfl rfl) ?_
    refine s_run (w_none rfl) rfl (as_b rfl rfl) ?_
    refine l_nil ?_
    refine k_ret ?_
    repeat (first | refine r_then ?_ | refine r_blk ?_)
    exact q_ret (v := .bool _) rfl rfl ⟨_, rfl, vb (decide_eq_false (fun e => by subst e; first | omega | simp_all [beqDeal_iff.2])).symm, H.under⟩
  · skip
    refine k_region ?_
    refine s_run (w_none rfl) rfl (d_fa rfl rfl tf33_0) ?_
    refine s_run (w_none rfl) rfl (d_ldX (g := gm) (off := 0) rfl H rfl rfl rfl ta3) ?_
    refine s_run (w_none rfl) rfl (d_fa rfl rfl tf33_0) ?_
    refine s_run (w_none rfl) rfl (d_ldX (g := gu) (off := 0) rfl H rfl rfl rfl ta3) ?_
    refine s_run (w_none rfl) rfl (d_eq rfl rfl rfl) ?_
    refine s_run (w_none rfl) rfl (mv_bx (c := true) rfl rfl (by first | rfl | (simp; omega) | simp_all)) ?_
    refine s_run (w_g rfl rfl rfl rfl) rfl (d_fa rfl rfl tf33_1) ?_
    refine s_run (w_g rfl rfl rfl rfl) rfl (d_ldX (g := gm) (off := 1) rfl H rfl rfl rfl ta3) ?_
    refine s_run (w_g rfl rfl rfl rfl) rfl (d_fa rfl rfl tf33_1) ?_
    refine s_run (w_g rfl rfl rfl rfl) rfl (d_ldX (g := gu) (off := 1) rfl H rfl rfl rfl ta3) ?_
    refine s_run (w_g rfl rfl rfl rfl) rfl (d_eq rfl rfl rfl) ?_
    refine s_run (w_none rfl) rfl (d_pickT rfl rfl rfl) ?_
    refine s_run (w_none rfl) rfl (mv_bx (c := true) rfl rfl (by first | rfl | (simp; omega) | simp_all)) ?_
    refine s_run (w_g rfl rfl rfl rfl) rfl (d_fa rfl rfl tf33_2) ?_
    refine s_run (w_g rfl rfl rfl rfl) rfl (d_ldXM (g := gm) (off := 2) rfl H (sub_r_deal ho) (len_deal ho.2.2.1.2.2.2.2.1) rfl rfl rfl ta27 ts27) ?_
    refine s_run (w_g rfl rfl rfl rfl) rfl (d_fa rfl rfl tf33_2) ?_
    refine s_run (w_g rfl rfl rfl rfl) rfl (d_ldXM (g := gu) (off := 2) rfl H (sub_r_deal ho2) (len_deal ho2.2.2.1.2.2.2.2.1) rfl rfl rfl ta27 ts27) ?_
    refine s_run (w_g rfl rfl rfl rfl) rfl (d_eqst (r := beqDeal r.deal u.deal) rfl rfl rfl (eq_Deal (d := 9997) (deal_rep (W := w) (S := nT) ho.2.2.1) (deal_rep (W := w) (S := nT) ho2.2.2.1)) (by kernel_rfl)) ?_
    refine s_run (w_none rfl) rfl (d_pickT rfl rfl rfl) ?_
    refine s_run (w_none rfl) rfl (mv_bx (c := true) rfl rfl (by first | rfl | (rw [h1.2.2.1]; done) | (rw [h1.2.2]; done) | simp_all)) ?_
    refine s_run (w_g rfl rfl rfl rfl) rfl (d_fa rfl rfl tf33_3) ?_
    refine s_run (w_g rfl rfl rfl rfl) rfl (d_ldXM (g := gm) (off := 43) rfl H (sub_r_secret ho) (by rw [List.length_map]; exact ho.2.2.2.1) rfl rfl rfl ta25 ts25) ?_
    refine s_run (w_g rfl rfl rfl rfl) rfl (d_fa rfl rfl tf33_3) ?_
    refine s_run (w_g rfl rfl rfl rfl) rfl (d_ldXM (g := gu) (off := 43) rfl H (sub_r_secret ho2) (by rw [List.length_map]; exact ho2.2.2.2.1) rfl rfl rfl ta25 ts25) ?_
    refine s_run (w_g rfl rfl rfl rfl) rfl (d_eqarr rfl rfl rfl tu25 tu5 ts5 ho.2.2.2.1 ho2.2.2.2.1 (by kernel_rfl)) ?_
    refine s_run (w_none rfl) rfl (d_pickT rfl rfl rfl) ?_
    refine s_run (w_none rfl) rfl (mv_bx (c := true) rfl rfl (by first | rfl | (rw [h1.2.2.2.1]; done) | (rw [h1.2.2.2]; done) | simp_all)) ?_
    refine s_run (w_g rfl rfl rfl rfl) rfl (d_fa rfl rfl tf33_4) ?_
    refine s_run (w_g rfl rfl rfl rfl) rfl (d_ldX (g := gm) (off := 75) rfl H (sub_r_move ho) rfl rfl ta3) ?_
    refine s_run (w_g rfl rfl rfl rfl) rfl (d_fa rfl rfl tf33_4) ?_
    refine s_run (w_g rfl rfl rfl rfl) rfl (d_ldX (g := gu) (off := 75) rfl H (sub_r_move ho2) rfl rfl ta3) ?_
    refine s_run (w_g rfl rfl rfl rfl) rfl (d_eq rfl rfl rfl) ?_
    refine s_run (w_none rfl) rfl (d_pickT rfl rfl rfl) ?_
    refine s_run (w_none rfl) rfl (mv_bx (c := true) rfl rfl (by first | rfl | (simp; omega) | simp_all)) ?_
    refine s_run (w_g rfl rfl rfl rfl) rfl (d_fa rfl rfl tf33_5) ?_
    refine s_run (w_g rfl rfl rfl rfl) rfl (d_ldX (g := gm) (off := 76) rfl H (sub_r_state ho) rfl rfl ta3) ?_
    refine s_run (w_g rfl rfl rfl rfl) rfl (d_fa rfl rfl tf33_5) ?_
    refine s_run (w_g rfl rfl rfl rfl) rfl (d_ldX (g := gu) (off := 76) rfl H (sub_r_state ho2) rfl rfl ta3) ?_
    refine s_run (w_g rfl rfl rfl rfl) rfl (d_eq rfl rfl rfl) ?_
    refine s_run (w_none rfl) rfl (d_pickT rfl rfl rfl) ?_
    refine s_run (w_none rfl) rfl (mv_bx (c := true) rfl rfl (by first | rfl | (simp; omega) | simp_all)) ?_
    refine s_run (w_g rfl rfl rfl rfl) rfl (d_fa rfl rfl tf33_6) ?_
    refine s_run (w_g rfl rfl rfl rfl) rfl (d_ldXM (g := gm) (off := 77) rfl H (sub_r_tx ho rfl) rfl rfl rfl rfl ta31 ts31) ?_
    refine s_run (w_g rfl rfl rfl rfl) rfl (d_fa rfl rfl tf33_6) ?_
    refine s_run (w_g rfl rfl rfl rfl) rfl (d_ldXM (g := gu) (off := 77) rfl H (sub_r_tx ho2 rfl) rfl rfl rfl rfl ta31 ts31) ?_
    refine s_eff (e_call (w_g rfl rfl rfl rfl) rfl rfl Tryz.func39 rfl rfl rfl (sameTx _ (keeps_Tx _ _ _ _ _ ht (fun g hg _ => H.fr.block g hg (fun h => h))) (keeps_Tx _ _ _ _ _ hu (fun g hg _ => H.fr.block g hg (fun h => h)))) ?_)
    rintro _ W ⟨rfl, hb⟩
    replace H := H.below hb
    clear hb
    refine s_run (w_none rfl) rfl (d_pickT rfl rfl rfl) ?_
    refine s_run (w_none rfl) rfl (as_b rfl rfl) ?_
    refine l_nil ?_
    refine k_ret ?_
    repeat (first | refine r_then ?_ | refine r_blk ?_)
    exact q_ret (v := .bool _) rfl rfl ⟨_, rfl, vb (rec_eq h1), H.under⟩
end Go.Proofs.YtfjhmecmhchbdaaGreatDoor
