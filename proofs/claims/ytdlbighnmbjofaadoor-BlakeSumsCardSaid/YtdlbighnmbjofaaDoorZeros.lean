/- append(s, make([]byte, k)...) onto a row of bytes of the call's own. -/
import Derived.Test.YtdlbighnmbjofaaDoorKit
import Derived.Lib.AppendZerosOnto
import Derived.Laws.CopyRow
namespace Go.Proofs.YtdlbighnmbjofaaDoor
open Go Go.RowKit

theorem zeroCells_u8 (k : Nat) : Builtin.zeroCells (Value.int .u8 0).cells k = ((List.replicate k (0 : UInt8)).map u8v).toArray := by
  apply Array.ext
  · simp [Builtin.zeroCells, Value.cells]
  · intro i h1 h2
    simp [Builtin.zeroCells, Value.cells, Nat.mod_one]

theorem run_zeros (w : World) (base : Nat) (kq : IntKind) (ty : TypeId) (v : Value) (l : List UInt8) (hown : OwnB w base v l) (k : Nat) (h0 : 0 < k) (hn : 0 < l.length)
    (hlen : l.length + k ≤ 1099511627776) (hbase : base ≤ w.heap.size) :
    ∃ v' w', (Builtin.append_ #[22, 3] ty #[v, .int kq k]).run Tryd.prog w = .ok v' w' ∧ OwnB w' base v' (l ++ List.replicate k 0) ∧ w.grownBy w' v.ownBlock ∧ (v'.ownBlock = v.ownBlock ∨ v'.ownBlock = some w.heap.size) := by
  obtain ⟨i, hi, hz, hs1, hb1⟩ := info_parts info_u8
  have hw : IntKind.i64.wrap (k : Int) = k := by rw [IntKind.wrap_i64]; omega
  have hneg : ¬ ((k : Int) < 0) := by omega
  rcases hown.2 with ⟨_, h1⟩ | ⟨g, cap, cur, rfl, hbg, hg, hnc, hcm, hcs, htake⟩
  · omega
  have hlenl : (l ++ List.replicate k 0).length = l.length + k := by simp
  by_cases hroom : l.length + k ≤ cap
  · have hst := run_storeCells_at (P := Tryd.prog) g l.length 5 ((List.replicate k (0 : UInt8)).map u8v) 0 cur w hg (by simp; omega) (one_u8 _)
    have hadd : (⟨g, 0, none⟩ : Addr).add l.length = ⟨g, l.length, none⟩ := by unfold Addr.add; split <;> simp_all
    refine ⟨.slice (some ⟨g, 0, none⟩) (l.length + k) cap, w.setRow g (cur.toList.take l.length ++ (List.replicate k (0 : UInt8)).map u8v ++ cur.toList.drop (l.length + k)).toArray, ?_, ?_, ?_, .inl rfl⟩
    · have hk0 : k ≠ 0 := by omega
      have h48 : ¬ (281474976710656 < (k : Int)) := by omega
      have hst' : Sem.run Tryd.prog (storeCells ⟨g, l.length, none⟩ ((List.replicate k (0 : UInt8)).map u8v)) w = .ok () (w.setRow g (cur.toList.take l.length ++ (List.replicate k (0 : UInt8)).map u8v ++ cur.toList.drop (l.length + k)).toArray) := by simpa using hst
      have hst2 := hst'
      simp only [List.map_replicate] at hst2
      simp [Builtin.append_, run_underlying Tryd.underlying22, run_underlying Tryd.underlying3, sizeOf, typeInfo, zeroValue, hi, hz, hs1, hb1, asInt, asIntOf, hw, hneg, hk0, h48, hroom, zeroCells_u8, hadd, hst2]
    · refine ⟨by simp, .inr ⟨g, cap, _, by rw [hlenl], hbg, setRow_heap w g cur _ _ _ hg, by omega, hcm, ?_, ?_⟩⟩
      · simp; omega
      · rw [Nat.mul_one] at htake
        rw [htake, hlenl, Nat.mul_one, List.take_append_of_le_length (by simp), ← List.map_append]
        exact List.take_of_length_le (by simp)
    · exact ⟨rfl, rfl, rfl, by simp, fun j _ hj => setRow_other w g j _ (fun e => hj (by simp [Value.ownBlock, e]))⟩
  · have holds : ∀ j u, (l.map u8v)[j]? = some u → w.cell? ((⟨g, 0, none⟩ : Addr).add j) = some u := World.ownsRow.cells hown (g := g) rfl
    have hr := Lib.run_append_grow_zeros (P := Tryd.prog) w 22 3 ty 5 i (.int .u8 0) kq .i64 Tryd.underlying22 Tryd.underlying3 hi hz (some ⟨g, 0, none⟩) l.length cap (l.map u8v)
      (by have := run_firstCells_some (P := Tryd.prog) (w := w.drew) i.size l.length ⟨g, 0, none⟩ l.length cap (l.map u8v) (by rw [hs1]; simp) holds; exact this) k h0 (by omega) (by omega) (by omega) (by rw [hb1]; omega)
      (by rw [hb1]; exact growslice_fits (by omega) (by omega))
    have hge := grownCap_ge w (l.length + k) cap 5
    have hcm' := grownCap_le_maxLen w (l.length + k) cap 5 (by simp only [maxLen]; omega)
    refine ⟨_, _, hr, ?_, ⟨rfl, rfl, rfl, by simp, fun j hj _ => heap_alloc_old w.drew _ hj⟩, .inr rfl⟩
    refine ⟨by simp, .inr ⟨w.heap.size, _, _, by rw [hlenl], hbase, heap_alloc_new w.drew _, by omega, hcm', ?_, ?_⟩⟩
    · rw [zeroCells_u8, zeroCells_u8]; simp; omega
    · have e : ((l.map u8v).toArray ++ ((List.replicate k (0 : UInt8)).map u8v).toArray ++ ((List.replicate (grownCap w (l.length + k) cap 5 - (l.length + k)) (0 : UInt8)).map u8v).toArray).toList = (l ++ List.replicate k 0).map u8v ++ (List.replicate (grownCap w (l.length + k) cap 5 - (l.length + k)) (0 : UInt8)).map u8v := by simp
      have e2 : (l ++ List.replicate k 0).length * 1 = ((l ++ List.replicate k 0).map u8v).length := by simp
      rw [zeroCells_u8, zeroCells_u8, e, e2]
      exact List.take_left

theorem app_zeros {w : World} {ops : Array Oper} {rest : List Oper} {o : Oper} {a : Act} {Q : Exit → Act → World → Prop} (hgd : o.guard = none) (s x : Operand)
    (ho : o.op = .call { callee := .builtin .append, args := #[s, x], argTypes := #[22, 3] })
    (base : Nat) (v : Value) (l : List UInt8) (hs : a.eval s = v) (hown : OwnB w base v l) (kq : IntKind) (z : Int) (k : Nat) (hz : z = k) (hx : a.eval x = .int kq z) (h0 : 0 < k) (hn : 0 < l.length)
    (hlen : l.length + k ≤ 1099511627776) (hbase : base ≤ w.heap.size)
    (h : ∀ v' w', OwnB w' base v' (l ++ List.replicate k 0) → w.grownBy w' v.ownBlock → (v'.ownBlock = v.ownBlock ∨ v'.ownBlock = some w.heap.size) → wpList Tryd.prog ops Q rest (a.put o.dst v') w') :
    wpList Tryd.prog ops Q (o :: rest) a w := by
  subst hz
  refine wpList_plain hgd fun K hK => ?_
  obtain ⟨v', w', hr, h2, h3, h4⟩ := run_zeros w base kq o.type v l hown k h0 hn hlen hbase
  unfold Oper.wp execOp
  simp only [ho, resolve, invoke, builtin, Sem.run_bind, Sem.run_pure, Result.andThen_ok, List.map_toArray, List.map_cons, List.map_nil, hs, hx, hr]
  exact hK _ _ (h v' w' h2 h3 h4)
end Go.Proofs.YtdlbighnmbjofaaDoor
