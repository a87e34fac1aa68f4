/- The statement BlockMade: for every input the call returns true and its arguments read as before; the listed package variables hold what the program's text lays. -/
import Derived.Test.YtobcihaameofhaaDoorMG
import Derived.Test.YtobcihaameofhaaDoorMFG
import Derived.Test.YtobcihaameofhaaDoorMFC
namespace Go.Proofs.YtobcihaameofhaaDoor
open Go Go.RowKit Go.WideShapes Go.ChangeShapes Go.ChangeAt

set_option maxRecDepth 100000 in
theorem blockMade_contract (H : Type) (enc : TypeId × Value → H) (W : World) (base : Nat) (args : Array Value) (ds gs : List (DataW H)) (before : List MemPlace)
    (hval : ∀ (j : Nat) t v, Tryd.f5.params[j]? = some t → args[j]? = some v → Value.okWide Tryd.prog W .any base t v)
    (hW : DataW.Whole enc Tryd.prog Tryd.f5.params.toList Rows.blockMadeSpec.vars false W args.toList ds gs before) (hL : laidMetH Tryd.prog Rows.blockMadeRow.laid W)
    (hZ : (DataW.weightsEach Tryd.prog (Tryd.f5.params.toList ++ (OpenSpec.ofChange Rows.blockMadeSpec).bare.plain.varTypes Tryd.prog) (ds ++ gs)).all (· ≤ reachBytes) = true) :
    Calls Tryd.prog 5 args W fun e W' => ∃ v, e = .returned v ∧ Rows.blockMadeSpec.post enc Tryd.prog Tryd.f5 false true false false W args v W' := by
  have hW' := hW
  obtain ⟨p, q, hA0, hV, rfl, hfz, hnd⟩ := hW
  have hA : DataW.TrodAll enc Tryd.prog W 0 (fun _ => true) true Tryd.f5.params.toList args.toList ds p := hA0
  rw [Tryd.params5] at hA hval
  obtain ⟨v0, vs0, d0, ds0, p0, q0, hargs, rfl, rfl, h0, r0⟩ := trodAll_cons hA
  obtain ⟨v1, vs1, d1, ds1, p1, q1, rfl, rfl, rfl, h1, r1⟩ := trodAll_cons r0
  obtain ⟨v2, vs2, d2, ds2, p2, q2, rfl, rfl, rfl, h2, r2⟩ := trodAll_cons r1
  obtain ⟨v3, vs3, d3, ds3, p3, q3, rfl, rfl, rfl, h3, r3⟩ := trodAll_cons r2
  obtain ⟨rfl, rfl, rfl⟩ := trodAll_nil r3
  obtain rfl : args = #[v0, v1, v2, v3] := by cases args; simp_all
  obtain ⟨rfl, rfl⟩ := trodVars_none hV
  obtain ⟨c0, rfl⟩ := okWide_array Tryd.underlying23 (hval 0 _ v0 rfl rfl)
  obtain ⟨c0, rfl⟩ := arr_list c0
  obtain ⟨x0, R0⟩ := arg_of (opens_A tu23 tu5 ce5 ce23) h0
  obtain ⟨n1, rfl⟩ := okWide_int Tryd.underlying3 (hval 1 _ v1 rfl rfl)
  obtain ⟨x1, R1⟩ := arg_of (opens_I tu3) h1
  obtain ⟨_, _, _, rfl⟩ := okWide_slice Tryd.underlying26 (hval 2 _ v2 rfl rfl)
  obtain ⟨x2, R2⟩ := arg_of (opens_L tu26 ce44 (by decide) opens_Tx) h2
  obtain ⟨n3, rfl⟩ := okWide_int Tryd.underlying3 (hval 3 _ v3 rfl rfl)
  obtain ⟨x3, R3⟩ := arg_of (opens_I tu3) h3
  refine Calls.mono (blockMade_any W (gl_three hL) (sized_arg (j := 2) sizes_Txs h2 R2 hZ rfl rfl) R0 R1 R2 R3) fun e W' ⟨he, hg⟩ => ?_
  subst he
  exact ⟨_, rfl, post_stay (by kernel_rfl) hW' rfl rfl Tryd.underlying4 rfl hg⟩

theorem blockMade_laid (os : Os) : laidMet Tryd.prog Rows.blockMadeRow.laid ((laidWorld5 os).forCall (fun _ _ => 0) ⟨#[], #[.agg (List.replicate 32 (Value.int .u8 0)).toArray, .int .i64 0, .slice none 0 0, .int .i64 0], []⟩).memory :=
  laidMet_of_run' 8 (by kernel_rfl) (by kernel_rfl)
theorem blockMade_reads (os : Os) {H : Type} (enc : TypeId × Value → H) : ∃ places, DataW.whole enc Tryd.prog ((laidWorld5 os).forCall (fun _ _ => 0) ⟨#[], #[.agg (List.replicate 32 (Value.int .u8 0)).toArray, .int .i64 0, .slice none 0 0, .int .i64 0], []⟩).memory Tryd.f5.params.toList Rows.blockMadeSpec.vars false (#[Value.agg (List.replicate 32 (Value.int .u8 0)).toArray, Value.int .i64 0, Value.slice none 0 0, Value.int .i64 0] : Array Value).toList 8 = some ([.agg (List.replicate 32 (.lit (.int .u8 0))), .lit (.int .i64 0), .nil, .lit (.int .i64 0)], [], places) :=
  ⟨[], by kernel_rfl⟩

set_option maxRecDepth 100000 in
theorem blockMade_lifted (os : Os) (started : os.Started) (H : Type) (enc : TypeId × Value → H) (F : Stop.Interp) :
    ReturnsInHanded {} Tryd.checked os 5 .any ((OpenSpec.ofChange Rows.blockMadeSpec).preRow enc Tryd.prog Tryd.f5 Rows.blockMadeRow.domain false Rows.blockMadeRow.laid) (((OpenSpec.ofChange Rows.blockMadeSpec).at F).post enc Tryd.prog Tryd.f5 false true false false) := by
  obtain ⟨places, hx⟩ := blockMade_reads os enc
  refine returnsInHanded_of_row (C := Tryd.checked) (s := OpenSpec.ofChange Rows.blockMadeSpec) own started (by kernel_rfl) Tryd.func5
    (witness_row_at (enc := enc) (C := Tryd.checked) false (laidWorld5 os) #[.agg (List.replicate 32 (Value.int .u8 0)).toArray, .int .i64 0, .slice none 0 0, .int .i64 0] rfl (by kernel_rfl) (by kernel_rfl) (by kernel_rfl)
      (OpenSpec.preRow_of_cond 8 hx (by kernel_rfl) (fun k hk => by cases hk) (by kernel_rfl) (blockMade_laid os))) ?_
  intro W base args ds gs before hval hW _ _ hZ hL _ _
  exact blockMade_contract H enc W base args ds gs before hval hW hL hZ

theorem blockMade_said : Rows.BlockMadeSaid :=
  OpenClaim.holds_of_cond 5 Tryd.f5 rfl rfl rfl rfl rfl rfl rfl ⟨rfl, rfl, rfl, rfl, rfl⟩ rfl rfl rfl rfl rfl (by kernel_rfl) Tryd.func5 (by kernel_rfl)
    (of_decide_eq_true (by kernel_rfl)) (by unfold Func.isWrapper; first | (rw [if_pos (by decide +kernel)]; kernel_rfl) | (rw [if_neg (by decide +kernel)]; exact ⟨rfl, rfl⟩))
    (fun os started H enc _ F => by rw [OpenClaim.pre_eq_preRow]; exact blockMade_lifted os started H enc F)

theorem blockMade_plain (f : FuncId) (fn : Func) (hf : Tryd.pinned.checked.prog.funcNamed "mangrove/mangrovelaw09.BlockMade" = some f) (hfn : Tryd.pinned.checked.prog.funcs[f]? = some fn) :
    true = Tryd.pinned.checked.prog.looks [] ∧ ∀ (j : Nat) t, fn.params[j]? = some t → Tryd.pinned.checked.prog.wantsStandIn t = false := by
  obtain rfl : f = 5 := Option.some.inj ((show Tryd.prog.funcNamed "mangrove/mangrovelaw09.BlockMade" = some 5 by kernel_rfl).symm.trans hf) |>.symm
  obtain rfl : fn = Tryd.f5 := (Option.some.inj (Tryd.func5.symm.trans hfn)).symm
  refine ⟨by kernel_rfl, fun j t ht => ?_⟩
  have hall : Tryd.f5.params.all (fun t => !Tryd.prog.wantsStandIn t) = true := by kernel_rfl
  have := Array.all_eq_true_iff_forall_mem.1 hall t (Array.mem_of_getElem? ht)
  exact (show Tryd.prog.wantsStandIn t = false by simpa using this)

theorem blockMade_card : Rows.BlockMadeCardSaid :=
  Claim7.holds_tied_plain_at .later [] _ _ _ _ blockMade_said (fun _ h => by cases h) (by kernel_rfl) (fun _ h => by cases h) blockMade_row_tie rfl ⟨rfl, rfl⟩ (by kernel_rfl) rfl blockMade_plain (by kernel_rfl)
end Go.Proofs.YtobcihaameofhaaDoor
