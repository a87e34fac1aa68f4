/- The statement BlockPuts: for every input the call returns true and its arguments read as before; the listed package variables hold what the program's text lays. -/
import Derived.Test.YtfhhfhdnhadooaaGreatDoorMG
import Derived.Test.YtfhhfhdnhadooaaGreatDoorMFJ
import Derived.Test.YtfhhfhdnhadooaaGreatDoorMFC
namespace Go.Proofs.YtfhhfhdnhadooaaGreatDoor
open Go Go.RowKit Go.WideShapes Go.ChangeShapes Go.ChangeAt

set_option maxRecDepth 100000 in
theorem blockPuts_contract (H : Type) (enc : TypeId × Value → H) (W : World) (base : Nat) (args : Array Value) (ds gs : List (DataW H)) (before : List MemPlace)
    (hval : ∀ (j : Nat) t v, Tryz.f4.params[j]? = some t → args[j]? = some v → Value.okWide Tryz.prog W .any base t v)
    (hW : DataW.Whole enc Tryz.prog Tryz.f4.params.toList Rows.blockPutsSpec.vars false W args.toList ds gs before) (hL : laidMetH Tryz.prog Rows.blockPutsRow.laid W)
    (hZ : (DataW.weightsEach Tryz.prog (Tryz.f4.params.toList ++ (OpenSpec.ofChange Rows.blockPutsSpec).bare.plain.varTypes Tryz.prog) (ds ++ gs)).all (· ≤ reachBytes) = true) :
    Calls Tryz.prog 4 args W fun e W' => ∃ v, e = .returned v ∧ Rows.blockPutsSpec.post enc Tryz.prog Tryz.f4 false true false false W args v W' := by
  have hW' := hW
  obtain ⟨p, q, hA0, hV, rfl, hfz, hnd⟩ := hW
  have hA : DataW.TrodAll enc Tryz.prog W 0 (fun _ => true) true Tryz.f4.params.toList args.toList ds p := hA0
  rw [Tryz.params4] at hA hval
  obtain ⟨v0, vs0, d0, ds0, p0, q0, hargs, rfl, rfl, h0, r0⟩ := trodAll_cons hA
  obtain ⟨rfl, rfl, rfl⟩ := trodAll_nil r0
  obtain rfl : args = #[v0] := by cases args; simp_all
  obtain ⟨rfl, rfl⟩ := trodVars_none hV
  obtain ⟨c0, rfl, _⟩ := okWide_struct Tryz.underlying28 (hval 0 _ v0 rfl rfl)
  obtain ⟨c0, rfl⟩ := arr_list c0
  obtain ⟨x0, R0⟩ := arg_of opens_Block h0
  refine Calls.mono (blockPuts_any W (gl_three hL) (sized_arg (j := 0) sizes_Block h0 R0 hZ rfl rfl) R0) fun e W' ⟨he, hg⟩ => ?_
  subst he
  exact ⟨_, rfl, post_stay (by kernel_rfl) hW' rfl rfl Tryz.underlying4 rfl hg⟩

theorem blockPuts_laid (os : Os) : laidMet Tryz.prog Rows.blockPutsRow.laid ((laidWorld5 os).forCall (fun _ _ => 0) ⟨#[], #[.agg (List.replicate 64 (Value.int .u8 0) ++ List.replicate 1 (Value.int .i64 0) ++ List.replicate 1 (Value.slice none 0 0)).toArray], []⟩).memory :=
  laidMet_of_run' 8 (by kernel_rfl) (by kernel_rfl)
theorem blockPuts_reads (os : Os) {H : Type} (enc : TypeId × Value → H) : ∃ places, DataW.whole enc Tryz.prog ((laidWorld5 os).forCall (fun _ _ => 0) ⟨#[], #[.agg (List.replicate 64 (Value.int .u8 0) ++ List.replicate 1 (Value.int .i64 0) ++ List.replicate 1 (Value.slice none 0 0)).toArray], []⟩).memory Tryz.f4.params.toList Rows.blockPutsSpec.vars false (#[Value.agg (List.replicate 64 (Value.int .u8 0) ++ List.replicate 1 (Value.int .i64 0) ++ List.replicate 1 (Value.slice none 0 0)).toArray] : Array Value).toList 8 = some ([.agg [.agg [.agg (List.replicate 32 (.lit (.int .u8 0))), .agg (List.replicate 32 (.lit (.int .u8 0))), .lit (.int .i64 0)], .nil]], [], places) :=
  ⟨[], by kernel_rfl⟩

set_option maxRecDepth 100000 in
theorem blockPuts_lifted (os : Os) (started : os.Started) (H : Type) (enc : TypeId × Value → H) (F : Stop.Interp) :
    ReturnsInHanded {} Tryz.checked os 4 .any ((OpenSpec.ofChange Rows.blockPutsSpec).preRow enc Tryz.prog Tryz.f4 Rows.blockPutsRow.domain false Rows.blockPutsRow.laid) (((OpenSpec.ofChange Rows.blockPutsSpec).at F).post enc Tryz.prog Tryz.f4 false true false false) := by
  obtain ⟨places, hx⟩ := blockPuts_reads os enc
  refine returnsInHanded_of_row (C := Tryz.checked) (s := OpenSpec.ofChange Rows.blockPutsSpec) own started (by kernel_rfl) Tryz.func4
    (witness_row_at (enc := enc) (C := Tryz.checked) false (laidWorld5 os) #[.agg (List.replicate 64 (Value.int .u8 0) ++ List.replicate 1 (Value.int .i64 0) ++ List.replicate 1 (Value.slice none 0 0)).toArray] rfl (by kernel_rfl) (by kernel_rfl) (by kernel_rfl)
      (OpenSpec.preRow_of_cond 8 hx (by kernel_rfl) (fun k hk => by cases hk) (by kernel_rfl) (blockPuts_laid os))) ?_
  intro W base args ds gs before hval hW _ _ hZ hL _ _
  exact blockPuts_contract H enc W base args ds gs before hval hW hL hZ

theorem blockPuts_said : Rows.BlockPutsSaid :=
  OpenClaim.holds_of_cond 4 Tryz.f4 rfl rfl rfl rfl rfl rfl rfl ⟨rfl, rfl, rfl, rfl, rfl⟩ rfl rfl rfl rfl rfl (by kernel_rfl) Tryz.func4 (by kernel_rfl)
    (of_decide_eq_true (by kernel_rfl)) (by unfold Func.isWrapper; first | (rw [if_pos (by decide +kernel)]; kernel_rfl) | (rw [if_neg (by decide +kernel)]; exact ⟨rfl, rfl⟩))
    (fun os started H enc _ F => by rw [OpenClaim.pre_eq_preRow]; exact blockPuts_lifted os started H enc F)

theorem blockPuts_plain (f : FuncId) (fn : Func) (hf : Tryz.pinned.checked.prog.funcNamed "mangrove/mangrovelaw09.BlockPuts" = some f) (hfn : Tryz.pinned.checked.prog.funcs[f]? = some fn) :
    true = Tryz.pinned.checked.prog.looks [] ∧ ∀ (j : Nat) t, fn.params[j]? = some t → Tryz.pinned.checked.prog.wantsStandIn t = false := by
  obtain rfl : f = 4 := Option.some.inj ((show Tryz.prog.funcNamed "mangrove/mangrovelaw09.BlockPuts" = some 4 by kernel_rfl).symm.trans hf) |>.symm
  obtain rfl : fn = Tryz.f4 := (Option.some.inj (Tryz.func4.symm.trans hfn)).symm
  refine ⟨by kernel_rfl, fun j t ht => ?_⟩
  have hall : Tryz.f4.params.all (fun t => !Tryz.prog.wantsStandIn t) = true := by kernel_rfl
  have := Array.all_eq_true_iff_forall_mem.1 hall t (Array.mem_of_getElem? ht)
  exact (show Tryz.prog.wantsStandIn t = false by simpa using this)

theorem blockPuts_card : Rows.BlockPutsCardSaid :=
  Claim7.holds_tied_plain_at .later [] _ _ _ _ blockPuts_said (fun _ h => by cases h) (by kernel_rfl) (fun _ h => by cases h) blockPuts_row_tie rfl ⟨rfl, rfl⟩ (by kernel_rfl) rfl blockPuts_plain (by kernel_rfl)
end Go.Proofs.YtfhhfhdnhadooaaGreatDoor
