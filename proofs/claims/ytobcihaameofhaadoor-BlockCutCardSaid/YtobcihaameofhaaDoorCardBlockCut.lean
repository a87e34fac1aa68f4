/- The statement BlockCut: for every input the call returns true and its arguments read as before; the listed package variables hold what the program's text lays. -/
import Derived.Test.YtobcihaameofhaaDoorMG
import Derived.Test.YtobcihaameofhaaDoorMFE
import Derived.Test.YtobcihaameofhaaDoorMFC
namespace Go.Proofs.YtobcihaameofhaaDoor
open Go Go.RowKit Go.WideShapes Go.ChangeShapes Go.ChangeAt

set_option maxRecDepth 100000 in
theorem blockCut_contract (H : Type) (enc : TypeId × Value → H) (W : World) (base : Nat) (args : Array Value) (ds gs : List (DataW H)) (before : List MemPlace)
    (hval : ∀ (j : Nat) t v, Tryd.f3.params[j]? = some t → args[j]? = some v → Value.okWide Tryd.prog W .any base t v)
    (hW : DataW.Whole enc Tryd.prog Tryd.f3.params.toList Rows.blockCutSpec.vars false W args.toList ds gs before) (hL : laidMetH Tryd.prog Rows.blockCutRow.laid W)
    (hZ : (DataW.weightsEach Tryd.prog (Tryd.f3.params.toList ++ (OpenSpec.ofChange Rows.blockCutSpec).bare.plain.varTypes Tryd.prog) (ds ++ gs)).all (· ≤ reachBytes) = true) :
    Calls Tryd.prog 3 args W fun e W' => ∃ v, e = .returned v ∧ Rows.blockCutSpec.post enc Tryd.prog Tryd.f3 false true false false W args v W' := by
  have hW' := hW
  obtain ⟨p, q, hA0, hV, rfl, hfz, hnd⟩ := hW
  have hA : DataW.TrodAll enc Tryd.prog W 0 (fun _ => true) true Tryd.f3.params.toList args.toList ds p := hA0
  rw [Tryd.params3] at hA hval
  obtain ⟨v0, vs0, d0, ds0, p0, q0, hargs, rfl, rfl, h0, r0⟩ := trodAll_cons hA
  obtain ⟨v1, vs1, d1, ds1, p1, q1, rfl, rfl, rfl, h1, r1⟩ := trodAll_cons r0
  obtain ⟨v2, vs2, d2, ds2, p2, q2, rfl, rfl, rfl, h2, r2⟩ := trodAll_cons r1
  obtain ⟨rfl, rfl, rfl⟩ := trodAll_nil r2
  obtain rfl : args = #[v0, v1, v2] := by cases args; simp_all
  obtain ⟨rfl, rfl⟩ := trodVars_none hV
  obtain ⟨c0, rfl, _⟩ := okWide_struct Tryd.underlying28 (hval 0 _ v0 rfl rfl)
  obtain ⟨c0, rfl⟩ := arr_list c0
  obtain ⟨x0, R0⟩ := arg_of opens_Block h0
  obtain ⟨n1, rfl⟩ := okWide_int Tryd.underlying3 (hval 1 _ v1 rfl rfl)
  obtain ⟨x1, R1⟩ := arg_of (opens_I tu3) h1
  obtain ⟨_, _, _, rfl⟩ := okWide_slice Tryd.underlying29 (hval 2 _ v2 rfl rfl)
  obtain ⟨x2, R2⟩ := arg_of (opens_B tu29 tu5 ce5) h2
  refine Calls.mono (blockCut_any W (gl_three hL) (sized_arg (j := 0) sizes_Block h0 R0 hZ rfl rfl) R0 R1 R2) fun e W' ⟨he, hg⟩ => ?_
  subst he
  exact ⟨_, rfl, post_stay (by kernel_rfl) hW' rfl rfl Tryd.underlying4 rfl hg⟩

theorem blockCut_laid (os : Os) : laidMet Tryd.prog Rows.blockCutRow.laid ((laidWorld5 os).forCall (fun _ _ => 0) ⟨#[], #[.agg (List.replicate 64 (Value.int .u8 0) ++ List.replicate 1 (Value.int .i64 0) ++ List.replicate 1 (Value.slice none 0 0)).toArray, .int .i64 0, .slice none 0 0], []⟩).memory :=
  laidMet_of_run' 8 (by kernel_rfl) (by kernel_rfl)
theorem blockCut_reads (os : Os) {H : Type} (enc : TypeId × Value → H) : ∃ places, DataW.whole enc Tryd.prog ((laidWorld5 os).forCall (fun _ _ => 0) ⟨#[], #[.agg (List.replicate 64 (Value.int .u8 0) ++ List.replicate 1 (Value.int .i64 0) ++ List.replicate 1 (Value.slice none 0 0)).toArray, .int .i64 0, .slice none 0 0], []⟩).memory Tryd.f3.params.toList Rows.blockCutSpec.vars false (#[Value.agg (List.replicate 64 (Value.int .u8 0) ++ List.replicate 1 (Value.int .i64 0) ++ List.replicate 1 (Value.slice none 0 0)).toArray, Value.int .i64 0, Value.slice none 0 0] : Array Value).toList 8 = some ([.agg [.agg [.agg (List.replicate 32 (.lit (.int .u8 0))), .agg (List.replicate 32 (.lit (.int .u8 0))), .lit (.int .i64 0)], .nil], .lit (.int .i64 0), .nil], [], places) :=
  ⟨[], by kernel_rfl⟩

set_option maxRecDepth 100000 in
theorem blockCut_lifted (os : Os) (started : os.Started) (H : Type) (enc : TypeId × Value → H) (F : Stop.Interp) :
    ReturnsInHanded {} Tryd.checked os 3 .any ((OpenSpec.ofChange Rows.blockCutSpec).preRow enc Tryd.prog Tryd.f3 Rows.blockCutRow.domain false Rows.blockCutRow.laid) (((OpenSpec.ofChange Rows.blockCutSpec).at F).post enc Tryd.prog Tryd.f3 false true false false) := by
  obtain ⟨places, hx⟩ := blockCut_reads os enc
  refine returnsInHanded_of_row (C := Tryd.checked) (s := OpenSpec.ofChange Rows.blockCutSpec) own started (by kernel_rfl) Tryd.func3
    (witness_row_at (enc := enc) (C := Tryd.checked) false (laidWorld5 os) #[.agg (List.replicate 64 (Value.int .u8 0) ++ List.replicate 1 (Value.int .i64 0) ++ List.replicate 1 (Value.slice none 0 0)).toArray, .int .i64 0, .slice none 0 0] rfl (by kernel_rfl) (by kernel_rfl) (by kernel_rfl)
      (OpenSpec.preRow_of_cond 8 hx (by kernel_rfl) (fun k hk => by cases hk) (by kernel_rfl) (blockCut_laid os))) ?_
  intro W base args ds gs before hval hW _ _ hZ hL _ _
  exact blockCut_contract H enc W base args ds gs before hval hW hL hZ

theorem blockCut_said : Rows.BlockCutSaid :=
  OpenClaim.holds_of_cond 3 Tryd.f3 rfl rfl rfl rfl rfl rfl rfl ⟨rfl, rfl, rfl, rfl, rfl⟩ rfl rfl rfl rfl rfl (by kernel_rfl) Tryd.func3 (by kernel_rfl)
    (of_decide_eq_true (by kernel_rfl)) (by unfold Func.isWrapper; first | (rw [if_pos (by decide +kernel)]; kernel_rfl) | (rw [if_neg (by decide +kernel)]; exact ⟨rfl, rfl⟩))
    (fun os started H enc _ F => by rw [OpenClaim.pre_eq_preRow]; exact blockCut_lifted os started H enc F)

theorem blockCut_plain (f : FuncId) (fn : Func) (hf : Tryd.pinned.checked.prog.funcNamed "mangrove/mangrovelaw09.BlockCut" = some f) (hfn : Tryd.pinned.checked.prog.funcs[f]? = some fn) :
    true = Tryd.pinned.checked.prog.looks [] ∧ ∀ (j : Nat) t, fn.params[j]? = some t → Tryd.pinned.checked.prog.wantsStandIn t = false := by
  obtain rfl : f = 3 := Option.some.inj ((show Tryd.prog.funcNamed "mangrove/mangrovelaw09.BlockCut" = some 3 by kernel_rfl).symm.trans hf) |>.symm
  obtain rfl : fn = Tryd.f3 := (Option.some.inj (Tryd.func3.symm.trans hfn)).symm
  refine ⟨by kernel_rfl, fun j t ht => ?_⟩
  have hall : Tryd.f3.params.all (fun t => !Tryd.prog.wantsStandIn t) = true := by kernel_rfl
  have := Array.all_eq_true_iff_forall_mem.1 hall t (Array.mem_of_getElem? ht)
  exact (show Tryd.prog.wantsStandIn t = false by simpa using this)

theorem blockCut_card : Rows.BlockCutCardSaid :=
  Claim7.holds_tied_plain_at .later [] _ _ _ _ blockCut_said (fun _ h => by cases h) (by kernel_rfl) (fun _ h => by cases h) blockCut_row_tie rfl ⟨rfl, rfl⟩ (by kernel_rfl) rfl blockCut_plain (by kernel_rfl)
end Go.Proofs.YtobcihaameofhaaDoor
