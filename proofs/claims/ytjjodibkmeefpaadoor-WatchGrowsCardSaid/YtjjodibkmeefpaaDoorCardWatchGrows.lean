/- The statement WatchGrows: for every input the call returns true and its arguments read as before; the listed package variables hold what the program's text lays. -/
import Derived.Test.YtjjodibkmeefpaaDoorMG
import Derived.Test.YtjjodibkmeefpaaDoorMFN
import Derived.Test.YtjjodibkmeefpaaDoorMFC
namespace Go.Proofs.YtjjodibkmeefpaaDoor
open Go Go.RowKit Go.WideShapes Go.ChangeShapes Go.ChangeAt

set_option maxRecDepth 100000 in
theorem watchGrows_contract (H : Type) (enc : TypeId × Value → H) (W : World) (base : Nat) (args : Array Value) (ds gs : List (DataW H)) (before : List MemPlace)
    (hval : ∀ (j : Nat) t v, Tryd.f3.params[j]? = some t → args[j]? = some v → Value.okWide Tryd.prog W .any base t v)
    (hW : DataW.Whole enc Tryd.prog Tryd.f3.params.toList Rows.watchGrowsSpec.vars false W args.toList ds gs before) (hL : laidMetH Tryd.prog Rows.watchGrowsRow.laid W)
    (hZ : (DataW.weightsEach Tryd.prog (Tryd.f3.params.toList ++ (OpenSpec.ofChange Rows.watchGrowsSpec).bare.plain.varTypes Tryd.prog) (ds ++ gs)).all (· ≤ reachBytes) = true) :
    Calls Tryd.prog 3 args W fun e W' => ∃ v, e = .returned v ∧ Rows.watchGrowsSpec.post enc Tryd.prog Tryd.f3 false true false false W args v W' := by
  have hW' := hW
  obtain ⟨p, q, hA0, hV, rfl, hfz, hnd⟩ := hW
  have hA : DataW.TrodAll enc Tryd.prog W 0 (fun _ => true) true Tryd.f3.params.toList args.toList ds p := hA0
  rw [Tryd.params3] at hA hval
  obtain ⟨v0, vs0, d0, ds0, p0, q0, hargs, rfl, rfl, h0, r0⟩ := trodAll_cons hA
  obtain ⟨v1, vs1, d1, ds1, p1, q1, rfl, rfl, rfl, h1, r1⟩ := trodAll_cons r0
  obtain ⟨v2, vs2, d2, ds2, p2, q2, rfl, rfl, rfl, h2, r2⟩ := trodAll_cons r1
  obtain ⟨rfl, rfl, rfl⟩ := trodAll_nil r2
  obtain rfl : args = #[v0, v1, v2] := by cases args; simp_all
  obtain ⟨rfl, rfl⟩ := trodVars_none hV
  obtain ⟨_, _, _, rfl⟩ := okWide_slice Tryd.underlying22 (hval 0 _ v0 rfl rfl)
  obtain ⟨x0, R0⟩ := arg_of (opens_L tu22 ce58 (by decide) opens_Block) h0
  obtain ⟨_, _, _, rfl⟩ := okWide_slice Tryd.underlying22 (hval 1 _ v1 rfl rfl)
  obtain ⟨x1, R1⟩ := arg_of (opens_L tu22 ce58 (by decide) opens_Block) h1
  obtain ⟨c2, rfl, _⟩ := okWide_struct Tryd.underlying29 (hval 2 _ v2 rfl rfl)
  obtain ⟨c2, rfl⟩ := arr_list c2
  obtain ⟨x2, R2⟩ := arg_of opens_Question h2
  refine Calls.mono (watchGrows_any W (gl_three hL) (sized_arg (j := 0) sizes_Path h0 R0 hZ rfl rfl) (sized_arg (j := 1) sizes_Path h1 R1 hZ rfl rfl) R0 R1 R2) fun e W' ⟨he, hg⟩ => ?_
  subst he
  exact ⟨_, rfl, post_stay (by kernel_rfl) hW' rfl rfl Tryd.underlying4 rfl hg⟩

theorem watchGrows_laid (os : Os) : laidMet Tryd.prog Rows.watchGrowsRow.laid ((laidWorld5 os).forCall (fun _ _ => 0) ⟨#[], #[.slice none 0 0, .slice none 0 0, .agg (List.replicate 1 (Value.slice none 0 0) ++ List.replicate 32 (Value.int .u8 0) ++ List.replicate 1 (Value.int .i64 0) ++ List.replicate 64 (Value.int .u8 0)).toArray], []⟩).memory :=
  laidMet_of_run' 8 (by kernel_rfl) (by kernel_rfl)
theorem watchGrows_reads (os : Os) {H : Type} (enc : TypeId × Value → H) : ∃ places, DataW.whole enc Tryd.prog ((laidWorld5 os).forCall (fun _ _ => 0) ⟨#[], #[.slice none 0 0, .slice none 0 0, .agg (List.replicate 1 (Value.slice none 0 0) ++ List.replicate 32 (Value.int .u8 0) ++ List.replicate 1 (Value.int .i64 0) ++ List.replicate 64 (Value.int .u8 0)).toArray], []⟩).memory Tryd.f3.params.toList Rows.watchGrowsSpec.vars false (#[Value.slice none 0 0, Value.slice none 0 0, Value.agg (List.replicate 1 (Value.slice none 0 0) ++ List.replicate 32 (Value.int .u8 0) ++ List.replicate 1 (Value.int .i64 0) ++ List.replicate 64 (Value.int .u8 0)).toArray] : Array Value).toList 8 = some ([.nil, .nil, .agg [.nil, .agg [.agg (List.replicate 32 (.lit (.int .u8 0))), .lit (.int .i64 0)], .agg (List.replicate 32 (.lit (.int .u8 0))), .agg (List.replicate 32 (.lit (.int .u8 0)))]], [], places) :=
  ⟨[], by kernel_rfl⟩

set_option maxRecDepth 100000 in
theorem watchGrows_lifted (os : Os) (started : os.Started) (H : Type) (enc : TypeId × Value → H) (F : Stop.Interp) :
    ReturnsInHanded {} Tryd.checked os 3 .any ((OpenSpec.ofChange Rows.watchGrowsSpec).preRow enc Tryd.prog Tryd.f3 Rows.watchGrowsRow.domain false Rows.watchGrowsRow.laid) (((OpenSpec.ofChange Rows.watchGrowsSpec).at F).post enc Tryd.prog Tryd.f3 false true false false) := by
  obtain ⟨places, hx⟩ := watchGrows_reads os enc
  refine returnsInHanded_of_row (C := Tryd.checked) (s := OpenSpec.ofChange Rows.watchGrowsSpec) own started (by kernel_rfl) Tryd.func3
    (witness_row_at (enc := enc) (C := Tryd.checked) false (laidWorld5 os) #[.slice none 0 0, .slice none 0 0, .agg (List.replicate 1 (Value.slice none 0 0) ++ List.replicate 32 (Value.int .u8 0) ++ List.replicate 1 (Value.int .i64 0) ++ List.replicate 64 (Value.int .u8 0)).toArray] rfl (by kernel_rfl) (by kernel_rfl) (by kernel_rfl)
      (OpenSpec.preRow_of_cond 8 hx (by kernel_rfl) (fun k hk => by cases hk) (by kernel_rfl) (watchGrows_laid os))) ?_
  intro W base args ds gs before hval hW _ _ hZ hL _ _
  exact watchGrows_contract H enc W base args ds gs before hval hW hL hZ

theorem watchGrows_said : Rows.WatchGrowsSaid :=
  OpenClaim.holds_of_cond 3 Tryd.f3 rfl rfl rfl rfl rfl rfl rfl ⟨rfl, rfl, rfl, rfl, rfl⟩ rfl rfl rfl rfl rfl (by kernel_rfl) Tryd.func3 (by kernel_rfl)
    (of_decide_eq_true (by kernel_rfl)) (by unfold Func.isWrapper; first | (rw [if_pos (by decide +kernel)]; kernel_rfl) | (rw [if_neg (by decide +kernel)]; exact ⟨rfl, rfl⟩))
    (fun os started H enc _ F => by rw [OpenClaim.pre_eq_preRow]; exact watchGrows_lifted os started H enc F)

theorem watchGrows_plain (f : FuncId) (fn : Func) (hf : Tryd.pinned.checked.prog.funcNamed "mangrove/mangrovelaw13.WatchGrows" = some f) (hfn : Tryd.pinned.checked.prog.funcs[f]? = some fn) :
    false = Tryd.pinned.checked.prog.looks [] ∧ ∀ (j : Nat) t, fn.params[j]? = some t → Tryd.pinned.checked.prog.wantsStandIn t = false := by
  obtain rfl : f = 3 := Option.some.inj ((show Tryd.prog.funcNamed "mangrove/mangrovelaw13.WatchGrows" = some 3 by kernel_rfl).symm.trans hf) |>.symm
  obtain rfl : fn = Tryd.f3 := (Option.some.inj (Tryd.func3.symm.trans hfn)).symm
  refine ⟨by kernel_rfl, fun j t ht => ?_⟩
  have hall : Tryd.f3.params.all (fun t => !Tryd.prog.wantsStandIn t) = true := by kernel_rfl
  have := Array.all_eq_true_iff_forall_mem.1 hall t (Array.mem_of_getElem? ht)
  exact (show Tryd.prog.wantsStandIn t = false by simpa using this)

theorem watchGrows_card : Rows.WatchGrowsCardSaid :=
  Claim7.holds_tied_plain_at .later [] _ _ _ _ watchGrows_said (fun _ h => by cases h) (by kernel_rfl) (fun _ h => by cases h) watchGrows_row_tie rfl ⟨rfl, rfl⟩ (by kernel_rfl) rfl watchGrows_plain (by kernel_rfl)
end Go.Proofs.YtjjodibkmeefpaaDoor
