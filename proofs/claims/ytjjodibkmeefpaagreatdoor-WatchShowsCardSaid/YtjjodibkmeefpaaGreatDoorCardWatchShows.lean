/- The statement WatchShows: for every input the call returns true and its arguments read as before; the listed package variables hold what the program's text lays. -/
import Derived.Test.YtjjodibkmeefpaaGreatDoorMG
import Derived.Test.YtjjodibkmeefpaaGreatDoorMFO
import Derived.Test.YtjjodibkmeefpaaGreatDoorMFC
namespace Go.Proofs.YtjjodibkmeefpaaGreatDoor
open Go Go.RowKit Go.WideShapes Go.ChangeShapes Go.ChangeAt

set_option maxRecDepth 100000 in
theorem watchShows_contract (H : Type) (enc : TypeId × Value → H) (W : World) (base : Nat) (args : Array Value) (ds gs : List (DataW H)) (before : List MemPlace)
    (hval : ∀ (j : Nat) t v, Tryz.f3.params[j]? = some t → args[j]? = some v → Value.okWide Tryz.prog W .any base t v)
    (hW : DataW.Whole enc Tryz.prog Tryz.f3.params.toList Rows.watchShowsSpec.vars false W args.toList ds gs before) (hL : laidMetH Tryz.prog Rows.watchShowsRow.laid W)
    (hZ : (DataW.weightsEach Tryz.prog (Tryz.f3.params.toList ++ (OpenSpec.ofChange Rows.watchShowsSpec).bare.plain.varTypes Tryz.prog) (ds ++ gs)).all (· ≤ reachBytes) = true) :
    Calls Tryz.prog 3 args W fun e W' => ∃ v, e = .returned v ∧ Rows.watchShowsSpec.post enc Tryz.prog Tryz.f3 false true false false W args v W' := by
  have hW' := hW
  obtain ⟨p, q, hA0, hV, rfl, hfz, hnd⟩ := hW
  have hA : DataW.TrodAll enc Tryz.prog W 0 (fun _ => true) true Tryz.f3.params.toList args.toList ds p := hA0
  rw [Tryz.params3] at hA hval
  obtain ⟨v0, vs0, d0, ds0, p0, q0, hargs, rfl, rfl, h0, r0⟩ := trodAll_cons hA
  obtain ⟨v1, vs1, d1, ds1, p1, q1, rfl, rfl, rfl, h1, r1⟩ := trodAll_cons r0
  obtain ⟨rfl, rfl, rfl⟩ := trodAll_nil r1
  obtain rfl : args = #[v0, v1] := by cases args; simp_all
  obtain ⟨rfl, rfl⟩ := trodVars_none hV
  obtain ⟨_, _, _, rfl⟩ := okWide_slice Tryz.underlying22 (hval 0 _ v0 rfl rfl)
  obtain ⟨x0, R0⟩ := arg_of (opens_L tu22 ce76 (by decide) opens_Block) h0
  obtain ⟨c1, rfl, _⟩ := okWide_struct Tryz.underlying29 (hval 1 _ v1 rfl rfl)
  obtain ⟨c1, rfl⟩ := arr_list c1
  obtain ⟨x1, R1⟩ := arg_of opens_Question h1
  refine Calls.mono (watchShows_any W (gl_three hL) (sized_arg (j := 0) sizes_Path h0 R0 hZ rfl rfl) R0 R1) fun e W' ⟨he, hg⟩ => ?_
  subst he
  exact ⟨_, rfl, post_stay (by kernel_rfl) hW' rfl rfl Tryz.underlying4 rfl hg⟩

theorem watchShows_laid (os : Os) : laidMet Tryz.prog Rows.watchShowsRow.laid ((laidWorld5 os).forCall (fun _ _ => 0) ⟨#[], #[.slice none 0 0, .agg (List.replicate 1 (Value.slice none 0 0) ++ List.replicate 32 (Value.int .u8 0) ++ List.replicate 1 (Value.int .i64 0) ++ List.replicate 64 (Value.int .u8 0)).toArray], []⟩).memory :=
  laidMet_of_run' 8 (by kernel_rfl) (by kernel_rfl)
theorem watchShows_reads (os : Os) {H : Type} (enc : TypeId × Value → H) : ∃ places, DataW.whole enc Tryz.prog ((laidWorld5 os).forCall (fun _ _ => 0) ⟨#[], #[.slice none 0 0, .agg (List.replicate 1 (Value.slice none 0 0) ++ List.replicate 32 (Value.int .u8 0) ++ List.replicate 1 (Value.int .i64 0) ++ List.replicate 64 (Value.int .u8 0)).toArray], []⟩).memory Tryz.f3.params.toList Rows.watchShowsSpec.vars false (#[Value.slice none 0 0, Value.agg (List.replicate 1 (Value.slice none 0 0) ++ List.replicate 32 (Value.int .u8 0) ++ List.replicate 1 (Value.int .i64 0) ++ List.replicate 64 (Value.int .u8 0)).toArray] : Array Value).toList 8 = some ([.nil, .agg [.nil, .agg [.agg (List.replicate 32 (.lit (.int .u8 0))), .lit (.int .i64 0)], .agg (List.replicate 32 (.lit (.int .u8 0))), .agg (List.replicate 32 (.lit (.int .u8 0)))]], [], places) :=
  ⟨[], by kernel_rfl⟩

set_option maxRecDepth 100000 in
theorem watchShows_lifted (os : Os) (started : os.Started) (H : Type) (enc : TypeId × Value → H) (F : Stop.Interp) :
    ReturnsInHanded {} Tryz.checked os 3 .any ((OpenSpec.ofChange Rows.watchShowsSpec).preRow enc Tryz.prog Tryz.f3 Rows.watchShowsRow.domain false Rows.watchShowsRow.laid) (((OpenSpec.ofChange Rows.watchShowsSpec).at F).post enc Tryz.prog Tryz.f3 false true false false) := by
  obtain ⟨places, hx⟩ := watchShows_reads os enc
  refine returnsInHanded_of_row (C := Tryz.checked) (s := OpenSpec.ofChange Rows.watchShowsSpec) own started (by kernel_rfl) Tryz.func3
    (witness_row_at (enc := enc) (C := Tryz.checked) false (laidWorld5 os) #[.slice none 0 0, .agg (List.replicate 1 (Value.slice none 0 0) ++ List.replicate 32 (Value.int .u8 0) ++ List.replicate 1 (Value.int .i64 0) ++ List.replicate 64 (Value.int .u8 0)).toArray] rfl (by kernel_rfl) (by kernel_rfl) (by kernel_rfl)
      (OpenSpec.preRow_of_cond 8 hx (by kernel_rfl) (fun k hk => by cases hk) (by kernel_rfl) (watchShows_laid os))) ?_
  intro W base args ds gs before hval hW _ _ hZ hL _ _
  exact watchShows_contract H enc W base args ds gs before hval hW hL hZ

theorem watchShows_said : Rows.WatchShowsSaid :=
  OpenClaim.holds_of_cond 3 Tryz.f3 rfl rfl rfl rfl rfl rfl rfl ⟨rfl, rfl, rfl, rfl, rfl⟩ rfl rfl rfl rfl rfl (by kernel_rfl) Tryz.func3 (by kernel_rfl)
    (of_decide_eq_true (by kernel_rfl)) (by unfold Func.isWrapper; first | (rw [if_pos (by decide +kernel)]; kernel_rfl) | (rw [if_neg (by decide +kernel)]; exact ⟨rfl, rfl⟩))
    (fun os started H enc _ F => by rw [OpenClaim.pre_eq_preRow]; exact watchShows_lifted os started H enc F)

theorem watchShows_plain (f : FuncId) (fn : Func) (hf : Tryz.pinned.checked.prog.funcNamed "mangrove/mangrovelaw13.WatchShows" = some f) (hfn : Tryz.pinned.checked.prog.funcs[f]? = some fn) :
    false = Tryz.pinned.checked.prog.looks [] ∧ ∀ (j : Nat) t, fn.params[j]? = some t → Tryz.pinned.checked.prog.wantsStandIn t = false := by
  obtain rfl : f = 3 := Option.some.inj ((show Tryz.prog.funcNamed "mangrove/mangrovelaw13.WatchShows" = some 3 by kernel_rfl).symm.trans hf) |>.symm
  obtain rfl : fn = Tryz.f3 := (Option.some.inj (Tryz.func3.symm.trans hfn)).symm
  refine ⟨by kernel_rfl, fun j t ht => ?_⟩
  have hall : Tryz.f3.params.all (fun t => !Tryz.prog.wantsStandIn t) = true := by kernel_rfl
  have := Array.all_eq_true_iff_forall_mem.1 hall t (Array.mem_of_getElem? ht)
  exact (show Tryz.prog.wantsStandIn t = false by simpa using this)

theorem watchShows_card : Rows.WatchShowsCardSaid :=
  Claim7.holds_tied_plain_at .later [] _ _ _ _ watchShows_said (fun _ h => by cases h) (by kernel_rfl) (fun _ h => by cases h) watchShows_row_tie rfl ⟨rfl, rfl⟩ (by kernel_rfl) rfl watchShows_plain (by kernel_rfl)
end Go.Proofs.YtjjodibkmeefpaaGreatDoor
