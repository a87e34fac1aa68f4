/- Texts of this claim, laid together: Ty, K1, K2. -/
import Derived.Test.YtdalmmkjmfpffaaDoorMV
import Derived.Test.YtdalmmkjmfpffaaDoorProg
import Derived.KernelRfl
set_option linter.unusedVariables false
set_option linter.unusedSimpArgs false

namespace Go.Proofs.YtdalmmkjmfpffaaDoor
open Go Go.RowKit
theorem ts1 : (Tryd.prog.info? 1).map (·.size) = some 1 := by kernel_rfl
theorem ta1 : aggB Tryd.prog 1 = some false := by kernel_rfl
theorem ti1 : ifaceB Tryd.prog 1 = false := by kernel_rfl
theorem tz1 : ((Tryd.prog.info? 1).bind (·.zero)).map (·.cells) = some (List.toArray [.nilFunc]) := by kernel_rfl
theorem ty1 : ((Tryd.prog.info? 1).bind (·.zero)).isSome = true := by kernel_rfl
theorem tx1 : (Tryd.prog.info? 1).map (fun i => (i.zero.map (·.cells.size), i.size, i.bytes)) = some (some 1, 1, 8) := by kernel_rfl
theorem tu2 : Tryd.prog.underlying 2 = some (.int .i64) := by kernel_rfl
theorem ts2 : (Tryd.prog.info? 2).map (·.size) = some 1 := by kernel_rfl
theorem ta2 : aggB Tryd.prog 2 = some false := by kernel_rfl
theorem ti2 : ifaceB Tryd.prog 2 = false := by kernel_rfl
theorem tz2 : ((Tryd.prog.info? 2).bind (·.zero)).map (·.cells) = some (List.toArray [.int .i64 0]) := by kernel_rfl
theorem ty2 : ((Tryd.prog.info? 2).bind (·.zero)).isSome = true := by kernel_rfl
theorem tx2 : (Tryd.prog.info? 2).map (fun i => (i.zero.map (·.cells.size), i.size, i.bytes)) = some (some 1, 1, 8) := by kernel_rfl
theorem tu3 : Tryd.prog.underlying 3 = some (.int .i64) := by kernel_rfl
theorem ts3 : (Tryd.prog.info? 3).map (·.size) = some 1 := by kernel_rfl
theorem ta3 : aggB Tryd.prog 3 = some false := by kernel_rfl
theorem ti3 : ifaceB Tryd.prog 3 = false := by kernel_rfl
theorem tz3 : ((Tryd.prog.info? 3).bind (·.zero)).map (·.cells) = some (List.toArray [.int .i64 0]) := by kernel_rfl
theorem ty3 : ((Tryd.prog.info? 3).bind (·.zero)).isSome = true := by kernel_rfl
theorem tx3 : (Tryd.prog.info? 3).map (fun i => (i.zero.map (·.cells.size), i.size, i.bytes)) = some (some 1, 1, 8) := by kernel_rfl
theorem tu4 : Tryd.prog.underlying 4 = some (.bool) := by kernel_rfl
theorem ts4 : (Tryd.prog.info? 4).map (·.size) = some 1 := by kernel_rfl
theorem ta4 : aggB Tryd.prog 4 = some false := by kernel_rfl
theorem ti4 : ifaceB Tryd.prog 4 = false := by kernel_rfl
theorem tz4 : ((Tryd.prog.info? 4).bind (·.zero)).map (·.cells) = some (List.toArray [.bool false]) := by kernel_rfl
theorem ty4 : ((Tryd.prog.info? 4).bind (·.zero)).isSome = true := by kernel_rfl
theorem tx4 : (Tryd.prog.info? 4).map (fun i => (i.zero.map (·.cells.size), i.size, i.bytes)) = some (some 1, 1, 1) := by kernel_rfl
theorem tu5 : Tryd.prog.underlying 5 = some (.int .u8) := by kernel_rfl
theorem ts5 : (Tryd.prog.info? 5).map (·.size) = some 1 := by kernel_rfl
theorem ta5 : aggB Tryd.prog 5 = some false := by kernel_rfl
theorem ti5 : ifaceB Tryd.prog 5 = false := by kernel_rfl
theorem tz5 : ((Tryd.prog.info? 5).bind (·.zero)).map (·.cells) = some (List.toArray [.int .u8 0]) := by kernel_rfl
theorem ty5 : ((Tryd.prog.info? 5).bind (·.zero)).isSome = true := by kernel_rfl
theorem tx5 : (Tryd.prog.info? 5).map (fun i => (i.zero.map (·.cells.size), i.size, i.bytes)) = some (some 1, 1, 1) := by kernel_rfl
theorem tu9 : Tryd.prog.underlying 9 = some (.string) := by kernel_rfl
theorem ts9 : (Tryd.prog.info? 9).map (·.size) = some 1 := by kernel_rfl
theorem ta9 : aggB Tryd.prog 9 = some false := by kernel_rfl
theorem ti9 : ifaceB Tryd.prog 9 = false := by kernel_rfl
theorem tz9 : ((Tryd.prog.info? 9).bind (·.zero)).map (·.cells) = some (List.toArray [.string ⟨#[]⟩]) := by kernel_rfl
theorem ty9 : ((Tryd.prog.info? 9).bind (·.zero)).isSome = true := by kernel_rfl
theorem tx9 : (Tryd.prog.info? 9).map (fun i => (i.zero.map (·.cells.size), i.size, i.bytes)) = some (some 1, 1, 16) := by kernel_rfl
theorem tu12 : Tryd.prog.underlying 12 = some (.int .u64) := by kernel_rfl
theorem ts12 : (Tryd.prog.info? 12).map (·.size) = some 1 := by kernel_rfl
theorem ta12 : aggB Tryd.prog 12 = some false := by kernel_rfl
theorem ti12 : ifaceB Tryd.prog 12 = false := by kernel_rfl
theorem tz12 : ((Tryd.prog.info? 12).bind (·.zero)).map (·.cells) = some (List.toArray [.int .u64 0]) := by kernel_rfl
theorem ty12 : ((Tryd.prog.info? 12).bind (·.zero)).isSome = true := by kernel_rfl
theorem tx12 : (Tryd.prog.info? 12).map (fun i => (i.zero.map (·.cells.size), i.size, i.bytes)) = some (some 1, 1, 8) := by kernel_rfl
theorem ts20 : (Tryd.prog.info? 20).map (·.size) = some 1 := by kernel_rfl
theorem ta20 : aggB Tryd.prog 20 = some false := by kernel_rfl
theorem tu21 : Tryd.prog.underlying 21 = some (.int .i32) := by kernel_rfl
theorem ts21 : (Tryd.prog.info? 21).map (·.size) = some 1 := by kernel_rfl
theorem ta21 : aggB Tryd.prog 21 = some false := by kernel_rfl
theorem ti21 : ifaceB Tryd.prog 21 = false := by kernel_rfl
theorem tz21 : ((Tryd.prog.info? 21).bind (·.zero)).map (·.cells) = some (List.toArray [.int .i32 0]) := by kernel_rfl
theorem ty21 : ((Tryd.prog.info? 21).bind (·.zero)).isSome = true := by kernel_rfl
theorem tx21 : (Tryd.prog.info? 21).map (fun i => (i.zero.map (·.cells.size), i.size, i.bytes)) = some (some 1, 1, 4) := by kernel_rfl
theorem tu22 : Tryd.prog.underlying 22 = some (.slice 5) := by kernel_rfl
theorem ts22 : (Tryd.prog.info? 22).map (·.size) = some 1 := by kernel_rfl
theorem ta22 : aggB Tryd.prog 22 = some false := by kernel_rfl
theorem ti22 : ifaceB Tryd.prog 22 = false := by kernel_rfl
theorem tz22 : ((Tryd.prog.info? 22).bind (·.zero)).map (·.cells) = some (List.toArray [.slice none 0 0]) := by kernel_rfl
theorem ty22 : ((Tryd.prog.info? 22).bind (·.zero)).isSome = true := by kernel_rfl
theorem tx22 : (Tryd.prog.info? 22).map (fun i => (i.zero.map (·.cells.size), i.size, i.bytes)) = some (some 1, 1, 24) := by kernel_rfl
theorem tu23 : Tryd.prog.underlying 23 = some (.array 32 5) := by kernel_rfl
theorem ts23 : (Tryd.prog.info? 23).map (·.size) = some 32 := by kernel_rfl
theorem ta23 : aggB Tryd.prog 23 = some true := by kernel_rfl
theorem ti23 : ifaceB Tryd.prog 23 = false := by kernel_rfl
theorem tz23 : ((Tryd.prog.info? 23).bind (·.zero)).map (·.cells) = some (List.toArray [.int .u8 0, .int .u8 0, .int .u8 0, .int .u8 0, .int .u8 0, .int .u8 0, .int .u8 0, .int .u8 0, .int .u8 0, .int .u8 0, .int .u8 0, .int .u8 0, .int .u8 0, .int .u8 0, .int .u8 0, .int .u8 0, .int .u8 0, .int .u8 0, .int .u8 0, .int .u8 0, .int .u8 0, .int .u8 0, .int .u8 0, .int .u8 0, .int .u8 0, .int .u8 0, .int .u8 0, .int .u8 0, .int .u8 0, .int .u8 0, .int .u8 0, .int .u8 0]) := by kernel_rfl
theorem ty23 : ((Tryd.prog.info? 23).bind (·.zero)).isSome = true := by kernel_rfl
theorem tx23 : (Tryd.prog.info? 23).map (fun i => (i.zero.map (·.cells.size), i.size, i.bytes)) = some (some 32, 32, 32) := by kernel_rfl
theorem tu24 : Tryd.prog.underlying 24 = some (.array 32 5) := by kernel_rfl
theorem ts24 : (Tryd.prog.info? 24).map (·.size) = some 32 := by kernel_rfl
theorem ta24 : aggB Tryd.prog 24 = some true := by kernel_rfl
theorem ti24 : ifaceB Tryd.prog 24 = false := by kernel_rfl
theorem tz24 : ((Tryd.prog.info? 24).bind (·.zero)).map (·.cells) = some (List.toArray [.int .u8 0, .int .u8 0, .int .u8 0, .int .u8 0, .int .u8 0, .int .u8 0, .int .u8 0, .int .u8 0, .int .u8 0, .int .u8 0, .int .u8 0, .int .u8 0, .int .u8 0, .int .u8 0, .int .u8 0, .int .u8 0, .int .u8 0, .int .u8 0, .int .u8 0, .int .u8 0, .int .u8 0, .int .u8 0, .int .u8 0, .int .u8 0, .int .u8 0, .int .u8 0, .int .u8 0, .int .u8 0, .int .u8 0, .int .u8 0, .int .u8 0, .int .u8 0]) := by kernel_rfl
theorem ty24 : ((Tryd.prog.info? 24).bind (·.zero)).isSome = true := by kernel_rfl
theorem tx24 : (Tryd.prog.info? 24).map (fun i => (i.zero.map (·.cells.size), i.size, i.bytes)) = some (some 32, 32, 32) := by kernel_rfl
theorem ts25 : (Tryd.prog.info? 25).map (·.size) = some 1 := by kernel_rfl
theorem ta25 : aggB Tryd.prog 25 = some false := by kernel_rfl
theorem ti25 : ifaceB Tryd.prog 25 = false := by kernel_rfl
theorem tz25 : ((Tryd.prog.info? 25).bind (·.zero)).map (·.cells) = some (List.toArray [.nilFunc]) := by kernel_rfl
theorem ty25 : ((Tryd.prog.info? 25).bind (·.zero)).isSome = true := by kernel_rfl
theorem tx25 : (Tryd.prog.info? 25).map (fun i => (i.zero.map (·.cells.size), i.size, i.bytes)) = some (some 1, 1, 8) := by kernel_rfl
theorem tu26 : Tryd.prog.underlying 26 = some (.int .u32) := by kernel_rfl
theorem ts26 : (Tryd.prog.info? 26).map (·.size) = some 1 := by kernel_rfl
theorem ta26 : aggB Tryd.prog 26 = some false := by kernel_rfl
theorem ti26 : ifaceB Tryd.prog 26 = false := by kernel_rfl
theorem tz26 : ((Tryd.prog.info? 26).bind (·.zero)).map (·.cells) = some (List.toArray [.int .u32 0]) := by kernel_rfl
theorem ty26 : ((Tryd.prog.info? 26).bind (·.zero)).isSome = true := by kernel_rfl
theorem tx26 : (Tryd.prog.info? 26).map (fun i => (i.zero.map (·.cells.size), i.size, i.bytes)) = some (some 1, 1, 4) := by kernel_rfl
theorem tu27 : Tryd.prog.underlying 27 = some (.array 8 26) := by kernel_rfl
theorem ts27 : (Tryd.prog.info? 27).map (·.size) = some 8 := by kernel_rfl
theorem ta27 : aggB Tryd.prog 27 = some true := by kernel_rfl
theorem ti27 : ifaceB Tryd.prog 27 = false := by kernel_rfl
theorem tz27 : ((Tryd.prog.info? 27).bind (·.zero)).map (·.cells) = some (List.toArray [.int .u32 0, .int .u32 0, .int .u32 0, .int .u32 0, .int .u32 0, .int .u32 0, .int .u32 0, .int .u32 0]) := by kernel_rfl
theorem ty27 : ((Tryd.prog.info? 27).bind (·.zero)).isSome = true := by kernel_rfl
theorem tx27 : (Tryd.prog.info? 27).map (fun i => (i.zero.map (·.cells.size), i.size, i.bytes)) = some (some 8, 8, 32) := by kernel_rfl
theorem ts28 : (Tryd.prog.info? 28).map (·.size) = some 1 := by kernel_rfl
theorem ta28 : aggB Tryd.prog 28 = some false := by kernel_rfl
theorem ti28 : ifaceB Tryd.prog 28 = false := by kernel_rfl
theorem tz28 : ((Tryd.prog.info? 28).bind (·.zero)).map (·.cells) = some (List.toArray [.nilFunc]) := by kernel_rfl
theorem ty28 : ((Tryd.prog.info? 28).bind (·.zero)).isSome = true := by kernel_rfl
theorem tx28 : (Tryd.prog.info? 28).map (fun i => (i.zero.map (·.cells.size), i.size, i.bytes)) = some (some 1, 1, 8) := by kernel_rfl
theorem ts29 : (Tryd.prog.info? 29).map (·.size) = some 1 := by kernel_rfl
theorem ta29 : aggB Tryd.prog 29 = some false := by kernel_rfl
theorem ti29 : ifaceB Tryd.prog 29 = false := by kernel_rfl
theorem tz29 : ((Tryd.prog.info? 29).bind (·.zero)).map (·.cells) = some (List.toArray [.nilFunc]) := by kernel_rfl
theorem ty29 : ((Tryd.prog.info? 29).bind (·.zero)).isSome = true := by kernel_rfl
theorem tx29 : (Tryd.prog.info? 29).map (fun i => (i.zero.map (·.cells.size), i.size, i.bytes)) = some (some 1, 1, 8) := by kernel_rfl
theorem tu30 : Tryd.prog.underlying 30 = some (.slice 3) := by kernel_rfl
theorem ts30 : (Tryd.prog.info? 30).map (·.size) = some 1 := by kernel_rfl
theorem ta30 : aggB Tryd.prog 30 = some false := by kernel_rfl
theorem ti30 : ifaceB Tryd.prog 30 = false := by kernel_rfl
theorem tz30 : ((Tryd.prog.info? 30).bind (·.zero)).map (·.cells) = some (List.toArray [.slice none 0 0]) := by kernel_rfl
theorem ty30 : ((Tryd.prog.info? 30).bind (·.zero)).isSome = true := by kernel_rfl
theorem tx30 : (Tryd.prog.info? 30).map (fun i => (i.zero.map (·.cells.size), i.size, i.bytes)) = some (some 1, 1, 24) := by kernel_rfl
theorem ts31 : (Tryd.prog.info? 31).map (·.size) = some 1 := by kernel_rfl
theorem ta31 : aggB Tryd.prog 31 = some false := by kernel_rfl
theorem ti31 : ifaceB Tryd.prog 31 = false := by kernel_rfl
theorem tz31 : ((Tryd.prog.info? 31).bind (·.zero)).map (·.cells) = some (List.toArray [.nilFunc]) := by kernel_rfl
theorem ty31 : ((Tryd.prog.info? 31).bind (·.zero)).isSome = true := by kernel_rfl
theorem tx31 : (Tryd.prog.info? 31).map (fun i => (i.zero.map (·.cells.size), i.size, i.bytes)) = some (some 1, 1, 8) := by kernel_rfl
theorem ts32 : (Tryd.prog.info? 32).map (·.size) = some 1 := by kernel_rfl
theorem ta32 : aggB Tryd.prog 32 = some false := by kernel_rfl
theorem ti32 : ifaceB Tryd.prog 32 = false := by kernel_rfl
theorem tz32 : ((Tryd.prog.info? 32).bind (·.zero)).map (·.cells) = some (List.toArray [.nilFunc]) := by kernel_rfl
theorem ty32 : ((Tryd.prog.info? 32).bind (·.zero)).isSome = true := by kernel_rfl
theorem tx32 : (Tryd.prog.info? 32).map (fun i => (i.zero.map (·.cells.size), i.size, i.bytes)) = some (some 1, 1, 8) := by kernel_rfl
theorem ts33 : (Tryd.prog.info? 33).map (·.size) = some 1 := by kernel_rfl
theorem ta33 : aggB Tryd.prog 33 = some false := by kernel_rfl
theorem ti33 : ifaceB Tryd.prog 33 = false := by kernel_rfl
theorem tz33 : ((Tryd.prog.info? 33).bind (·.zero)).map (·.cells) = some (List.toArray [.nilFunc]) := by kernel_rfl
theorem ty33 : ((Tryd.prog.info? 33).bind (·.zero)).isSome = true := by kernel_rfl
theorem tx33 : (Tryd.prog.info? 33).map (fun i => (i.zero.map (·.cells.size), i.size, i.bytes)) = some (some 1, 1, 8) := by kernel_rfl
theorem ts34 : (Tryd.prog.info? 34).map (·.size) = some 1 := by kernel_rfl
theorem ta34 : aggB Tryd.prog 34 = some false := by kernel_rfl
theorem ti34 : ifaceB Tryd.prog 34 = false := by kernel_rfl
theorem tz34 : ((Tryd.prog.info? 34).bind (·.zero)).map (·.cells) = some (List.toArray [.nilFunc]) := by kernel_rfl
theorem ty34 : ((Tryd.prog.info? 34).bind (·.zero)).isSome = true := by kernel_rfl
theorem tx34 : (Tryd.prog.info? 34).map (fun i => (i.zero.map (·.cells.size), i.size, i.bytes)) = some (some 1, 1, 8) := by kernel_rfl
theorem ts35 : (Tryd.prog.info? 35).map (·.size) = some 1 := by kernel_rfl
theorem ta35 : aggB Tryd.prog 35 = some false := by kernel_rfl
theorem ti35 : ifaceB Tryd.prog 35 = false := by kernel_rfl
theorem tz35 : ((Tryd.prog.info? 35).bind (·.zero)).map (·.cells) = some (List.toArray [.nilFunc]) := by kernel_rfl
theorem ty35 : ((Tryd.prog.info? 35).bind (·.zero)).isSome = true := by kernel_rfl
theorem tx35 : (Tryd.prog.info? 35).map (fun i => (i.zero.map (·.cells.size), i.size, i.bytes)) = some (some 1, 1, 8) := by kernel_rfl
theorem tu36 : Tryd.prog.underlying 36 = some (.slice 57) := by kernel_rfl
theorem ts36 : (Tryd.prog.info? 36).map (·.size) = some 1 := by kernel_rfl
theorem ta36 : aggB Tryd.prog 36 = some false := by kernel_rfl
theorem ti36 : ifaceB Tryd.prog 36 = false := by kernel_rfl
theorem tz36 : ((Tryd.prog.info? 36).bind (·.zero)).map (·.cells) = some (List.toArray [.slice none 0 0]) := by kernel_rfl
theorem ty36 : ((Tryd.prog.info? 36).bind (·.zero)).isSome = true := by kernel_rfl
theorem tx36 : (Tryd.prog.info? 36).map (fun i => (i.zero.map (·.cells.size), i.size, i.bytes)) = some (some 1, 1, 24) := by kernel_rfl
theorem tu37 : Tryd.prog.underlying 37 = some (.slice 62) := by kernel_rfl
theorem ts37 : (Tryd.prog.info? 37).map (·.size) = some 1 := by kernel_rfl
theorem ta37 : aggB Tryd.prog 37 = some false := by kernel_rfl
theorem ti37 : ifaceB Tryd.prog 37 = false := by kernel_rfl
theorem tz37 : ((Tryd.prog.info? 37).bind (·.zero)).map (·.cells) = some (List.toArray [.slice none 0 0]) := by kernel_rfl
theorem ty37 : ((Tryd.prog.info? 37).bind (·.zero)).isSome = true := by kernel_rfl
theorem tx37 : (Tryd.prog.info? 37).map (fun i => (i.zero.map (·.cells.size), i.size, i.bytes)) = some (some 1, 1, 24) := by kernel_rfl
theorem ts38 : (Tryd.prog.info? 38).map (·.size) = some 3 := by kernel_rfl
theorem ta38 : aggB Tryd.prog 38 = some true := by kernel_rfl
theorem ti38 : ifaceB Tryd.prog 38 = false := by kernel_rfl
theorem tz38 : ((Tryd.prog.info? 38).bind (·.zero)).map (·.cells) = some (List.toArray [.slice none 0 0, .slice none 0 0, .int .i64 0]) := by kernel_rfl
theorem ty38 : ((Tryd.prog.info? 38).bind (·.zero)).isSome = true := by kernel_rfl
theorem tx38 : (Tryd.prog.info? 38).map (fun i => (i.zero.map (·.cells.size), i.size, i.bytes)) = some (some 3, 3, 56) := by kernel_rfl
theorem tf38_0 : fOff Tryd.prog 38 0 = some (0, 36) := by kernel_rfl
theorem tf38_1 : fOff Tryd.prog 38 1 = some (1, 37) := by kernel_rfl
theorem tf38_2 : fOff Tryd.prog 38 2 = some (2, 3) := by kernel_rfl
theorem ts39 : (Tryd.prog.info? 39).map (·.size) = some 3 := by kernel_rfl
theorem ta39 : aggB Tryd.prog 39 = some true := by kernel_rfl
theorem ti39 : ifaceB Tryd.prog 39 = false := by kernel_rfl
theorem tz39 : ((Tryd.prog.info? 39).bind (·.zero)).map (·.cells) = some (List.toArray [.slice none 0 0, .slice none 0 0, .int .i64 0]) := by kernel_rfl
theorem ty39 : ((Tryd.prog.info? 39).bind (·.zero)).isSome = true := by kernel_rfl
theorem tx39 : (Tryd.prog.info? 39).map (fun i => (i.zero.map (·.cells.size), i.size, i.bytes)) = some (some 3, 3, 56) := by kernel_rfl
theorem tf39_0 : fOff Tryd.prog 39 0 = some (0, 36) := by kernel_rfl
theorem tf39_1 : fOff Tryd.prog 39 1 = some (1, 37) := by kernel_rfl
theorem tf39_2 : fOff Tryd.prog 39 2 = some (2, 3) := by kernel_rfl
theorem ts40 : (Tryd.prog.info? 40).map (·.size) = some 1 := by kernel_rfl
theorem ta40 : aggB Tryd.prog 40 = some false := by kernel_rfl
theorem ti40 : ifaceB Tryd.prog 40 = false := by kernel_rfl
theorem tz40 : ((Tryd.prog.info? 40).bind (·.zero)).map (·.cells) = some (List.toArray [.nilFunc]) := by kernel_rfl
theorem ty40 : ((Tryd.prog.info? 40).bind (·.zero)).isSome = true := by kernel_rfl
theorem tx40 : (Tryd.prog.info? 40).map (fun i => (i.zero.map (·.cells.size), i.size, i.bytes)) = some (some 1, 1, 8) := by kernel_rfl
theorem tu41 : Tryd.prog.underlying 41 = some (.int .i64) := by kernel_rfl
theorem ts41 : (Tryd.prog.info? 41).map (·.size) = some 1 := by kernel_rfl
theorem ta41 : aggB Tryd.prog 41 = some false := by kernel_rfl
theorem ti41 : ifaceB Tryd.prog 41 = false := by kernel_rfl
theorem tz41 : ((Tryd.prog.info? 41).bind (·.zero)).map (·.cells) = some (List.toArray [.int .i64 0]) := by kernel_rfl
theorem ty41 : ((Tryd.prog.info? 41).bind (·.zero)).isSome = true := by kernel_rfl
theorem tx41 : (Tryd.prog.info? 41).map (fun i => (i.zero.map (·.cells.size), i.size, i.bytes)) = some (some 1, 1, 8) := by kernel_rfl
theorem ts43 : (Tryd.prog.info? 43).map (·.size) = some 1 := by kernel_rfl
theorem ta43 : aggB Tryd.prog 43 = some false := by kernel_rfl
theorem ti43 : ifaceB Tryd.prog 43 = false := by kernel_rfl
theorem tz43 : ((Tryd.prog.info? 43).bind (·.zero)).map (·.cells) = some (List.toArray [.nilFunc]) := by kernel_rfl
theorem ty43 : ((Tryd.prog.info? 43).bind (·.zero)).isSome = true := by kernel_rfl
theorem tx43 : (Tryd.prog.info? 43).map (fun i => (i.zero.map (·.cells.size), i.size, i.bytes)) = some (some 1, 1, 8) := by kernel_rfl
theorem ts44 : (Tryd.prog.info? 44).map (·.size) = some 1 := by kernel_rfl
theorem ta44 : aggB Tryd.prog 44 = some false := by kernel_rfl
theorem ti44 : ifaceB Tryd.prog 44 = false := by kernel_rfl
theorem tz44 : ((Tryd.prog.info? 44).bind (·.zero)).map (·.cells) = some (List.toArray [.nilFunc]) := by kernel_rfl
theorem ty44 : ((Tryd.prog.info? 44).bind (·.zero)).isSome = true := by kernel_rfl
theorem tx44 : (Tryd.prog.info? 44).map (fun i => (i.zero.map (·.cells.size), i.size, i.bytes)) = some (some 1, 1, 8) := by kernel_rfl
theorem ts46 : (Tryd.prog.info? 46).map (·.size) = some 1 := by kernel_rfl
theorem ta46 : aggB Tryd.prog 46 = some false := by kernel_rfl
theorem ti46 : ifaceB Tryd.prog 46 = false := by kernel_rfl
theorem tz46 : ((Tryd.prog.info? 46).bind (·.zero)).map (·.cells) = some (List.toArray [.nilFunc]) := by kernel_rfl
theorem ty46 : ((Tryd.prog.info? 46).bind (·.zero)).isSome = true := by kernel_rfl
theorem tx46 : (Tryd.prog.info? 46).map (fun i => (i.zero.map (·.cells.size), i.size, i.bytes)) = some (some 1, 1, 8) := by kernel_rfl
theorem ts47 : (Tryd.prog.info? 47).map (·.size) = some 1 := by kernel_rfl
theorem ta47 : aggB Tryd.prog 47 = some false := by kernel_rfl
theorem ti47 : ifaceB Tryd.prog 47 = false := by kernel_rfl
theorem tz47 : ((Tryd.prog.info? 47).bind (·.zero)).map (·.cells) = some (List.toArray [.nilFunc]) := by kernel_rfl
theorem ty47 : ((Tryd.prog.info? 47).bind (·.zero)).isSome = true := by kernel_rfl
theorem tx47 : (Tryd.prog.info? 47).map (fun i => (i.zero.map (·.cells.size), i.size, i.bytes)) = some (some 1, 1, 8) := by kernel_rfl
theorem ts48 : (Tryd.prog.info? 48).map (·.size) = some 1 := by kernel_rfl
theorem ta48 : aggB Tryd.prog 48 = some false := by kernel_rfl
theorem ti48 : ifaceB Tryd.prog 48 = false := by kernel_rfl
theorem tz48 : ((Tryd.prog.info? 48).bind (·.zero)).map (·.cells) = some (List.toArray [.nilFunc]) := by kernel_rfl
theorem ty48 : ((Tryd.prog.info? 48).bind (·.zero)).isSome = true := by kernel_rfl
theorem tx48 : (Tryd.prog.info? 48).map (fun i => (i.zero.map (·.cells.size), i.size, i.bytes)) = some (some 1, 1, 8) := by kernel_rfl
theorem ts49 : (Tryd.prog.info? 49).map (·.size) = some 1 := by kernel_rfl
theorem ta49 : aggB Tryd.prog 49 = some false := by kernel_rfl
theorem ti49 : ifaceB Tryd.prog 49 = false := by kernel_rfl
theorem tz49 : ((Tryd.prog.info? 49).bind (·.zero)).map (·.cells) = some (List.toArray [.nilFunc]) := by kernel_rfl
theorem ty49 : ((Tryd.prog.info? 49).bind (·.zero)).isSome = true := by kernel_rfl
theorem tx49 : (Tryd.prog.info? 49).map (fun i => (i.zero.map (·.cells.size), i.size, i.bytes)) = some (some 1, 1, 8) := by kernel_rfl
theorem ts50 : (Tryd.prog.info? 50).map (·.size) = some 1 := by kernel_rfl
theorem ta50 : aggB Tryd.prog 50 = some false := by kernel_rfl
theorem ti50 : ifaceB Tryd.prog 50 = false := by kernel_rfl
theorem tz50 : ((Tryd.prog.info? 50).bind (·.zero)).map (·.cells) = some (List.toArray [.nilFunc]) := by kernel_rfl
theorem ty50 : ((Tryd.prog.info? 50).bind (·.zero)).isSome = true := by kernel_rfl
theorem tx50 : (Tryd.prog.info? 50).map (fun i => (i.zero.map (·.cells.size), i.size, i.bytes)) = some (some 1, 1, 8) := by kernel_rfl
theorem ts51 : (Tryd.prog.info? 51).map (·.size) = some 1 := by kernel_rfl
theorem ta51 : aggB Tryd.prog 51 = some false := by kernel_rfl
theorem ti51 : ifaceB Tryd.prog 51 = false := by kernel_rfl
theorem tz51 : ((Tryd.prog.info? 51).bind (·.zero)).map (·.cells) = some (List.toArray [.nilFunc]) := by kernel_rfl
theorem ty51 : ((Tryd.prog.info? 51).bind (·.zero)).isSome = true := by kernel_rfl
theorem tx51 : (Tryd.prog.info? 51).map (fun i => (i.zero.map (·.cells.size), i.size, i.bytes)) = some (some 1, 1, 8) := by kernel_rfl
theorem ts52 : (Tryd.prog.info? 52).map (·.size) = some 1 := by kernel_rfl
theorem ta52 : aggB Tryd.prog 52 = some false := by kernel_rfl
theorem ti52 : ifaceB Tryd.prog 52 = false := by kernel_rfl
theorem tz52 : ((Tryd.prog.info? 52).bind (·.zero)).map (·.cells) = some (List.toArray [.nilFunc]) := by kernel_rfl
theorem ty52 : ((Tryd.prog.info? 52).bind (·.zero)).isSome = true := by kernel_rfl
theorem tx52 : (Tryd.prog.info? 52).map (fun i => (i.zero.map (·.cells.size), i.size, i.bytes)) = some (some 1, 1, 8) := by kernel_rfl
theorem ts53 : (Tryd.prog.info? 53).map (·.size) = some 33 := by kernel_rfl
theorem ta53 : aggB Tryd.prog 53 = some true := by kernel_rfl
theorem ti53 : ifaceB Tryd.prog 53 = false := by kernel_rfl
theorem tz53 : ((Tryd.prog.info? 53).bind (·.zero)).map (·.cells) = some (List.toArray [.int .u8 0, .int .u8 0, .int .u8 0, .int .u8 0, .int .u8 0, .int .u8 0, .int .u8 0, .int .u8 0, .int .u8 0, .int .u8 0, .int .u8 0, .int .u8 0, .int .u8 0, .int .u8 0, .int .u8 0, .int .u8 0, .int .u8 0, .int .u8 0, .int .u8 0, .int .u8 0, .int .u8 0, .int .u8 0, .int .u8 0, .int .u8 0, .int .u8 0, .int .u8 0, .int .u8 0, .int .u8 0, .int .u8 0, .int .u8 0, .int .u8 0, .int .u8 0, .int .i64 0]) := by kernel_rfl
theorem ty53 : ((Tryd.prog.info? 53).bind (·.zero)).isSome = true := by kernel_rfl
theorem tx53 : (Tryd.prog.info? 53).map (fun i => (i.zero.map (·.cells.size), i.size, i.bytes)) = some (some 33, 33, 40) := by kernel_rfl
theorem tf53_0 : fOff Tryd.prog 53 0 = some (0, 24) := by kernel_rfl
theorem tf53_1 : fOff Tryd.prog 53 1 = some (32, 3) := by kernel_rfl
theorem ts54 : (Tryd.prog.info? 54).map (·.size) = some 33 := by kernel_rfl
theorem ta54 : aggB Tryd.prog 54 = some true := by kernel_rfl
theorem ti54 : ifaceB Tryd.prog 54 = false := by kernel_rfl
theorem tz54 : ((Tryd.prog.info? 54).bind (·.zero)).map (·.cells) = some (List.toArray [.int .u8 0, .int .u8 0, .int .u8 0, .int .u8 0, .int .u8 0, .int .u8 0, .int .u8 0, .int .u8 0, .int .u8 0, .int .u8 0, .int .u8 0, .int .u8 0, .int .u8 0, .int .u8 0, .int .u8 0, .int .u8 0, .int .u8 0, .int .u8 0, .int .u8 0, .int .u8 0, .int .u8 0, .int .u8 0, .int .u8 0, .int .u8 0, .int .u8 0, .int .u8 0, .int .u8 0, .int .u8 0, .int .u8 0, .int .u8 0, .int .u8 0, .int .u8 0, .int .i64 0]) := by kernel_rfl
theorem ty54 : ((Tryd.prog.info? 54).bind (·.zero)).isSome = true := by kernel_rfl
theorem tx54 : (Tryd.prog.info? 54).map (fun i => (i.zero.map (·.cells.size), i.size, i.bytes)) = some (some 33, 33, 40) := by kernel_rfl
theorem tf54_0 : fOff Tryd.prog 54 0 = some (0, 24) := by kernel_rfl
theorem tf54_1 : fOff Tryd.prog 54 1 = some (32, 3) := by kernel_rfl
theorem tu55 : Tryd.prog.underlying 55 = some (.slice 22) := by kernel_rfl
theorem ts55 : (Tryd.prog.info? 55).map (·.size) = some 1 := by kernel_rfl
theorem ta55 : aggB Tryd.prog 55 = some false := by kernel_rfl
theorem ti55 : ifaceB Tryd.prog 55 = false := by kernel_rfl
theorem tz55 : ((Tryd.prog.info? 55).bind (·.zero)).map (·.cells) = some (List.toArray [.slice none 0 0]) := by kernel_rfl
theorem ty55 : ((Tryd.prog.info? 55).bind (·.zero)).isSome = true := by kernel_rfl
theorem tx55 : (Tryd.prog.info? 55).map (fun i => (i.zero.map (·.cells.size), i.size, i.bytes)) = some (some 1, 1, 24) := by kernel_rfl
theorem ts56 : (Tryd.prog.info? 56).map (·.size) = some 34 := by kernel_rfl
theorem ta56 : aggB Tryd.prog 56 = some true := by kernel_rfl
theorem ti56 : ifaceB Tryd.prog 56 = false := by kernel_rfl
theorem tz56 : ((Tryd.prog.info? 56).bind (·.zero)).map (·.cells) = some (List.toArray [.int .u8 0, .int .u8 0, .int .u8 0, .int .u8 0, .int .u8 0, .int .u8 0, .int .u8 0, .int .u8 0, .int .u8 0, .int .u8 0, .int .u8 0, .int .u8 0, .int .u8 0, .int .u8 0, .int .u8 0, .int .u8 0, .int .u8 0, .int .u8 0, .int .u8 0, .int .u8 0, .int .u8 0, .int .u8 0, .int .u8 0, .int .u8 0, .int .u8 0, .int .u8 0, .int .u8 0, .int .u8 0, .int .u8 0, .int .u8 0, .int .u8 0, .int .u8 0, .int .i64 0, .slice none 0 0]) := by kernel_rfl
theorem ty56 : ((Tryd.prog.info? 56).bind (·.zero)).isSome = true := by kernel_rfl
theorem tx56 : (Tryd.prog.info? 56).map (fun i => (i.zero.map (·.cells.size), i.size, i.bytes)) = some (some 34, 34, 64) := by kernel_rfl
theorem tf56_0 : fOff Tryd.prog 56 0 = some (0, 54) := by kernel_rfl
theorem tf56_1 : fOff Tryd.prog 56 1 = some (33, 55) := by kernel_rfl
theorem ts57 : (Tryd.prog.info? 57).map (·.size) = some 34 := by kernel_rfl
theorem ta57 : aggB Tryd.prog 57 = some true := by kernel_rfl
theorem ti57 : ifaceB Tryd.prog 57 = false := by kernel_rfl
theorem tz57 : ((Tryd.prog.info? 57).bind (·.zero)).map (·.cells) = some (List.toArray [.int .u8 0, .int .u8 0, .int .u8 0, .int .u8 0, .int .u8 0, .int .u8 0, .int .u8 0, .int .u8 0, .int .u8 0, .int .u8 0, .int .u8 0, .int .u8 0, .int .u8 0, .int .u8 0, .int .u8 0, .int .u8 0, .int .u8 0, .int .u8 0, .int .u8 0, .int .u8 0, .int .u8 0, .int .u8 0, .int .u8 0, .int .u8 0, .int .u8 0, .int .u8 0, .int .u8 0, .int .u8 0, .int .u8 0, .int .u8 0, .int .u8 0, .int .u8 0, .int .i64 0, .slice none 0 0]) := by kernel_rfl
theorem ty57 : ((Tryd.prog.info? 57).bind (·.zero)).isSome = true := by kernel_rfl
theorem tx57 : (Tryd.prog.info? 57).map (fun i => (i.zero.map (·.cells.size), i.size, i.bytes)) = some (some 34, 34, 64) := by kernel_rfl
theorem tf57_0 : fOff Tryd.prog 57 0 = some (0, 54) := by kernel_rfl
theorem tf57_1 : fOff Tryd.prog 57 1 = some (33, 55) := by kernel_rfl
theorem ts58 : (Tryd.prog.info? 58).map (·.size) = some 1 := by kernel_rfl
theorem ta58 : aggB Tryd.prog 58 = some false := by kernel_rfl
theorem ti58 : ifaceB Tryd.prog 58 = false := by kernel_rfl
theorem tz58 : ((Tryd.prog.info? 58).bind (·.zero)).map (·.cells) = some (List.toArray [.nilFunc]) := by kernel_rfl
theorem ty58 : ((Tryd.prog.info? 58).bind (·.zero)).isSome = true := by kernel_rfl
theorem tx58 : (Tryd.prog.info? 58).map (fun i => (i.zero.map (·.cells.size), i.size, i.bytes)) = some (some 1, 1, 8) := by kernel_rfl
theorem ts59 : (Tryd.prog.info? 59).map (·.size) = some 1 := by kernel_rfl
theorem ta59 : aggB Tryd.prog 59 = some false := by kernel_rfl
theorem ti59 : ifaceB Tryd.prog 59 = false := by kernel_rfl
theorem tz59 : ((Tryd.prog.info? 59).bind (·.zero)).map (·.cells) = some (List.toArray [.nilFunc]) := by kernel_rfl
theorem ty59 : ((Tryd.prog.info? 59).bind (·.zero)).isSome = true := by kernel_rfl
theorem tx59 : (Tryd.prog.info? 59).map (fun i => (i.zero.map (·.cells.size), i.size, i.bytes)) = some (some 1, 1, 8) := by kernel_rfl
theorem ts60 : (Tryd.prog.info? 60).map (·.size) = some 1 := by kernel_rfl
theorem ta60 : aggB Tryd.prog 60 = some false := by kernel_rfl
theorem ti60 : ifaceB Tryd.prog 60 = false := by kernel_rfl
theorem tz60 : ((Tryd.prog.info? 60).bind (·.zero)).map (·.cells) = some (List.toArray [.nilFunc]) := by kernel_rfl
theorem ty60 : ((Tryd.prog.info? 60).bind (·.zero)).isSome = true := by kernel_rfl
theorem tx60 : (Tryd.prog.info? 60).map (fun i => (i.zero.map (·.cells.size), i.size, i.bytes)) = some (some 1, 1, 8) := by kernel_rfl
theorem ts61 : (Tryd.prog.info? 61).map (·.size) = some 2 := by kernel_rfl
theorem ta61 : aggB Tryd.prog 61 = some true := by kernel_rfl
theorem ti61 : ifaceB Tryd.prog 61 = false := by kernel_rfl
theorem tz61 : ((Tryd.prog.info? 61).bind (·.zero)).map (·.cells) = some (List.toArray [.int .i64 0, .slice none 0 0]) := by kernel_rfl
theorem ty61 : ((Tryd.prog.info? 61).bind (·.zero)).isSome = true := by kernel_rfl
theorem tx61 : (Tryd.prog.info? 61).map (fun i => (i.zero.map (·.cells.size), i.size, i.bytes)) = some (some 2, 2, 32) := by kernel_rfl
theorem tf61_0 : fOff Tryd.prog 61 0 = some (0, 3) := by kernel_rfl
theorem tf61_1 : fOff Tryd.prog 61 1 = some (1, 22) := by kernel_rfl
theorem ts62 : (Tryd.prog.info? 62).map (·.size) = some 2 := by kernel_rfl
theorem ta62 : aggB Tryd.prog 62 = some true := by kernel_rfl
theorem ti62 : ifaceB Tryd.prog 62 = false := by kernel_rfl
theorem tz62 : ((Tryd.prog.info? 62).bind (·.zero)).map (·.cells) = some (List.toArray [.int .i64 0, .slice none 0 0]) := by kernel_rfl
theorem ty62 : ((Tryd.prog.info? 62).bind (·.zero)).isSome = true := by kernel_rfl
theorem tx62 : (Tryd.prog.info? 62).map (fun i => (i.zero.map (·.cells.size), i.size, i.bytes)) = some (some 2, 2, 32) := by kernel_rfl
theorem tf62_0 : fOff Tryd.prog 62 0 = some (0, 3) := by kernel_rfl
theorem tf62_1 : fOff Tryd.prog 62 1 = some (1, 22) := by kernel_rfl
theorem ts63 : (Tryd.prog.info? 63).map (·.size) = some 1 := by kernel_rfl
theorem ta63 : aggB Tryd.prog 63 = some false := by kernel_rfl
theorem ti63 : ifaceB Tryd.prog 63 = false := by kernel_rfl
theorem tz63 : ((Tryd.prog.info? 63).bind (·.zero)).map (·.cells) = some (List.toArray [.nilFunc]) := by kernel_rfl
theorem ty63 : ((Tryd.prog.info? 63).bind (·.zero)).isSome = true := by kernel_rfl
theorem tx63 : (Tryd.prog.info? 63).map (fun i => (i.zero.map (·.cells.size), i.size, i.bytes)) = some (some 1, 1, 8) := by kernel_rfl
theorem tu64 : Tryd.prog.underlying 64 = some (.int .u64) := by kernel_rfl
theorem ts64 : (Tryd.prog.info? 64).map (·.size) = some 1 := by kernel_rfl
theorem ta64 : aggB Tryd.prog 64 = some false := by kernel_rfl
theorem ti64 : ifaceB Tryd.prog 64 = false := by kernel_rfl
theorem tz64 : ((Tryd.prog.info? 64).bind (·.zero)).map (·.cells) = some (List.toArray [.int .u64 0]) := by kernel_rfl
theorem ty64 : ((Tryd.prog.info? 64).bind (·.zero)).isSome = true := by kernel_rfl
theorem tx64 : (Tryd.prog.info? 64).map (fun i => (i.zero.map (·.cells.size), i.size, i.bytes)) = some (some 1, 1, 8) := by kernel_rfl
theorem tu65 : Tryd.prog.underlying 65 = some (.array 8 26) := by kernel_rfl
theorem ts65 : (Tryd.prog.info? 65).map (·.size) = some 8 := by kernel_rfl
theorem ta65 : aggB Tryd.prog 65 = some true := by kernel_rfl
theorem ti65 : ifaceB Tryd.prog 65 = false := by kernel_rfl
theorem tz65 : ((Tryd.prog.info? 65).bind (·.zero)).map (·.cells) = some (List.toArray [.int .u32 0, .int .u32 0, .int .u32 0, .int .u32 0, .int .u32 0, .int .u32 0, .int .u32 0, .int .u32 0]) := by kernel_rfl
theorem ty65 : ((Tryd.prog.info? 65).bind (·.zero)).isSome = true := by kernel_rfl
theorem tx65 : (Tryd.prog.info? 65).map (fun i => (i.zero.map (·.cells.size), i.size, i.bytes)) = some (some 8, 8, 32) := by kernel_rfl
theorem tu66 : Tryd.prog.underlying 66 = some (.int .u64) := by kernel_rfl
theorem ts66 : (Tryd.prog.info? 66).map (·.size) = some 1 := by kernel_rfl
theorem ta66 : aggB Tryd.prog 66 = some false := by kernel_rfl
theorem ti66 : ifaceB Tryd.prog 66 = false := by kernel_rfl
theorem tz66 : ((Tryd.prog.info? 66).bind (·.zero)).map (·.cells) = some (List.toArray [.int .u64 0]) := by kernel_rfl
theorem ty66 : ((Tryd.prog.info? 66).bind (·.zero)).isSome = true := by kernel_rfl
theorem tx66 : (Tryd.prog.info? 66).map (fun i => (i.zero.map (·.cells.size), i.size, i.bytes)) = some (some 1, 1, 8) := by kernel_rfl
theorem tu67 : Tryd.prog.underlying 67 = some (.array 64 5) := by kernel_rfl
theorem ts67 : (Tryd.prog.info? 67).map (·.size) = some 64 := by kernel_rfl
theorem ta67 : aggB Tryd.prog 67 = some true := by kernel_rfl
theorem ti67 : ifaceB Tryd.prog 67 = false := by kernel_rfl
theorem tz67 : ((Tryd.prog.info? 67).bind (·.zero)).map (·.cells) = some (List.toArray [.int .u8 0, .int .u8 0, .int .u8 0, .int .u8 0, .int .u8 0, .int .u8 0, .int .u8 0, .int .u8 0, .int .u8 0, .int .u8 0, .int .u8 0, .int .u8 0, .int .u8 0, .int .u8 0, .int .u8 0, .int .u8 0, .int .u8 0, .int .u8 0, .int .u8 0, .int .u8 0, .int .u8 0, .int .u8 0, .int .u8 0, .int .u8 0, .int .u8 0, .int .u8 0, .int .u8 0, .int .u8 0, .int .u8 0, .int .u8 0, .int .u8 0, .int .u8 0, .int .u8 0, .int .u8 0, .int .u8 0, .int .u8 0, .int .u8 0, .int .u8 0, .int .u8 0, .int .u8 0, .int .u8 0, .int .u8 0, .int .u8 0, .int .u8 0, .int .u8 0, .int .u8 0, .int .u8 0, .int .u8 0, .int .u8 0, .int .u8 0, .int .u8 0, .int .u8 0, .int .u8 0, .int .u8 0, .int .u8 0, .int .u8 0, .int .u8 0, .int .u8 0, .int .u8 0, .int .u8 0, .int .u8 0, .int .u8 0, .int .u8 0, .int .u8 0]) := by kernel_rfl
theorem ty67 : ((Tryd.prog.info? 67).bind (·.zero)).isSome = true := by kernel_rfl
theorem tx67 : (Tryd.prog.info? 67).map (fun i => (i.zero.map (·.cells.size), i.size, i.bytes)) = some (some 64, 64, 64) := by kernel_rfl
theorem ts68 : (Tryd.prog.info? 68).map (·.size) = some 1 := by kernel_rfl
theorem ta68 : aggB Tryd.prog 68 = some false := by kernel_rfl
theorem ti68 : ifaceB Tryd.prog 68 = false := by kernel_rfl
theorem tz68 : ((Tryd.prog.info? 68).bind (·.zero)).map (·.cells) = some (List.toArray [.nilFunc]) := by kernel_rfl
theorem ty68 : ((Tryd.prog.info? 68).bind (·.zero)).isSome = true := by kernel_rfl
theorem tx68 : (Tryd.prog.info? 68).map (fun i => (i.zero.map (·.cells.size), i.size, i.bytes)) = some (some 1, 1, 8) := by kernel_rfl
theorem ts69 : (Tryd.prog.info? 69).map (·.size) = some 1 := by kernel_rfl
theorem ta69 : aggB Tryd.prog 69 = some false := by kernel_rfl
theorem ti69 : ifaceB Tryd.prog 69 = false := by kernel_rfl
theorem tz69 : ((Tryd.prog.info? 69).bind (·.zero)).map (·.cells) = some (List.toArray [.pointer none]) := by kernel_rfl
theorem ty69 : ((Tryd.prog.info? 69).bind (·.zero)).isSome = true := by kernel_rfl
theorem tx69 : (Tryd.prog.info? 69).map (fun i => (i.zero.map (·.cells.size), i.size, i.bytes)) = some (some 1, 1, 8) := by kernel_rfl
theorem ts70 : (Tryd.prog.info? 70).map (·.size) = some 1 := by kernel_rfl
theorem ta70 : aggB Tryd.prog 70 = some false := by kernel_rfl
theorem ti70 : ifaceB Tryd.prog 70 = false := by kernel_rfl
theorem tz70 : ((Tryd.prog.info? 70).bind (·.zero)).map (·.cells) = some (List.toArray [.nilFunc]) := by kernel_rfl
theorem ty70 : ((Tryd.prog.info? 70).bind (·.zero)).isSome = true := by kernel_rfl
theorem tx70 : (Tryd.prog.info? 70).map (fun i => (i.zero.map (·.cells.size), i.size, i.bytes)) = some (some 1, 1, 8) := by kernel_rfl
theorem ts71 : (Tryd.prog.info? 71).map (·.size) = some 1 := by kernel_rfl
theorem ta71 : aggB Tryd.prog 71 = some false := by kernel_rfl
theorem ti71 : ifaceB Tryd.prog 71 = false := by kernel_rfl
theorem tz71 : ((Tryd.prog.info? 71).bind (·.zero)).map (·.cells) = some (List.toArray [.nilFunc]) := by kernel_rfl
theorem ty71 : ((Tryd.prog.info? 71).bind (·.zero)).isSome = true := by kernel_rfl
theorem tx71 : (Tryd.prog.info? 71).map (fun i => (i.zero.map (·.cells.size), i.size, i.bytes)) = some (some 1, 1, 8) := by kernel_rfl
theorem ts72 : (Tryd.prog.info? 72).map (·.size) = some 1 := by kernel_rfl
theorem ta72 : aggB Tryd.prog 72 = some false := by kernel_rfl
theorem ti72 : ifaceB Tryd.prog 72 = false := by kernel_rfl
theorem tz72 : ((Tryd.prog.info? 72).bind (·.zero)).map (·.cells) = some (List.toArray [.nilFunc]) := by kernel_rfl
theorem ty72 : ((Tryd.prog.info? 72).bind (·.zero)).isSome = true := by kernel_rfl
theorem tx72 : (Tryd.prog.info? 72).map (fun i => (i.zero.map (·.cells.size), i.size, i.bytes)) = some (some 1, 1, 8) := by kernel_rfl
theorem ts73 : (Tryd.prog.info? 73).map (·.size) = some 1 := by kernel_rfl
theorem ta73 : aggB Tryd.prog 73 = some false := by kernel_rfl
theorem ti73 : ifaceB Tryd.prog 73 = false := by kernel_rfl
theorem tz73 : ((Tryd.prog.info? 73).bind (·.zero)).map (·.cells) = some (List.toArray [.nilFunc]) := by kernel_rfl
theorem ty73 : ((Tryd.prog.info? 73).bind (·.zero)).isSome = true := by kernel_rfl
theorem tx73 : (Tryd.prog.info? 73).map (fun i => (i.zero.map (·.cells.size), i.size, i.bytes)) = some (some 1, 1, 8) := by kernel_rfl
theorem ts74 : (Tryd.prog.info? 74).map (·.size) = some 1 := by kernel_rfl
theorem ta74 : aggB Tryd.prog 74 = some false := by kernel_rfl
theorem ti74 : ifaceB Tryd.prog 74 = false := by kernel_rfl
theorem tz74 : ((Tryd.prog.info? 74).bind (·.zero)).map (·.cells) = some (List.toArray [.nilFunc]) := by kernel_rfl
theorem ty74 : ((Tryd.prog.info? 74).bind (·.zero)).isSome = true := by kernel_rfl
theorem tx74 : (Tryd.prog.info? 74).map (fun i => (i.zero.map (·.cells.size), i.size, i.bytes)) = some (some 1, 1, 8) := by kernel_rfl
theorem ts75 : (Tryd.prog.info? 75).map (·.size) = some 1 := by kernel_rfl
theorem ta75 : aggB Tryd.prog 75 = some false := by kernel_rfl
theorem ti75 : ifaceB Tryd.prog 75 = false := by kernel_rfl
theorem tz75 : ((Tryd.prog.info? 75).bind (·.zero)).map (·.cells) = some (List.toArray [.nilFunc]) := by kernel_rfl
theorem ty75 : ((Tryd.prog.info? 75).bind (·.zero)).isSome = true := by kernel_rfl
theorem tx75 : (Tryd.prog.info? 75).map (fun i => (i.zero.map (·.cells.size), i.size, i.bytes)) = some (some 1, 1, 8) := by kernel_rfl
theorem ts76 : (Tryd.prog.info? 76).map (·.size) = some 1 := by kernel_rfl
theorem ta76 : aggB Tryd.prog 76 = some false := by kernel_rfl
theorem ti76 : ifaceB Tryd.prog 76 = false := by kernel_rfl
theorem tz76 : ((Tryd.prog.info? 76).bind (·.zero)).map (·.cells) = some (List.toArray [.nilFunc]) := by kernel_rfl
theorem ty76 : ((Tryd.prog.info? 76).bind (·.zero)).isSome = true := by kernel_rfl
theorem tx76 : (Tryd.prog.info? 76).map (fun i => (i.zero.map (·.cells.size), i.size, i.bytes)) = some (some 1, 1, 8) := by kernel_rfl
theorem ts77 : (Tryd.prog.info? 77).map (·.size) = some 1 := by kernel_rfl
theorem ta77 : aggB Tryd.prog 77 = some false := by kernel_rfl
theorem ti77 : ifaceB Tryd.prog 77 = false := by kernel_rfl
theorem tz77 : ((Tryd.prog.info? 77).bind (·.zero)).map (·.cells) = some (List.toArray [.nilFunc]) := by kernel_rfl
theorem ty77 : ((Tryd.prog.info? 77).bind (·.zero)).isSome = true := by kernel_rfl
theorem tx77 : (Tryd.prog.info? 77).map (fun i => (i.zero.map (·.cells.size), i.size, i.bytes)) = some (some 1, 1, 8) := by kernel_rfl
theorem ts78 : (Tryd.prog.info? 78).map (·.size) = some 1 := by kernel_rfl
theorem ta78 : aggB Tryd.prog 78 = some false := by kernel_rfl
theorem ti78 : ifaceB Tryd.prog 78 = false := by kernel_rfl
theorem tz78 : ((Tryd.prog.info? 78).bind (·.zero)).map (·.cells) = some (List.toArray [.nilFunc]) := by kernel_rfl
theorem ty78 : ((Tryd.prog.info? 78).bind (·.zero)).isSome = true := by kernel_rfl
theorem tx78 : (Tryd.prog.info? 78).map (fun i => (i.zero.map (·.cells.size), i.size, i.bytes)) = some (some 1, 1, 8) := by kernel_rfl
theorem ts79 : (Tryd.prog.info? 79).map (·.size) = some 1 := by kernel_rfl
theorem ta79 : aggB Tryd.prog 79 = some false := by kernel_rfl
theorem ti79 : ifaceB Tryd.prog 79 = false := by kernel_rfl
theorem tz79 : ((Tryd.prog.info? 79).bind (·.zero)).map (·.cells) = some (List.toArray [.nilFunc]) := by kernel_rfl
theorem ty79 : ((Tryd.prog.info? 79).bind (·.zero)).isSome = true := by kernel_rfl
theorem tx79 : (Tryd.prog.info? 79).map (fun i => (i.zero.map (·.cells.size), i.size, i.bytes)) = some (some 1, 1, 8) := by kernel_rfl
theorem ts80 : (Tryd.prog.info? 80).map (·.size) = some 1 := by kernel_rfl
theorem ta80 : aggB Tryd.prog 80 = some false := by kernel_rfl
theorem ti80 : ifaceB Tryd.prog 80 = false := by kernel_rfl
theorem tz80 : ((Tryd.prog.info? 80).bind (·.zero)).map (·.cells) = some (List.toArray [.nilFunc]) := by kernel_rfl
theorem ty80 : ((Tryd.prog.info? 80).bind (·.zero)).isSome = true := by kernel_rfl
theorem tx80 : (Tryd.prog.info? 80).map (fun i => (i.zero.map (·.cells.size), i.size, i.bytes)) = some (some 1, 1, 8) := by kernel_rfl
theorem ts81 : (Tryd.prog.info? 81).map (·.size) = some 1 := by kernel_rfl
theorem ta81 : aggB Tryd.prog 81 = some false := by kernel_rfl
theorem ti81 : ifaceB Tryd.prog 81 = false := by kernel_rfl
theorem tz81 : ((Tryd.prog.info? 81).bind (·.zero)).map (·.cells) = some (List.toArray [.nilFunc]) := by kernel_rfl
theorem ty81 : ((Tryd.prog.info? 81).bind (·.zero)).isSome = true := by kernel_rfl
theorem tx81 : (Tryd.prog.info? 81).map (fun i => (i.zero.map (·.cells.size), i.size, i.bytes)) = some (some 1, 1, 8) := by kernel_rfl
theorem ts82 : (Tryd.prog.info? 82).map (·.size) = some 1 := by kernel_rfl
theorem ta82 : aggB Tryd.prog 82 = some false := by kernel_rfl
theorem ti82 : ifaceB Tryd.prog 82 = false := by kernel_rfl
theorem tz82 : ((Tryd.prog.info? 82).bind (·.zero)).map (·.cells) = some (List.toArray [.nilFunc]) := by kernel_rfl
theorem ty82 : ((Tryd.prog.info? 82).bind (·.zero)).isSome = true := by kernel_rfl
theorem tx82 : (Tryd.prog.info? 82).map (fun i => (i.zero.map (·.cells.size), i.size, i.bytes)) = some (some 1, 1, 8) := by kernel_rfl
theorem ts83 : (Tryd.prog.info? 83).map (·.size) = some 1 := by kernel_rfl
theorem ta83 : aggB Tryd.prog 83 = some false := by kernel_rfl
theorem ti83 : ifaceB Tryd.prog 83 = false := by kernel_rfl
theorem tz83 : ((Tryd.prog.info? 83).bind (·.zero)).map (·.cells) = some (List.toArray [.pointer none]) := by kernel_rfl
theorem ty83 : ((Tryd.prog.info? 83).bind (·.zero)).isSome = true := by kernel_rfl
theorem tx83 : (Tryd.prog.info? 83).map (fun i => (i.zero.map (·.cells.size), i.size, i.bytes)) = some (some 1, 1, 8) := by kernel_rfl
theorem ts84 : (Tryd.prog.info? 84).map (·.size) = some 1 := by kernel_rfl
theorem ta84 : aggB Tryd.prog 84 = some false := by kernel_rfl
theorem ti84 : ifaceB Tryd.prog 84 = false := by kernel_rfl
theorem tz84 : ((Tryd.prog.info? 84).bind (·.zero)).map (·.cells) = some (List.toArray [.nilFunc]) := by kernel_rfl
theorem ty84 : ((Tryd.prog.info? 84).bind (·.zero)).isSome = true := by kernel_rfl
theorem tx84 : (Tryd.prog.info? 84).map (fun i => (i.zero.map (·.cells.size), i.size, i.bytes)) = some (some 1, 1, 8) := by kernel_rfl
theorem ts85 : (Tryd.prog.info? 85).map (·.size) = some 1 := by kernel_rfl
theorem ta85 : aggB Tryd.prog 85 = some false := by kernel_rfl
theorem ti85 : ifaceB Tryd.prog 85 = false := by kernel_rfl
theorem tz85 : ((Tryd.prog.info? 85).bind (·.zero)).map (·.cells) = some (List.toArray [.nilFunc]) := by kernel_rfl
theorem ty85 : ((Tryd.prog.info? 85).bind (·.zero)).isSome = true := by kernel_rfl
theorem tx85 : (Tryd.prog.info? 85).map (fun i => (i.zero.map (·.cells.size), i.size, i.bytes)) = some (some 1, 1, 8) := by kernel_rfl
theorem ts86 : (Tryd.prog.info? 86).map (·.size) = some 1 := by kernel_rfl
theorem ta86 : aggB Tryd.prog 86 = some false := by kernel_rfl
theorem ti86 : ifaceB Tryd.prog 86 = false := by kernel_rfl
theorem tz86 : ((Tryd.prog.info? 86).bind (·.zero)).map (·.cells) = some (List.toArray [.nilFunc]) := by kernel_rfl
theorem ty86 : ((Tryd.prog.info? 86).bind (·.zero)).isSome = true := by kernel_rfl
theorem tx86 : (Tryd.prog.info? 86).map (fun i => (i.zero.map (·.cells.size), i.size, i.bytes)) = some (some 1, 1, 8) := by kernel_rfl
theorem ts87 : (Tryd.prog.info? 87).map (·.size) = some 1 := by kernel_rfl
theorem ta87 : aggB Tryd.prog 87 = some false := by kernel_rfl
theorem ti87 : ifaceB Tryd.prog 87 = false := by kernel_rfl
theorem tz87 : ((Tryd.prog.info? 87).bind (·.zero)).map (·.cells) = some (List.toArray [.nilFunc]) := by kernel_rfl
theorem ty87 : ((Tryd.prog.info? 87).bind (·.zero)).isSome = true := by kernel_rfl
theorem tx87 : (Tryd.prog.info? 87).map (fun i => (i.zero.map (·.cells.size), i.size, i.bytes)) = some (some 1, 1, 8) := by kernel_rfl
theorem ts88 : (Tryd.prog.info? 88).map (·.size) = some 1 := by kernel_rfl
theorem ta88 : aggB Tryd.prog 88 = some false := by kernel_rfl
theorem ti88 : ifaceB Tryd.prog 88 = false := by kernel_rfl
theorem tz88 : ((Tryd.prog.info? 88).bind (·.zero)).map (·.cells) = some (List.toArray [.nilFunc]) := by kernel_rfl
theorem ty88 : ((Tryd.prog.info? 88).bind (·.zero)).isSome = true := by kernel_rfl
theorem tx88 : (Tryd.prog.info? 88).map (fun i => (i.zero.map (·.cells.size), i.size, i.bytes)) = some (some 1, 1, 8) := by kernel_rfl
theorem ts89 : (Tryd.prog.info? 89).map (·.size) = some 1 := by kernel_rfl
theorem ta89 : aggB Tryd.prog 89 = some false := by kernel_rfl
theorem ti89 : ifaceB Tryd.prog 89 = false := by kernel_rfl
theorem tz89 : ((Tryd.prog.info? 89).bind (·.zero)).map (·.cells) = some (List.toArray [.nilFunc]) := by kernel_rfl
theorem ty89 : ((Tryd.prog.info? 89).bind (·.zero)).isSome = true := by kernel_rfl
theorem tx89 : (Tryd.prog.info? 89).map (fun i => (i.zero.map (·.cells.size), i.size, i.bytes)) = some (some 1, 1, 8) := by kernel_rfl
theorem ts90 : (Tryd.prog.info? 90).map (·.size) = some 1 := by kernel_rfl
theorem ta90 : aggB Tryd.prog 90 = some false := by kernel_rfl
theorem ti90 : ifaceB Tryd.prog 90 = false := by kernel_rfl
theorem tz90 : ((Tryd.prog.info? 90).bind (·.zero)).map (·.cells) = some (List.toArray [.nilFunc]) := by kernel_rfl
theorem ty90 : ((Tryd.prog.info? 90).bind (·.zero)).isSome = true := by kernel_rfl
theorem tx90 : (Tryd.prog.info? 90).map (fun i => (i.zero.map (·.cells.size), i.size, i.bytes)) = some (some 1, 1, 8) := by kernel_rfl
theorem ts91 : (Tryd.prog.info? 91).map (·.size) = some 1 := by kernel_rfl
theorem ta91 : aggB Tryd.prog 91 = some false := by kernel_rfl
theorem ti91 : ifaceB Tryd.prog 91 = false := by kernel_rfl
theorem tz91 : ((Tryd.prog.info? 91).bind (·.zero)).map (·.cells) = some (List.toArray [.nilFunc]) := by kernel_rfl
theorem ty91 : ((Tryd.prog.info? 91).bind (·.zero)).isSome = true := by kernel_rfl
theorem tx91 : (Tryd.prog.info? 91).map (fun i => (i.zero.map (·.cells.size), i.size, i.bytes)) = some (some 1, 1, 8) := by kernel_rfl
theorem ts92 : (Tryd.prog.info? 92).map (·.size) = some 1 := by kernel_rfl
theorem ta92 : aggB Tryd.prog 92 = some false := by kernel_rfl
theorem ti92 : ifaceB Tryd.prog 92 = false := by kernel_rfl
theorem tz92 : ((Tryd.prog.info? 92).bind (·.zero)).map (·.cells) = some (List.toArray [.nilFunc]) := by kernel_rfl
theorem ty92 : ((Tryd.prog.info? 92).bind (·.zero)).isSome = true := by kernel_rfl
theorem tx92 : (Tryd.prog.info? 92).map (fun i => (i.zero.map (·.cells.size), i.size, i.bytes)) = some (some 1, 1, 8) := by kernel_rfl
theorem ts93 : (Tryd.prog.info? 93).map (·.size) = some 1 := by kernel_rfl
theorem ta93 : aggB Tryd.prog 93 = some false := by kernel_rfl
theorem ti93 : ifaceB Tryd.prog 93 = false := by kernel_rfl
theorem tz93 : ((Tryd.prog.info? 93).bind (·.zero)).map (·.cells) = some (List.toArray [.nilFunc]) := by kernel_rfl
theorem ty93 : ((Tryd.prog.info? 93).bind (·.zero)).isSome = true := by kernel_rfl
theorem tx93 : (Tryd.prog.info? 93).map (fun i => (i.zero.map (·.cells.size), i.size, i.bytes)) = some (some 1, 1, 8) := by kernel_rfl
theorem ts94 : (Tryd.prog.info? 94).map (·.size) = some 1 := by kernel_rfl
theorem ta94 : aggB Tryd.prog 94 = some false := by kernel_rfl
theorem ti94 : ifaceB Tryd.prog 94 = false := by kernel_rfl
theorem tz94 : ((Tryd.prog.info? 94).bind (·.zero)).map (·.cells) = some (List.toArray [.nilFunc]) := by kernel_rfl
theorem ty94 : ((Tryd.prog.info? 94).bind (·.zero)).isSome = true := by kernel_rfl
theorem tx94 : (Tryd.prog.info? 94).map (fun i => (i.zero.map (·.cells.size), i.size, i.bytes)) = some (some 1, 1, 8) := by kernel_rfl
theorem ts95 : (Tryd.prog.info? 95).map (·.size) = some 1 := by kernel_rfl
theorem ta95 : aggB Tryd.prog 95 = some false := by kernel_rfl
theorem ti95 : ifaceB Tryd.prog 95 = false := by kernel_rfl
theorem tz95 : ((Tryd.prog.info? 95).bind (·.zero)).map (·.cells) = some (List.toArray [.nilFunc]) := by kernel_rfl
theorem ty95 : ((Tryd.prog.info? 95).bind (·.zero)).isSome = true := by kernel_rfl
theorem tx95 : (Tryd.prog.info? 95).map (fun i => (i.zero.map (·.cells.size), i.size, i.bytes)) = some (some 1, 1, 8) := by kernel_rfl
theorem ts96 : (Tryd.prog.info? 96).map (·.size) = some 1 := by kernel_rfl
theorem ta96 : aggB Tryd.prog 96 = some false := by kernel_rfl
theorem ti96 : ifaceB Tryd.prog 96 = false := by kernel_rfl
theorem tz96 : ((Tryd.prog.info? 96).bind (·.zero)).map (·.cells) = some (List.toArray [.nilFunc]) := by kernel_rfl
theorem ty96 : ((Tryd.prog.info? 96).bind (·.zero)).isSome = true := by kernel_rfl
theorem tx96 : (Tryd.prog.info? 96).map (fun i => (i.zero.map (·.cells.size), i.size, i.bytes)) = some (some 1, 1, 8) := by kernel_rfl
theorem ts97 : (Tryd.prog.info? 97).map (·.size) = some 1 := by kernel_rfl
theorem ta97 : aggB Tryd.prog 97 = some false := by kernel_rfl
theorem ti97 : ifaceB Tryd.prog 97 = false := by kernel_rfl
theorem tz97 : ((Tryd.prog.info? 97).bind (·.zero)).map (·.cells) = some (List.toArray [.nilFunc]) := by kernel_rfl
theorem ty97 : ((Tryd.prog.info? 97).bind (·.zero)).isSome = true := by kernel_rfl
theorem tx97 : (Tryd.prog.info? 97).map (fun i => (i.zero.map (·.cells.size), i.size, i.bytes)) = some (some 1, 1, 8) := by kernel_rfl
theorem ts98 : (Tryd.prog.info? 98).map (·.size) = some 1 := by kernel_rfl
theorem ta98 : aggB Tryd.prog 98 = some false := by kernel_rfl
theorem ti98 : ifaceB Tryd.prog 98 = false := by kernel_rfl
theorem tz98 : ((Tryd.prog.info? 98).bind (·.zero)).map (·.cells) = some (List.toArray [.nilFunc]) := by kernel_rfl
theorem ty98 : ((Tryd.prog.info? 98).bind (·.zero)).isSome = true := by kernel_rfl
theorem tx98 : (Tryd.prog.info? 98).map (fun i => (i.zero.map (·.cells.size), i.size, i.bytes)) = some (some 1, 1, 8) := by kernel_rfl
theorem ts99 : (Tryd.prog.info? 99).map (·.size) = some 1 := by kernel_rfl
theorem ta99 : aggB Tryd.prog 99 = some false := by kernel_rfl
theorem ti99 : ifaceB Tryd.prog 99 = false := by kernel_rfl
theorem tz99 : ((Tryd.prog.info? 99).bind (·.zero)).map (·.cells) = some (List.toArray [.nilFunc]) := by kernel_rfl
theorem ty99 : ((Tryd.prog.info? 99).bind (·.zero)).isSome = true := by kernel_rfl
theorem tx99 : (Tryd.prog.info? 99).map (fun i => (i.zero.map (·.cells.size), i.size, i.bytes)) = some (some 1, 1, 8) := by kernel_rfl
theorem ts100 : (Tryd.prog.info? 100).map (·.size) = some 1 := by kernel_rfl
theorem ta100 : aggB Tryd.prog 100 = some false := by kernel_rfl
theorem ti100 : ifaceB Tryd.prog 100 = false := by kernel_rfl
theorem tz100 : ((Tryd.prog.info? 100).bind (·.zero)).map (·.cells) = some (List.toArray [.nilFunc]) := by kernel_rfl
theorem ty100 : ((Tryd.prog.info? 100).bind (·.zero)).isSome = true := by kernel_rfl
theorem tx100 : (Tryd.prog.info? 100).map (fun i => (i.zero.map (·.cells.size), i.size, i.bytes)) = some (some 1, 1, 8) := by kernel_rfl
theorem ts101 : (Tryd.prog.info? 101).map (·.size) = some 1 := by kernel_rfl
theorem ta101 : aggB Tryd.prog 101 = some false := by kernel_rfl
theorem ti101 : ifaceB Tryd.prog 101 = false := by kernel_rfl
theorem tz101 : ((Tryd.prog.info? 101).bind (·.zero)).map (·.cells) = some (List.toArray [.nilFunc]) := by kernel_rfl
theorem ty101 : ((Tryd.prog.info? 101).bind (·.zero)).isSome = true := by kernel_rfl
theorem tx101 : (Tryd.prog.info? 101).map (fun i => (i.zero.map (·.cells.size), i.size, i.bytes)) = some (some 1, 1, 8) := by kernel_rfl
theorem ts102 : (Tryd.prog.info? 102).map (·.size) = some 1 := by kernel_rfl
theorem ta102 : aggB Tryd.prog 102 = some false := by kernel_rfl
theorem ti102 : ifaceB Tryd.prog 102 = false := by kernel_rfl
theorem tz102 : ((Tryd.prog.info? 102).bind (·.zero)).map (·.cells) = some (List.toArray [.nilFunc]) := by kernel_rfl
theorem ty102 : ((Tryd.prog.info? 102).bind (·.zero)).isSome = true := by kernel_rfl
theorem tx102 : (Tryd.prog.info? 102).map (fun i => (i.zero.map (·.cells.size), i.size, i.bytes)) = some (some 1, 1, 8) := by kernel_rfl
theorem ts103 : (Tryd.prog.info? 103).map (·.size) = some 1 := by kernel_rfl
theorem ta103 : aggB Tryd.prog 103 = some false := by kernel_rfl
theorem ti103 : ifaceB Tryd.prog 103 = false := by kernel_rfl
theorem tz103 : ((Tryd.prog.info? 103).bind (·.zero)).map (·.cells) = some (List.toArray [.nilFunc]) := by kernel_rfl
theorem ty103 : ((Tryd.prog.info? 103).bind (·.zero)).isSome = true := by kernel_rfl
theorem tx103 : (Tryd.prog.info? 103).map (fun i => (i.zero.map (·.cells.size), i.size, i.bytes)) = some (some 1, 1, 8) := by kernel_rfl
theorem ts104 : (Tryd.prog.info? 104).map (·.size) = some 1 := by kernel_rfl
theorem ta104 : aggB Tryd.prog 104 = some false := by kernel_rfl
theorem ti104 : ifaceB Tryd.prog 104 = false := by kernel_rfl
theorem tz104 : ((Tryd.prog.info? 104).bind (·.zero)).map (·.cells) = some (List.toArray [.nilFunc]) := by kernel_rfl
theorem ty104 : ((Tryd.prog.info? 104).bind (·.zero)).isSome = true := by kernel_rfl
theorem tx104 : (Tryd.prog.info? 104).map (fun i => (i.zero.map (·.cells.size), i.size, i.bytes)) = some (some 1, 1, 8) := by kernel_rfl
theorem tu105 : Tryd.prog.underlying 105 = some (.array 16 26) := by kernel_rfl
theorem ts105 : (Tryd.prog.info? 105).map (·.size) = some 16 := by kernel_rfl
theorem ta105 : aggB Tryd.prog 105 = some true := by kernel_rfl
theorem ti105 : ifaceB Tryd.prog 105 = false := by kernel_rfl
theorem tz105 : ((Tryd.prog.info? 105).bind (·.zero)).map (·.cells) = some (List.toArray [.int .u32 0, .int .u32 0, .int .u32 0, .int .u32 0, .int .u32 0, .int .u32 0, .int .u32 0, .int .u32 0, .int .u32 0, .int .u32 0, .int .u32 0, .int .u32 0, .int .u32 0, .int .u32 0, .int .u32 0, .int .u32 0]) := by kernel_rfl
theorem ty105 : ((Tryd.prog.info? 105).bind (·.zero)).isSome = true := by kernel_rfl
theorem tx105 : (Tryd.prog.info? 105).map (fun i => (i.zero.map (·.cells.size), i.size, i.bytes)) = some (some 16, 16, 64) := by kernel_rfl
theorem tu106 : Tryd.prog.underlying 106 = some (.array 16 26) := by kernel_rfl
theorem ts106 : (Tryd.prog.info? 106).map (·.size) = some 16 := by kernel_rfl
theorem ta106 : aggB Tryd.prog 106 = some true := by kernel_rfl
theorem ti106 : ifaceB Tryd.prog 106 = false := by kernel_rfl
theorem tz106 : ((Tryd.prog.info? 106).bind (·.zero)).map (·.cells) = some (List.toArray [.int .u32 0, .int .u32 0, .int .u32 0, .int .u32 0, .int .u32 0, .int .u32 0, .int .u32 0, .int .u32 0, .int .u32 0, .int .u32 0, .int .u32 0, .int .u32 0, .int .u32 0, .int .u32 0, .int .u32 0, .int .u32 0]) := by kernel_rfl
theorem ty106 : ((Tryd.prog.info? 106).bind (·.zero)).isSome = true := by kernel_rfl
theorem tx106 : (Tryd.prog.info? 106).map (fun i => (i.zero.map (·.cells.size), i.size, i.bytes)) = some (some 16, 16, 64) := by kernel_rfl
theorem tu107 : Tryd.prog.underlying 107 = some (.slice 26) := by kernel_rfl
theorem ts107 : (Tryd.prog.info? 107).map (·.size) = some 1 := by kernel_rfl
theorem ta107 : aggB Tryd.prog 107 = some false := by kernel_rfl
theorem ti107 : ifaceB Tryd.prog 107 = false := by kernel_rfl
theorem tz107 : ((Tryd.prog.info? 107).bind (·.zero)).map (·.cells) = some (List.toArray [.slice none 0 0]) := by kernel_rfl
theorem ty107 : ((Tryd.prog.info? 107).bind (·.zero)).isSome = true := by kernel_rfl
theorem tx107 : (Tryd.prog.info? 107).map (fun i => (i.zero.map (·.cells.size), i.size, i.bytes)) = some (some 1, 1, 24) := by kernel_rfl
theorem tu108 : Tryd.prog.underlying 108 = some (.array 10 9) := by kernel_rfl
theorem ts108 : (Tryd.prog.info? 108).map (·.size) = some 10 := by kernel_rfl
theorem ta108 : aggB Tryd.prog 108 = some true := by kernel_rfl
theorem ti108 : ifaceB Tryd.prog 108 = false := by kernel_rfl
theorem tz108 : ((Tryd.prog.info? 108).bind (·.zero)).map (·.cells) = some (List.toArray [.string ⟨#[]⟩, .string ⟨#[]⟩, .string ⟨#[]⟩, .string ⟨#[]⟩, .string ⟨#[]⟩, .string ⟨#[]⟩, .string ⟨#[]⟩, .string ⟨#[]⟩, .string ⟨#[]⟩, .string ⟨#[]⟩]) := by kernel_rfl
theorem ty108 : ((Tryd.prog.info? 108).bind (·.zero)).isSome = true := by kernel_rfl
theorem tx108 : (Tryd.prog.info? 108).map (fun i => (i.zero.map (·.cells.size), i.size, i.bytes)) = some (some 10, 10, 160) := by kernel_rfl
theorem ts109 : (Tryd.prog.info? 109).map (·.size) = some 1 := by kernel_rfl
theorem ta109 : aggB Tryd.prog 109 = some false := by kernel_rfl
theorem ti109 : ifaceB Tryd.prog 109 = false := by kernel_rfl
theorem tz109 : ((Tryd.prog.info? 109).bind (·.zero)).map (·.cells) = some (List.toArray [.nilFunc]) := by kernel_rfl
theorem ty109 : ((Tryd.prog.info? 109).bind (·.zero)).isSome = true := by kernel_rfl
theorem tx109 : (Tryd.prog.info? 109).map (fun i => (i.zero.map (·.cells.size), i.size, i.bytes)) = some (some 1, 1, 8) := by kernel_rfl
theorem ts110 : (Tryd.prog.info? 110).map (·.size) = some 1 := by kernel_rfl
theorem ta110 : aggB Tryd.prog 110 = some false := by kernel_rfl
theorem ti110 : ifaceB Tryd.prog 110 = false := by kernel_rfl
theorem tz110 : ((Tryd.prog.info? 110).bind (·.zero)).map (·.cells) = some (List.toArray [.pointer none]) := by kernel_rfl
theorem ty110 : ((Tryd.prog.info? 110).bind (·.zero)).isSome = true := by kernel_rfl
theorem tx110 : (Tryd.prog.info? 110).map (fun i => (i.zero.map (·.cells.size), i.size, i.bytes)) = some (some 1, 1, 8) := by kernel_rfl
theorem ts111 : (Tryd.prog.info? 111).map (·.size) = some 1 := by kernel_rfl
theorem ta111 : aggB Tryd.prog 111 = some false := by kernel_rfl
theorem ti111 : ifaceB Tryd.prog 111 = false := by kernel_rfl
theorem tz111 : ((Tryd.prog.info? 111).bind (·.zero)).map (·.cells) = some (List.toArray [.nilFunc]) := by kernel_rfl
theorem ty111 : ((Tryd.prog.info? 111).bind (·.zero)).isSome = true := by kernel_rfl
theorem tx111 : (Tryd.prog.info? 111).map (fun i => (i.zero.map (·.cells.size), i.size, i.bytes)) = some (some 1, 1, 8) := by kernel_rfl
theorem ts112 : (Tryd.prog.info? 112).map (·.size) = some 1 := by kernel_rfl
theorem ta112 : aggB Tryd.prog 112 = some false := by kernel_rfl
theorem ti112 : ifaceB Tryd.prog 112 = false := by kernel_rfl
theorem tz112 : ((Tryd.prog.info? 112).bind (·.zero)).map (·.cells) = some (List.toArray [.nilFunc]) := by kernel_rfl
theorem ty112 : ((Tryd.prog.info? 112).bind (·.zero)).isSome = true := by kernel_rfl
theorem tx112 : (Tryd.prog.info? 112).map (fun i => (i.zero.map (·.cells.size), i.size, i.bytes)) = some (some 1, 1, 8) := by kernel_rfl
theorem ts113 : (Tryd.prog.info? 113).map (·.size) = some 1 := by kernel_rfl
theorem ta113 : aggB Tryd.prog 113 = some false := by kernel_rfl
theorem ti113 : ifaceB Tryd.prog 113 = false := by kernel_rfl
theorem tz113 : ((Tryd.prog.info? 113).bind (·.zero)).map (·.cells) = some (List.toArray [.nilFunc]) := by kernel_rfl
theorem ty113 : ((Tryd.prog.info? 113).bind (·.zero)).isSome = true := by kernel_rfl
theorem tx113 : (Tryd.prog.info? 113).map (fun i => (i.zero.map (·.cells.size), i.size, i.bytes)) = some (some 1, 1, 8) := by kernel_rfl
theorem ts114 : (Tryd.prog.info? 114).map (·.size) = some 1 := by kernel_rfl
theorem ta114 : aggB Tryd.prog 114 = some false := by kernel_rfl
theorem ti114 : ifaceB Tryd.prog 114 = false := by kernel_rfl
theorem tz114 : ((Tryd.prog.info? 114).bind (·.zero)).map (·.cells) = some (List.toArray [.nilFunc]) := by kernel_rfl
theorem ty114 : ((Tryd.prog.info? 114).bind (·.zero)).isSome = true := by kernel_rfl
theorem tx114 : (Tryd.prog.info? 114).map (fun i => (i.zero.map (·.cells.size), i.size, i.bytes)) = some (some 1, 1, 8) := by kernel_rfl
theorem ts115 : (Tryd.prog.info? 115).map (·.size) = some 1 := by kernel_rfl
theorem ta115 : aggB Tryd.prog 115 = some false := by kernel_rfl
theorem ti115 : ifaceB Tryd.prog 115 = false := by kernel_rfl
theorem tz115 : ((Tryd.prog.info? 115).bind (·.zero)).map (·.cells) = some (List.toArray [.nilFunc]) := by kernel_rfl
theorem ty115 : ((Tryd.prog.info? 115).bind (·.zero)).isSome = true := by kernel_rfl
theorem tx115 : (Tryd.prog.info? 115).map (fun i => (i.zero.map (·.cells.size), i.size, i.bytes)) = some (some 1, 1, 8) := by kernel_rfl
theorem ts116 : (Tryd.prog.info? 116).map (·.size) = some 1 := by kernel_rfl
theorem ta116 : aggB Tryd.prog 116 = some false := by kernel_rfl
theorem ts117 : (Tryd.prog.info? 117).map (·.size) = some 1 := by kernel_rfl
theorem ta117 : aggB Tryd.prog 117 = some false := by kernel_rfl
theorem ti117 : ifaceB Tryd.prog 117 = false := by kernel_rfl
theorem tz117 : ((Tryd.prog.info? 117).bind (·.zero)).map (·.cells) = some (List.toArray [.nilFunc]) := by kernel_rfl
theorem ty117 : ((Tryd.prog.info? 117).bind (·.zero)).isSome = true := by kernel_rfl
theorem tx117 : (Tryd.prog.info? 117).map (fun i => (i.zero.map (·.cells.size), i.size, i.bytes)) = some (some 1, 1, 8) := by kernel_rfl
theorem ts118 : (Tryd.prog.info? 118).map (·.size) = some 2 := by kernel_rfl
theorem ta118 : aggB Tryd.prog 118 = some true := by kernel_rfl
theorem ti118 : ifaceB Tryd.prog 118 = false := by kernel_rfl
theorem tz118 : ((Tryd.prog.info? 118).bind (·.zero)).map (·.cells) = some (List.toArray [.slice none 0 0, .int .i64 0]) := by kernel_rfl
theorem ty118 : ((Tryd.prog.info? 118).bind (·.zero)).isSome = true := by kernel_rfl
theorem tx118 : (Tryd.prog.info? 118).map (fun i => (i.zero.map (·.cells.size), i.size, i.bytes)) = some (some 2, 2, 32) := by kernel_rfl
theorem tf118_0 : fOff Tryd.prog 118 0 = some (0, 22) := by kernel_rfl
theorem tf118_1 : fOff Tryd.prog 118 1 = some (1, 41) := by kernel_rfl
theorem ts119 : (Tryd.prog.info? 119).map (·.size) = some 2 := by kernel_rfl
theorem ta119 : aggB Tryd.prog 119 = some true := by kernel_rfl
theorem ti119 : ifaceB Tryd.prog 119 = false := by kernel_rfl
theorem tz119 : ((Tryd.prog.info? 119).bind (·.zero)).map (·.cells) = some (List.toArray [.slice none 0 0, .int .i64 0]) := by kernel_rfl
theorem ty119 : ((Tryd.prog.info? 119).bind (·.zero)).isSome = true := by kernel_rfl
theorem tx119 : (Tryd.prog.info? 119).map (fun i => (i.zero.map (·.cells.size), i.size, i.bytes)) = some (some 2, 2, 32) := by kernel_rfl
theorem tf119_0 : fOff Tryd.prog 119 0 = some (0, 22) := by kernel_rfl
theorem tf119_1 : fOff Tryd.prog 119 1 = some (1, 41) := by kernel_rfl
theorem ts120 : (Tryd.prog.info? 120).map (·.size) = some 1 := by kernel_rfl
theorem ta120 : aggB Tryd.prog 120 = some false := by kernel_rfl
theorem ti120 : ifaceB Tryd.prog 120 = false := by kernel_rfl
theorem tz120 : ((Tryd.prog.info? 120).bind (·.zero)).map (·.cells) = some (List.toArray [.nilFunc]) := by kernel_rfl
theorem ty120 : ((Tryd.prog.info? 120).bind (·.zero)).isSome = true := by kernel_rfl
theorem tx120 : (Tryd.prog.info? 120).map (fun i => (i.zero.map (·.cells.size), i.size, i.bytes)) = some (some 1, 1, 8) := by kernel_rfl
theorem ts121 : (Tryd.prog.info? 121).map (·.size) = some 1 := by kernel_rfl
theorem ta121 : aggB Tryd.prog 121 = some false := by kernel_rfl
theorem ti121 : ifaceB Tryd.prog 121 = false := by kernel_rfl
theorem tz121 : ((Tryd.prog.info? 121).bind (·.zero)).map (·.cells) = some (List.toArray [.nilFunc]) := by kernel_rfl
theorem ty121 : ((Tryd.prog.info? 121).bind (·.zero)).isSome = true := by kernel_rfl
theorem tx121 : (Tryd.prog.info? 121).map (fun i => (i.zero.map (·.cells.size), i.size, i.bytes)) = some (some 1, 1, 8) := by kernel_rfl
theorem ts122 : (Tryd.prog.info? 122).map (·.size) = some 1 := by kernel_rfl
theorem ta122 : aggB Tryd.prog 122 = some false := by kernel_rfl
theorem ti122 : ifaceB Tryd.prog 122 = false := by kernel_rfl
theorem tz122 : ((Tryd.prog.info? 122).bind (·.zero)).map (·.cells) = some (List.toArray [.nilFunc]) := by kernel_rfl
theorem ty122 : ((Tryd.prog.info? 122).bind (·.zero)).isSome = true := by kernel_rfl
theorem tx122 : (Tryd.prog.info? 122).map (fun i => (i.zero.map (·.cells.size), i.size, i.bytes)) = some (some 1, 1, 8) := by kernel_rfl
theorem ts123 : (Tryd.prog.info? 123).map (·.size) = some 1 := by kernel_rfl
theorem ta123 : aggB Tryd.prog 123 = some false := by kernel_rfl
theorem ti123 : ifaceB Tryd.prog 123 = false := by kernel_rfl
theorem tz123 : ((Tryd.prog.info? 123).bind (·.zero)).map (·.cells) = some (List.toArray [.nilFunc]) := by kernel_rfl
theorem ty123 : ((Tryd.prog.info? 123).bind (·.zero)).isSome = true := by kernel_rfl
theorem tx123 : (Tryd.prog.info? 123).map (fun i => (i.zero.map (·.cells.size), i.size, i.bytes)) = some (some 1, 1, 8) := by kernel_rfl
theorem ts124 : (Tryd.prog.info? 124).map (·.size) = some 1 := by kernel_rfl
theorem ta124 : aggB Tryd.prog 124 = some false := by kernel_rfl
theorem ti124 : ifaceB Tryd.prog 124 = false := by kernel_rfl
theorem tz124 : ((Tryd.prog.info? 124).bind (·.zero)).map (·.cells) = some (List.toArray [.nilFunc]) := by kernel_rfl
theorem ty124 : ((Tryd.prog.info? 124).bind (·.zero)).isSome = true := by kernel_rfl
theorem tx124 : (Tryd.prog.info? 124).map (fun i => (i.zero.map (·.cells.size), i.size, i.bytes)) = some (some 1, 1, 8) := by kernel_rfl
theorem ts125 : (Tryd.prog.info? 125).map (·.size) = some 3 := by kernel_rfl
theorem ta125 : aggB Tryd.prog 125 = some true := by kernel_rfl
theorem ti125 : ifaceB Tryd.prog 125 = false := by kernel_rfl
theorem tz125 : ((Tryd.prog.info? 125).bind (·.zero)).map (·.cells) = some (List.toArray [.int .u8 0, .int .i64 0, .int .u64 0]) := by kernel_rfl
theorem ty125 : ((Tryd.prog.info? 125).bind (·.zero)).isSome = true := by kernel_rfl
theorem tx125 : (Tryd.prog.info? 125).map (fun i => (i.zero.map (·.cells.size), i.size, i.bytes)) = some (some 3, 3, 24) := by kernel_rfl
theorem tf125_0 : fOff Tryd.prog 125 0 = some (0, 5) := by kernel_rfl
theorem tf125_1 : fOff Tryd.prog 125 1 = some (1, 3) := by kernel_rfl
theorem tf125_2 : fOff Tryd.prog 125 2 = some (2, 66) := by kernel_rfl
theorem ts126 : (Tryd.prog.info? 126).map (·.size) = some 3 := by kernel_rfl
theorem ta126 : aggB Tryd.prog 126 = some true := by kernel_rfl
theorem ti126 : ifaceB Tryd.prog 126 = false := by kernel_rfl
theorem tz126 : ((Tryd.prog.info? 126).bind (·.zero)).map (·.cells) = some (List.toArray [.int .u8 0, .int .i64 0, .int .u64 0]) := by kernel_rfl
theorem ty126 : ((Tryd.prog.info? 126).bind (·.zero)).isSome = true := by kernel_rfl
theorem tx126 : (Tryd.prog.info? 126).map (fun i => (i.zero.map (·.cells.size), i.size, i.bytes)) = some (some 3, 3, 24) := by kernel_rfl
theorem tf126_0 : fOff Tryd.prog 126 0 = some (0, 5) := by kernel_rfl
theorem tf126_1 : fOff Tryd.prog 126 1 = some (1, 3) := by kernel_rfl
theorem tf126_2 : fOff Tryd.prog 126 2 = some (2, 66) := by kernel_rfl
theorem tu127 : Tryd.prog.underlying 127 = some (.array 3 126) := by kernel_rfl
theorem ts127 : (Tryd.prog.info? 127).map (·.size) = some 9 := by kernel_rfl
theorem ta127 : aggB Tryd.prog 127 = some true := by kernel_rfl
theorem ti127 : ifaceB Tryd.prog 127 = false := by kernel_rfl
theorem tz127 : ((Tryd.prog.info? 127).bind (·.zero)).map (·.cells) = some (List.toArray [.int .u8 0, .int .i64 0, .int .u64 0, .int .u8 0, .int .i64 0, .int .u64 0, .int .u8 0, .int .i64 0, .int .u64 0]) := by kernel_rfl
theorem ty127 : ((Tryd.prog.info? 127).bind (·.zero)).isSome = true := by kernel_rfl
theorem tx127 : (Tryd.prog.info? 127).map (fun i => (i.zero.map (·.cells.size), i.size, i.bytes)) = some (some 9, 9, 72) := by kernel_rfl
theorem ts128 : (Tryd.prog.info? 128).map (·.size) = some 1 := by kernel_rfl
theorem ta128 : aggB Tryd.prog 128 = some false := by kernel_rfl
theorem ti128 : ifaceB Tryd.prog 128 = false := by kernel_rfl
theorem tz128 : ((Tryd.prog.info? 128).bind (·.zero)).map (·.cells) = some (List.toArray [.nilFunc]) := by kernel_rfl
theorem ty128 : ((Tryd.prog.info? 128).bind (·.zero)).isSome = true := by kernel_rfl
theorem tx128 : (Tryd.prog.info? 128).map (fun i => (i.zero.map (·.cells.size), i.size, i.bytes)) = some (some 1, 1, 8) := by kernel_rfl
theorem tu129 : Tryd.prog.underlying 129 = some (.slice 126) := by kernel_rfl
theorem ts129 : (Tryd.prog.info? 129).map (·.size) = some 1 := by kernel_rfl
theorem ta129 : aggB Tryd.prog 129 = some false := by kernel_rfl
theorem ti129 : ifaceB Tryd.prog 129 = false := by kernel_rfl
theorem tz129 : ((Tryd.prog.info? 129).bind (·.zero)).map (·.cells) = some (List.toArray [.slice none 0 0]) := by kernel_rfl
theorem ty129 : ((Tryd.prog.info? 129).bind (·.zero)).isSome = true := by kernel_rfl
theorem tx129 : (Tryd.prog.info? 129).map (fun i => (i.zero.map (·.cells.size), i.size, i.bytes)) = some (some 1, 1, 24) := by kernel_rfl
theorem ts130 : (Tryd.prog.info? 130).map (·.size) = some 1 := by kernel_rfl
theorem ta130 : aggB Tryd.prog 130 = some false := by kernel_rfl
theorem ti130 : ifaceB Tryd.prog 130 = false := by kernel_rfl
theorem tz130 : ((Tryd.prog.info? 130).bind (·.zero)).map (·.cells) = some (List.toArray [.nilFunc]) := by kernel_rfl
theorem ty130 : ((Tryd.prog.info? 130).bind (·.zero)).isSome = true := by kernel_rfl
theorem tx130 : (Tryd.prog.info? 130).map (fun i => (i.zero.map (·.cells.size), i.size, i.bytes)) = some (some 1, 1, 8) := by kernel_rfl
theorem ts131 : (Tryd.prog.info? 131).map (·.size) = some 1 := by kernel_rfl
theorem ta131 : aggB Tryd.prog 131 = some false := by kernel_rfl
theorem ti131 : ifaceB Tryd.prog 131 = false := by kernel_rfl
theorem tz131 : ((Tryd.prog.info? 131).bind (·.zero)).map (·.cells) = some (List.toArray [.pointer none]) := by kernel_rfl
theorem ty131 : ((Tryd.prog.info? 131).bind (·.zero)).isSome = true := by kernel_rfl
theorem tx131 : (Tryd.prog.info? 131).map (fun i => (i.zero.map (·.cells.size), i.size, i.bytes)) = some (some 1, 1, 8) := by kernel_rfl
theorem ts132 : (Tryd.prog.info? 132).map (·.size) = some 1 := by kernel_rfl
theorem ta132 : aggB Tryd.prog 132 = some false := by kernel_rfl
theorem ti132 : ifaceB Tryd.prog 132 = false := by kernel_rfl
theorem tz132 : ((Tryd.prog.info? 132).bind (·.zero)).map (·.cells) = some (List.toArray [.nilFunc]) := by kernel_rfl
theorem ty132 : ((Tryd.prog.info? 132).bind (·.zero)).isSome = true := by kernel_rfl
theorem tx132 : (Tryd.prog.info? 132).map (fun i => (i.zero.map (·.cells.size), i.size, i.bytes)) = some (some 1, 1, 8) := by kernel_rfl
theorem tu133 : Tryd.prog.underlying 133 = some (.array 2 26) := by kernel_rfl
theorem ts133 : (Tryd.prog.info? 133).map (·.size) = some 2 := by kernel_rfl
theorem ta133 : aggB Tryd.prog 133 = some true := by kernel_rfl
theorem ti133 : ifaceB Tryd.prog 133 = false := by kernel_rfl
theorem tz133 : ((Tryd.prog.info? 133).bind (·.zero)).map (·.cells) = some (List.toArray [.int .u32 0, .int .u32 0]) := by kernel_rfl
theorem ty133 : ((Tryd.prog.info? 133).bind (·.zero)).isSome = true := by kernel_rfl
theorem tx133 : (Tryd.prog.info? 133).map (fun i => (i.zero.map (·.cells.size), i.size, i.bytes)) = some (some 2, 2, 8) := by kernel_rfl
theorem ts134 : (Tryd.prog.info? 134).map (·.size) = some 1 := by kernel_rfl
theorem ta134 : aggB Tryd.prog 134 = some false := by kernel_rfl
theorem ti134 : ifaceB Tryd.prog 134 = false := by kernel_rfl
theorem tz134 : ((Tryd.prog.info? 134).bind (·.zero)).map (·.cells) = some (List.toArray [.nilFunc]) := by kernel_rfl
theorem ty134 : ((Tryd.prog.info? 134).bind (·.zero)).isSome = true := by kernel_rfl
theorem tx134 : (Tryd.prog.info? 134).map (fun i => (i.zero.map (·.cells.size), i.size, i.bytes)) = some (some 1, 1, 8) := by kernel_rfl
theorem tu135 : Tryd.prog.underlying 135 = some (.slice 30) := by kernel_rfl
theorem ts135 : (Tryd.prog.info? 135).map (·.size) = some 1 := by kernel_rfl
theorem ta135 : aggB Tryd.prog 135 = some false := by kernel_rfl
theorem ti135 : ifaceB Tryd.prog 135 = false := by kernel_rfl
theorem tz135 : ((Tryd.prog.info? 135).bind (·.zero)).map (·.cells) = some (List.toArray [.slice none 0 0]) := by kernel_rfl
theorem ty135 : ((Tryd.prog.info? 135).bind (·.zero)).isSome = true := by kernel_rfl
theorem tx135 : (Tryd.prog.info? 135).map (fun i => (i.zero.map (·.cells.size), i.size, i.bytes)) = some (some 1, 1, 24) := by kernel_rfl
theorem ts136 : (Tryd.prog.info? 136).map (·.size) = some 1 := by kernel_rfl
theorem ta136 : aggB Tryd.prog 136 = some false := by kernel_rfl
theorem ti136 : ifaceB Tryd.prog 136 = false := by kernel_rfl
theorem tz136 : ((Tryd.prog.info? 136).bind (·.zero)).map (·.cells) = some (List.toArray [.nilFunc]) := by kernel_rfl
theorem ty136 : ((Tryd.prog.info? 136).bind (·.zero)).isSome = true := by kernel_rfl
theorem tx136 : (Tryd.prog.info? 136).map (fun i => (i.zero.map (·.cells.size), i.size, i.bytes)) = some (some 1, 1, 8) := by kernel_rfl
theorem ts137 : (Tryd.prog.info? 137).map (·.size) = some 1 := by kernel_rfl
theorem ta137 : aggB Tryd.prog 137 = some false := by kernel_rfl
theorem ti137 : ifaceB Tryd.prog 137 = false := by kernel_rfl
theorem tz137 : ((Tryd.prog.info? 137).bind (·.zero)).map (·.cells) = some (List.toArray [.nilFunc]) := by kernel_rfl
theorem ty137 : ((Tryd.prog.info? 137).bind (·.zero)).isSome = true := by kernel_rfl
theorem tx137 : (Tryd.prog.info? 137).map (fun i => (i.zero.map (·.cells.size), i.size, i.bytes)) = some (some 1, 1, 8) := by kernel_rfl
theorem ts138 : (Tryd.prog.info? 138).map (·.size) = some 1 := by kernel_rfl
theorem ta138 : aggB Tryd.prog 138 = some true := by kernel_rfl
theorem ti138 : ifaceB Tryd.prog 138 = false := by kernel_rfl
theorem tz138 : ((Tryd.prog.info? 138).bind (·.zero)).map (·.cells) = some (List.toArray [.int .i64 0]) := by kernel_rfl
theorem ty138 : ((Tryd.prog.info? 138).bind (·.zero)).isSome = true := by kernel_rfl
theorem tx138 : (Tryd.prog.info? 138).map (fun i => (i.zero.map (·.cells.size), i.size, i.bytes)) = some (some 1, 1, 8) := by kernel_rfl
theorem tf138_0 : fOff Tryd.prog 138 0 = some (0, 41) := by kernel_rfl
theorem ts139 : (Tryd.prog.info? 139).map (·.size) = some 1 := by kernel_rfl
theorem ta139 : aggB Tryd.prog 139 = some true := by kernel_rfl
theorem ti139 : ifaceB Tryd.prog 139 = false := by kernel_rfl
theorem tz139 : ((Tryd.prog.info? 139).bind (·.zero)).map (·.cells) = some (List.toArray [.int .i64 0]) := by kernel_rfl
theorem ty139 : ((Tryd.prog.info? 139).bind (·.zero)).isSome = true := by kernel_rfl
theorem tx139 : (Tryd.prog.info? 139).map (fun i => (i.zero.map (·.cells.size), i.size, i.bytes)) = some (some 1, 1, 8) := by kernel_rfl
theorem tf139_0 : fOff Tryd.prog 139 0 = some (0, 41) := by kernel_rfl
theorem ts141 : (Tryd.prog.info? 141).map (·.size) = some 1 := by kernel_rfl
theorem ta141 : aggB Tryd.prog 141 = some false := by kernel_rfl
theorem ti141 : ifaceB Tryd.prog 141 = false := by kernel_rfl
theorem tz141 : ((Tryd.prog.info? 141).bind (·.zero)).map (·.cells) = some (List.toArray [.nilFunc]) := by kernel_rfl
theorem ty141 : ((Tryd.prog.info? 141).bind (·.zero)).isSome = true := by kernel_rfl
theorem tx141 : (Tryd.prog.info? 141).map (fun i => (i.zero.map (·.cells.size), i.size, i.bytes)) = some (some 1, 1, 8) := by kernel_rfl
theorem ts142 : (Tryd.prog.info? 142).map (·.size) = some 1 := by kernel_rfl
theorem ta142 : aggB Tryd.prog 142 = some false := by kernel_rfl
theorem ti142 : ifaceB Tryd.prog 142 = false := by kernel_rfl
theorem tz142 : ((Tryd.prog.info? 142).bind (·.zero)).map (·.cells) = some (List.toArray [.nilFunc]) := by kernel_rfl
theorem ty142 : ((Tryd.prog.info? 142).bind (·.zero)).isSome = true := by kernel_rfl
theorem tx142 : (Tryd.prog.info? 142).map (fun i => (i.zero.map (·.cells.size), i.size, i.bytes)) = some (some 1, 1, 8) := by kernel_rfl
theorem ts143 : (Tryd.prog.info? 143).map (·.size) = some 1 := by kernel_rfl
theorem ta143 : aggB Tryd.prog 143 = some false := by kernel_rfl
theorem ti143 : ifaceB Tryd.prog 143 = false := by kernel_rfl
theorem tz143 : ((Tryd.prog.info? 143).bind (·.zero)).map (·.cells) = some (List.toArray [.nilFunc]) := by kernel_rfl
theorem ty143 : ((Tryd.prog.info? 143).bind (·.zero)).isSome = true := by kernel_rfl
theorem tx143 : (Tryd.prog.info? 143).map (fun i => (i.zero.map (·.cells.size), i.size, i.bytes)) = some (some 1, 1, 8) := by kernel_rfl
theorem ts144 : (Tryd.prog.info? 144).map (·.size) = some 1 := by kernel_rfl
theorem ta144 : aggB Tryd.prog 144 = some false := by kernel_rfl
theorem ti144 : ifaceB Tryd.prog 144 = false := by kernel_rfl
theorem tz144 : ((Tryd.prog.info? 144).bind (·.zero)).map (·.cells) = some (List.toArray [.nilFunc]) := by kernel_rfl
theorem ty144 : ((Tryd.prog.info? 144).bind (·.zero)).isSome = true := by kernel_rfl
theorem tx144 : (Tryd.prog.info? 144).map (fun i => (i.zero.map (·.cells.size), i.size, i.bytes)) = some (some 1, 1, 8) := by kernel_rfl
theorem ts145 : (Tryd.prog.info? 145).map (·.size) = some 1 := by kernel_rfl
theorem ta145 : aggB Tryd.prog 145 = some false := by kernel_rfl
theorem ti145 : ifaceB Tryd.prog 145 = false := by kernel_rfl
theorem tz145 : ((Tryd.prog.info? 145).bind (·.zero)).map (·.cells) = some (List.toArray [.nilFunc]) := by kernel_rfl
theorem ty145 : ((Tryd.prog.info? 145).bind (·.zero)).isSome = true := by kernel_rfl
theorem tx145 : (Tryd.prog.info? 145).map (fun i => (i.zero.map (·.cells.size), i.size, i.bytes)) = some (some 1, 1, 8) := by kernel_rfl
theorem ts146 : (Tryd.prog.info? 146).map (·.size) = some 1 := by kernel_rfl
theorem ta146 : aggB Tryd.prog 146 = some false := by kernel_rfl
theorem ti146 : ifaceB Tryd.prog 146 = false := by kernel_rfl
theorem tz146 : ((Tryd.prog.info? 146).bind (·.zero)).map (·.cells) = some (List.toArray [.nilFunc]) := by kernel_rfl
theorem ty146 : ((Tryd.prog.info? 146).bind (·.zero)).isSome = true := by kernel_rfl
theorem tx146 : (Tryd.prog.info? 146).map (fun i => (i.zero.map (·.cells.size), i.size, i.bytes)) = some (some 1, 1, 8) := by kernel_rfl
theorem ts147 : (Tryd.prog.info? 147).map (·.size) = some 1 := by kernel_rfl
theorem ta147 : aggB Tryd.prog 147 = some false := by kernel_rfl
theorem ti147 : ifaceB Tryd.prog 147 = false := by kernel_rfl
theorem tz147 : ((Tryd.prog.info? 147).bind (·.zero)).map (·.cells) = some (List.toArray [.nilFunc]) := by kernel_rfl
theorem ty147 : ((Tryd.prog.info? 147).bind (·.zero)).isSome = true := by kernel_rfl
theorem tx147 : (Tryd.prog.info? 147).map (fun i => (i.zero.map (·.cells.size), i.size, i.bytes)) = some (some 1, 1, 8) := by kernel_rfl
theorem tu148 : Tryd.prog.underlying 148 = some (.array 2 3) := by kernel_rfl
theorem ts148 : (Tryd.prog.info? 148).map (·.size) = some 2 := by kernel_rfl
theorem ta148 : aggB Tryd.prog 148 = some true := by kernel_rfl
theorem ti148 : ifaceB Tryd.prog 148 = false := by kernel_rfl
theorem tz148 : ((Tryd.prog.info? 148).bind (·.zero)).map (·.cells) = some (List.toArray [.int .i64 0, .int .i64 0]) := by kernel_rfl
theorem ty148 : ((Tryd.prog.info? 148).bind (·.zero)).isSome = true := by kernel_rfl
theorem tx148 : (Tryd.prog.info? 148).map (fun i => (i.zero.map (·.cells.size), i.size, i.bytes)) = some (some 2, 2, 16) := by kernel_rfl
theorem tu149 : Tryd.prog.underlying 149 = some (.array 2 148) := by kernel_rfl
theorem ts149 : (Tryd.prog.info? 149).map (·.size) = some 4 := by kernel_rfl
theorem ta149 : aggB Tryd.prog 149 = some true := by kernel_rfl
theorem ti149 : ifaceB Tryd.prog 149 = false := by kernel_rfl
theorem tz149 : ((Tryd.prog.info? 149).bind (·.zero)).map (·.cells) = some (List.toArray [.int .i64 0, .int .i64 0, .int .i64 0, .int .i64 0]) := by kernel_rfl
theorem ty149 : ((Tryd.prog.info? 149).bind (·.zero)).isSome = true := by kernel_rfl
theorem tx149 : (Tryd.prog.info? 149).map (fun i => (i.zero.map (·.cells.size), i.size, i.bytes)) = some (some 4, 4, 32) := by kernel_rfl
theorem ts150 : (Tryd.prog.info? 150).map (·.size) = some 1 := by kernel_rfl
theorem ta150 : aggB Tryd.prog 150 = some false := by kernel_rfl
theorem ti150 : ifaceB Tryd.prog 150 = false := by kernel_rfl
theorem tz150 : ((Tryd.prog.info? 150).bind (·.zero)).map (·.cells) = some (List.toArray [.nilFunc]) := by kernel_rfl
theorem ty150 : ((Tryd.prog.info? 150).bind (·.zero)).isSome = true := by kernel_rfl
theorem tx150 : (Tryd.prog.info? 150).map (fun i => (i.zero.map (·.cells.size), i.size, i.bytes)) = some (some 1, 1, 8) := by kernel_rfl
theorem ts151 : (Tryd.prog.info? 151).map (·.size) = some 1 := by kernel_rfl
theorem ta151 : aggB Tryd.prog 151 = some false := by kernel_rfl
theorem ti151 : ifaceB Tryd.prog 151 = false := by kernel_rfl
theorem tz151 : ((Tryd.prog.info? 151).bind (·.zero)).map (·.cells) = some (List.toArray [.nilFunc]) := by kernel_rfl
theorem ty151 : ((Tryd.prog.info? 151).bind (·.zero)).isSome = true := by kernel_rfl
theorem tx151 : (Tryd.prog.info? 151).map (fun i => (i.zero.map (·.cells.size), i.size, i.bytes)) = some (some 1, 1, 8) := by kernel_rfl
theorem ts152 : (Tryd.prog.info? 152).map (·.size) = some 1 := by kernel_rfl
theorem ta152 : aggB Tryd.prog 152 = some false := by kernel_rfl
theorem ti152 : ifaceB Tryd.prog 152 = false := by kernel_rfl
theorem tz152 : ((Tryd.prog.info? 152).bind (·.zero)).map (·.cells) = some (List.toArray [.nilFunc]) := by kernel_rfl
theorem ty152 : ((Tryd.prog.info? 152).bind (·.zero)).isSome = true := by kernel_rfl
theorem tx152 : (Tryd.prog.info? 152).map (fun i => (i.zero.map (·.cells.size), i.size, i.bytes)) = some (some 1, 1, 8) := by kernel_rfl
theorem ts153 : (Tryd.prog.info? 153).map (·.size) = some 1 := by kernel_rfl
theorem ta153 : aggB Tryd.prog 153 = some false := by kernel_rfl
theorem ti153 : ifaceB Tryd.prog 153 = false := by kernel_rfl
theorem tz153 : ((Tryd.prog.info? 153).bind (·.zero)).map (·.cells) = some (List.toArray [.nilFunc]) := by kernel_rfl
theorem ty153 : ((Tryd.prog.info? 153).bind (·.zero)).isSome = true := by kernel_rfl
theorem tx153 : (Tryd.prog.info? 153).map (fun i => (i.zero.map (·.cells.size), i.size, i.bytes)) = some (some 1, 1, 8) := by kernel_rfl
theorem ts161 : (Tryd.prog.info? 161).map (·.size) = some 1 := by kernel_rfl
theorem ta161 : aggB Tryd.prog 161 = some false := by kernel_rfl
theorem ti161 : ifaceB Tryd.prog 161 = false := by kernel_rfl
theorem tz161 : ((Tryd.prog.info? 161).bind (·.zero)).map (·.cells) = some (List.toArray [.nilFunc]) := by kernel_rfl
theorem ty161 : ((Tryd.prog.info? 161).bind (·.zero)).isSome = true := by kernel_rfl
theorem tx161 : (Tryd.prog.info? 161).map (fun i => (i.zero.map (·.cells.size), i.size, i.bytes)) = some (some 1, 1, 8) := by kernel_rfl
theorem ts162 : (Tryd.prog.info? 162).map (·.size) = some 1 := by kernel_rfl
theorem ta162 : aggB Tryd.prog 162 = some false := by kernel_rfl
theorem ti162 : ifaceB Tryd.prog 162 = false := by kernel_rfl
theorem tz162 : ((Tryd.prog.info? 162).bind (·.zero)).map (·.cells) = some (List.toArray [.pointer none]) := by kernel_rfl
theorem ty162 : ((Tryd.prog.info? 162).bind (·.zero)).isSome = true := by kernel_rfl
theorem tx162 : (Tryd.prog.info? 162).map (fun i => (i.zero.map (·.cells.size), i.size, i.bytes)) = some (some 1, 1, 8) := by kernel_rfl
theorem ts167 : (Tryd.prog.info? 167).map (·.size) = some 1 := by kernel_rfl
theorem ta167 : aggB Tryd.prog 167 = some false := by kernel_rfl
end Go.Proofs.YtdalmmkjmfpffaaDoor

namespace Go.Proofs.YtdalmmkjmfpffaaDoor
open Go Go.RowKit
attribute [local irreducible] wpList

theorem copyBytes {S : Nat → Prop} (v : Value) (l : List UInt8) (w : World) (ha : Bs w S v l) (hl : l.length ≤ 1000000000000) :
    Calls Tryd.prog 23 [v].toArray w (Ret (NewB 5 w l)) := by
  obtain ⟨A, c, rfl, hc, hc2, ha⟩ := ha.op
  refine k_enter (l := [_]) Tryd.func23 rfl rfl ?_
  have H := St.start nT w
  refine k_seq ?_
  refine k_region ?_
  refine s_run (w_none rfl) rfl (as_s rfl rfl) ?_
  refine l_nil ?_
  refine k_seq ?_
  refine k_region ?_
  refine s_run (w_none rfl) rfl (as_s rfl rfl) ?_
  refine l_nil ?_
  replace H := H.nilrow 5 1
  refine k_seq ?_
  refine k_seq ?_
  refine k_region ?_
  refine s_run (w_none rfl) rfl (as_i rfl rfl) ?_
  refine l_nil ?_
  refine k_block ?_
  refine k_loop 3 [] (fun mm sl W => ∃ k : Nat, ∃ B : Option Addr, ∃ d : Nat, l.length - k = mm ∧ sl = [(4, .int .i64 (k : Int)), (3, .slice B k d)] ∧ (k ≤ l.length) ∧ (k ≤ d ∧ d ≤ 9223372036854775807) ∧ St nT w W [Fact.row 5 1 (.slice B k d) k ((l.take k).map u8v)]) _ _ ⟨0, none, 0, rfl, rfl, Nat.zero_le _, ⟨Nat.le_refl _, by omega⟩, H⟩ ⟨rfl, rfl, trivial⟩ (fun mm sl ρv W hJ => ?_)
  clear H; obtain ⟨k, B, d, rfl, rfl, hk, hd, H⟩ := hJ
  refine k_one ?_
  refine k_seq ?_
  refine k_seq ?_
  refine k_region ?_
  refine s_run (w_none rfl) rfl (mv_i rfl rfl) ?_
  refine s_run (w_none rfl) rfl (mv_s rfl rfl) ?_
  refine s_run (w_none rfl) rfl (d_len rfl rfl tu22) ?_
  refine s_run (w_none rfl) rfl (d_lt rfl rfl rfl) ?_
  refine l_nil ?_
  refine k_cond rfl (fun hc8 => ?_) (fun hc8 => ?_)
  · first | (replace hc8 := of_decide_eq_true hc8) | simp at hc8
    refine k_skip ?_
    refine k_seq ?_
    refine k_block ?_
    have hlt : k + 1 ≤ l.length := by omega
    refine k_region ?_
    refine s_run (w_none rfl) rfl (mv_s rfl rfl) ?_
    refine s_run (w_none rfl) rfl (mv_s rfl rfl) ?_
    refine s_run (w_none rfl) rfl (mv_i rfl rfl) ?_
    refine s_run (w_none rfl) rfl (d_iaB rfl (H.rd ha) rfl rfl rfl (by omega) tu22 ts5) ?_
    refine s_run (w_none rfl) rfl (d_ldB rfl (H.rd ha) (l_get (by omega)) rfl ta5) ?_
    refine s_eff (e_bsl (xs := [.tmp 15]) (vals := [.int .u8 _]) (vs := [.int .u8 _]) (w_none rfl) rfl rfl rfl rfl rfl rfl tu22 ts5 ty5 rfl rfl rfl H ?_)
    clear H; intro g5_5 W H
    refine s_eff (e_app (w_none rfl) rfl rfl tu22 tx5 rfl rfl rfl H (rd_blk H.blk rfl) (rfl) (by omega) rfl ?_)
    clear H; intro A1 c1 W hc1 hd1 H
    replace H := H.drop
    refine s_run (w_none rfl) rfl (as_s rfl rfl) ?_
    refine l_nil ?_
    refine k_nil ?_
    refine b_end ?_
    refine k_region ?_
    refine s_run (w_none rfl) rfl (mv_i rfl rfl) ?_
    refine s_run (w_none rfl) rfl (d_add rfl rfl rfl (by omega)) ?_
    refine s_run (w_none rfl) rfl (as_i rfl rfl) ?_
    refine l_nil ?_
    refine k_nil ?_
    refine k_next ?_
    refine ⟨_, _, _, ?_, rfl, ?_, ?_, ⟨k + 1, A1, c1, rfl, rfl, hlt, ⟨hc1, hd1⟩, by rw [take_u8 hlt]; exact H⟩⟩
    · omega
    · repeat (first | ((with_reducible refine Eqo.updl _ Eqo.ovr ?_); exact rfl) | ((with_reducible refine Eqo.updl _ (Eqo.ovr2 ?_ ?_) ?_); rotate_left; exact rfl; exact rfl) | ((with_reducible refine Eqo.upd ?_ ?_); rotate_left; exact rfl))
    · refine ⟨?_, ?_, trivial⟩
      · exact vi (by omega)
      · exact rfl
  · first | (replace hc8 := of_decide_eq_false hc8) | simp at hc8
    refine k_exit ?_
    refine x_then (x_then ?_)
    refine x_hit ?_
    refine k_seq ?_
    obtain rfl : k = l.length := by omega
    rw [List.take_length] at H
    refine k_region ?_
    refine s_run (w_none rfl) rfl (mv_s rfl rfl) ?_
    refine s_run (w_none rfl) rfl (as_s rfl rfl) ?_
    refine l_nil ?_
    refine k_ret ?_
    repeat (first | refine r_then ?_ | refine r_blk ?_)
    refine q_ret (v := .slice _ _ _) rfl rfl ⟨_, rfl, B, d, rfl, hd.1, hd.2, ?_⟩
    exact H.give

theorem u8_eq {z : Int} {n : Nat} (h : z = n) : IntKind.u8.wrap z = ((UInt8.ofNat n).toNat : Int) := by subst h; rw [IntKind.wrap_u8]; simp
theorem eqb {a b : UInt8} : ((a.toNat : Int) == (b.toNat : Int)) = (a == b) := by
  rw [Bool.eq_iff_iff, beq_iff_eq, beq_iff_eq, Int.ofNat_inj, UInt8.toNat_inj]

theorem markBytes (i : Nat) (z : Int) (w : World) (hz : z = (i : Int)) (h1 : i ≤ 1000000000000000) :
    Calls Tryd.prog 73 [.int .i64 z].toArray w (Ret (Is w (u8v (UInt8.ofNat (201 + 7 * i))))) := by
  subst hz
  refine k_enter (l := [_]) Tryd.func73 rfl rfl ?_
  have H := St.start nT w
  refine k_seq ?_
  refine k_region ?_
  refine s_run (w_none rfl) rfl (as_i rfl rfl) ?_
  refine l_nil ?_
  refine k_seq ?_
  refine k_region ?_
  refine s_run (w_none rfl) rfl (mv_i rfl rfl) ?_
  refine s_run (w_none rfl) rfl (d_mul rfl rfl rfl (by omega)) ?_
  refine s_run (w_none rfl) rfl (d_add rfl rfl rfl (by omega)) ?_
  refine s_run (w_none rfl) rfl (d_conv rfl rfl (by rw [tu3]; rfl) tu5 (u8_eq (n := 201 + 7 * i) (by omega))) ?_
  refine s_run (w_none rfl) rfl (as_i rfl rfl) ?_
  refine l_nil ?_
  refine k_ret ?_
  repeat (first | refine r_then ?_ | refine r_blk ?_)
  exact q_ret (v := .int _ _) rfl rfl ⟨_, rfl, rfl, Below.refl _ _⟩

/-- The first k marks. -/
def marks (k : Nat) : List UInt8 := (List.range k).map fun i => UInt8.ofNat (201 + 7 * i)
theorem marks_succ (k : Nat) : marks (k + 1) = marks k ++ [UInt8.ofNat (201 + 7 * k)] := by simp [marks, List.range_succ]
theorem marks_len (k : Nat) : (marks k).length = k := by simp [marks]
theorem map_snoc (a b : List UInt8) (x : UInt8) : (a ++ (b ++ [x])).map u8v = (a ++ b).map u8v ++ [u8v x] := by simp

theorem lentBytes {S : Nat → Prop} (v : Value) (l : List UInt8) (w : World) (ha : Bs w S v l) (hl : l.length ≤ 1000000000000) :
    Calls Tryd.prog 31 [v].toArray w (Ret (NewB 5 w (l ++ marks 5))) := by
  have ha0 := ha
  obtain ⟨A, c, rfl, _, _, _⟩ := ha.op
  refine k_enter (l := [_]) Tryd.func31 rfl rfl ?_
  have H := St.start nT w
  refine k_seq ?_
  refine k_region ?_
  refine s_run (w_none rfl) rfl (as_s rfl rfl) ?_
  refine l_nil ?_
  refine k_seq ?_
  refine k_region ?_
  refine s_run (w_none rfl) rfl (mv_s rfl rfl) ?_
  refine s_eff (e_call (w_none rfl) rfl rfl Tryd.func23 rfl rfl rfl (copyBytes _ l _ (H.bs ha0) hl) ?_)
  rintro _ W ⟨A1, c1, rfl, hc1, hd1, hn⟩
  replace H := H.new hn
  clear hn
  refine s_run (w_none rfl) rfl (as_s rfl rfl) ?_
  refine l_nil ?_
  refine k_seq ?_
  refine k_seq ?_
  refine k_region ?_
  refine s_run (w_none rfl) rfl (as_i rfl rfl) ?_
  refine l_nil ?_
  refine k_block ?_
  refine k_loop 7 [3, 4] (fun mm sl W => ∃ k : Nat, ∃ B : Option Addr, ∃ d : Nat, 5 - k = mm ∧ sl = [(4, .int .i64 (k : Int)), (3, .slice B (l.length + k) d)] ∧ (k ≤ 5) ∧ (l.length + k ≤ d ∧ d ≤ 9223372036854775807) ∧ St nT w W [Fact.row 5 1 (.slice B (l.length + k) d) (l.length + k) ((l ++ marks k).map u8v)]) _ _ ⟨0, A1, c1, rfl, rfl, by omega, ⟨hc1, hd1⟩, by rw [show marks 0 = [] from rfl, List.append_nil]; exact H⟩ ⟨rfl, rfl, trivial⟩ (fun mm sl ρv W hJ => ?_)
  clear H; obtain ⟨k, B, d, rfl, rfl, hk, hd, H⟩ := hJ
  refine k_one ?_
  refine k_seq ?_
  refine k_seq ?_
  refine k_region ?_
  refine s_run (w_none rfl) rfl (mv_i rfl rfl) ?_
  refine s_run (w_none rfl) rfl (d_lt rfl rfl rfl) ?_
  refine l_nil ?_
  refine k_cond rfl (fun hc8 => ?_) (fun hc8 => ?_)
  · first | (replace hc8 := of_decide_eq_true hc8) | simp at hc8
    refine k_skip ?_
    refine k_seq ?_
    refine k_block ?_
    refine k_region ?_
    refine s_run (w_none rfl) rfl (mv_s rfl rfl) ?_
    refine s_run (w_none rfl) rfl (mv_i rfl rfl) ?_
    refine s_eff (e_call (w_none rfl) rfl rfl Tryd.func73 rfl rfl rfl (markBytes k _ _ rfl (by omega)) ?_)
    rintro _ W ⟨rfl, hb⟩
    replace H := H.below hb
    clear hb
    refine s_eff (e_bsl (xs := [.tmp 13]) (vals := [.int .u8 _]) (vs := [.int .u8 _]) (w_none rfl) rfl rfl rfl rfl rfl rfl tu22 ts5 ty5 rfl rfl rfl H ?_)
    clear H; intro g5_3 W H
    refine s_eff (e_app (w_none rfl) rfl rfl tu22 tx5 rfl rfl rfl H (rd_blk H.blk rfl) (rfl) (by omega) rfl ?_)
    clear H; intro A2 c2 W hc2 hd2 H
    replace H := H.drop
    refine s_run (w_none rfl) rfl (as_s rfl rfl) ?_
    refine l_nil ?_
    refine k_nil ?_
    refine b_end ?_
    refine k_region ?_
    refine s_run (w_none rfl) rfl (mv_i rfl rfl) ?_
    refine s_run (w_none rfl) rfl (d_add rfl rfl rfl (by omega)) ?_
    refine s_run (w_none rfl) rfl (as_i rfl rfl) ?_
    refine l_nil ?_
    refine k_nil ?_
    refine k_next ?_
    refine ⟨_, _, _, ?_, rfl, ?_, ?_, ⟨k + 1, A2, c2, rfl, rfl, by omega, ⟨hc2, hd2⟩, by rw [marks_succ, map_snoc]; exact H⟩⟩
    · omega
    · repeat (first | ((with_reducible refine Eqo.updl _ Eqo.ovr ?_); exact rfl) | ((with_reducible refine Eqo.updl _ (Eqo.ovr2 ?_ ?_) ?_); rotate_left; exact rfl; exact rfl) | ((with_reducible refine Eqo.upd ?_ ?_); rotate_left; exact rfl))
    · refine ⟨?_, ?_, trivial⟩
      · exact vi (by omega)
      · exact rfl
  · first | (replace hc8 := of_decide_eq_false hc8) | simp at hc8
    refine k_exit ?_
    refine x_then (x_then ?_)
    refine x_hit ?_
    refine k_seq ?_
    obtain rfl : k = 5 := by omega
    refine k_region ?_
    refine s_run (w_none rfl) rfl (mv_s rfl rfl) ?_
    refine s_run (w_none rfl) rfl (as_s rfl rfl) ?_
    refine l_nil ?_
    refine k_ret ?_
    repeat (first | refine r_then ?_ | refine r_blk ?_)
    refine q_ret (v := .slice _ _ _) rfl rfl ⟨_, rfl, B, d, ?_⟩
    have e : (l ++ marks 5).length = l.length + 5 := by rw [List.length_append, marks_len]
    rw [e]
    exact ⟨rfl, hd.1, hd.2, H.give⟩

theorem sameBytes {S S' : Nat → Prop} (v u : Value) (l r : List UInt8) (w : World) (ha : Bs w S v l) (hb : Bs w S' u r) :
    Calls Tryd.prog 21 [v, u].toArray w (Ret (Is w (.bool (decide (l = r))))) := by
  have hn := ha.len
  have hm := hb.len
  obtain ⟨A, c, rfl, _, _, ha⟩ := ha.op
  obtain ⟨B, d, rfl, _, _, hb⟩ := hb.op
  refine k_enter (l := [_, _]) Tryd.func21 rfl rfl ?_
  have H := St.start nT w
  refine k_seq ?_
  refine k_region ?_
  refine s_run (w_none rfl) rfl (as_b rfl rfl) ?_
  refine l_nil ?_
  refine k_seq ?_
  refine k_seq ?_
  refine k_region ?_
  refine s_run (w_none rfl) rfl (mv_s rfl rfl) ?_
  refine s_run (w_none rfl) rfl (d_len rfl rfl tu22) ?_
  refine s_run (w_none rfl) rfl (mv_s rfl rfl) ?_
  refine s_run (w_none rfl) rfl (d_len rfl rfl tu22) ?_
  refine s_run (w_none rfl) rfl (d_ne rfl rfl rfl) ?_
  refine l_nil ?_
  refine k_cond rfl (fun hc10 => ?_) (fun hc10 => ?_)
  · simp at hc10
    refine k_seq ?_
    refine k_region ?_
    refine s_run (w_none rfl) rfl (as_b rfl rfl) ?_
    refine l_nil ?_
    refine k_ret ?_
    repeat (first | refine r_then ?_ | refine r_blk ?_)
    refine q_ret (v := .bool _) rfl rfl ⟨_, rfl, vb ?_, H.under⟩
    exact (decide_eq_false fun h => hc10 (by rw [h])).symm
  · simp at hc10
    refine k_skip ?_
    refine k_seq ?_
    refine k_seq ?_
    refine k_region ?_
    refine s_run (w_none rfl) rfl (as_i rfl rfl) ?_
    refine l_nil ?_
    refine k_block ?_
    refine k_loop 11 [4, 5] (fun mm sl W => ∃ k : Nat, l.length - k = mm ∧ sl = [(5, .int .i64 (k : Int))] ∧ (k ≤ l.length) ∧ (l.take k = r.take k) ∧ St nT w W []) _ _ ⟨0, rfl, rfl, Nat.zero_le _, rfl, H⟩ ⟨rfl, trivial⟩ (fun mm sl ρv W hJ => ?_)
    clear H; obtain ⟨k, rfl, rfl, hk, ht, H⟩ := hJ
    refine k_one ?_
    refine k_seq ?_
    refine k_seq ?_
    refine k_region ?_
    refine s_run (w_none rfl) rfl (mv_i rfl rfl) ?_
    refine s_run (w_none rfl) rfl (mv_s rfl rfl) ?_
    refine s_run (w_none rfl) rfl (d_len rfl rfl tu22) ?_
    refine s_run (w_none rfl) rfl (d_lt rfl rfl rfl) ?_
    refine l_nil ?_
    refine k_cond rfl (fun hc14 => ?_) (fun hc14 => ?_)
    · first | (replace hc14 := of_decide_eq_true hc14) | simp at hc14
      refine k_skip ?_
      refine k_seq ?_
      refine k_block ?_
      refine k_seq ?_
      refine k_draw [(0, true), (1, true), (2, true), (3, true), (4, true), (5, true), (6, true), (7, true), (8, true), (9, true)] _ (by kernel_rfl) (by kernel_rfl) H (.refl _) ?_
      clear H; intro W H
      refine c_run rfl (w_none rfl) rfl (fun W H => mv_s rfl rfl) ?_
      refine c_run rfl (w_none rfl) rfl (fun W H => mv_i rfl rfl) ?_
      refine c_run rfl (w_none rfl) rfl (fun W H => d_iaB rfl (H.rd ha) rfl rfl rfl (by omega) tu22 ts5) ?_
      refine c_run rfl (w_none rfl) rfl (fun W H => d_ldB rfl (H.rd ha) (l_get (by omega)) rfl ta5) ?_
      refine c_run rfl (w_none rfl) rfl (fun W H => mv_s rfl rfl) ?_
      refine c_run rfl (w_none rfl) rfl (fun W H => mv_i rfl rfl) ?_
      refine c_run rfl (w_none rfl) rfl (fun W H => d_iaB rfl (H.rd hb) rfl rfl rfl (by omega) tu22 ts5) ?_
      refine c_run rfl (w_none rfl) rfl (fun W H => d_ldB rfl (H.rd hb) (l_get (by omega)) rfl ta5) ?_
      refine c_run rfl (w_none rfl) rfl (fun W H => d_eq rfl rfl rfl) ?_
      refine c_run rfl (w_none rfl) rfl (fun W H => d_not rfl rfl) ?_
      refine c_nil ?_
      refine k_cond rfl (fun hc26 => ?_) (fun hc26 => ?_)
      · rw [eqb, Bool.not_eq_true', beq_eq_false_iff_ne] at hc26
        refine k_seq ?_
        refine k_region ?_
        refine s_run (w_none rfl) rfl (as_b rfl rfl) ?_
        refine l_nil ?_
        refine k_ret ?_
        repeat (first | refine r_then ?_ | refine r_blk ?_)
        refine q_ret (v := .bool _) rfl rfl ⟨_, rfl, vb ?_, H.under⟩
        exact (decide_eq_false fun h => hc26 (by rw [h])).symm
      · rw [eqb, Bool.not_eq_false', beq_iff_eq] at hc26
        refine k_skip ?_
        refine k_nil ?_
        refine b_end ?_
        refine k_region ?_
        refine s_run (w_none rfl) rfl (mv_i rfl rfl) ?_
        refine s_run (w_none rfl) rfl (d_add rfl rfl rfl (by omega)) ?_
        refine s_run (w_none rfl) rfl (as_i rfl rfl) ?_
        refine l_nil ?_
        refine k_nil ?_
        refine k_next ?_
        refine ⟨_, _, _, ?_, rfl, ?_, ?_, ⟨k + 1, rfl, rfl, by omega, by rw [List.take_add_one, List.take_add_one, ht, l_get (by omega), l_get (by omega), hc26], H⟩⟩
        · omega
        · repeat (first | ((with_reducible refine Eqo.updl _ Eqo.ovr ?_); exact rfl) | ((with_reducible refine Eqo.updl _ (Eqo.ovr2 ?_ ?_) ?_); rotate_left; exact rfl; exact rfl) | ((with_reducible refine Eqo.upd ?_ ?_); rotate_left; exact rfl))
        · refine ⟨?_, trivial⟩
          · exact vi (by omega)
    · first | (replace hc14 := of_decide_eq_false hc14) | simp at hc14
      refine k_exit ?_
      refine x_then (x_then ?_)
      refine x_hit ?_
      refine k_seq ?_
      refine k_region ?_
      refine s_run (w_none rfl) rfl (as_b rfl rfl) ?_
      refine l_nil ?_
      refine k_ret ?_
      repeat (first | refine r_then ?_ | refine r_blk ?_)
      refine q_ret (v := .bool _) rfl rfl ⟨_, rfl, vb ?_, H.under⟩
      rw [List.take_of_length_le (by omega), List.take_of_length_le (by omega)] at ht
      simp [ht]

def rowL (k : Nat) : List UInt8 := (List.range k).map fun i => UInt8.ofNat ((7 + i) % 251)
theorem rowL_succ (k : Nat) : rowL (k + 1) = rowL k ++ [UInt8.ofNat ((7 + k) % 251)] := by simp [rowL, List.range_succ]
theorem rowL_len (k : Nat) : (rowL k).length = k := by simp [rowL]
theorem row_any (n : Nat) (z : Int) (w : World) (hz : z = (n : Int)) (hn : n ≤ 1000000000) : Calls Tryd.prog 11 [.int .i64 z].toArray w (Ret (NewB 5 w (rowL n))) := by
  subst hz
  refine k_enter (l := [_]) Tryd.func11 rfl rfl ?_
  have H := St.start nT w
  refine k_seq ?_
  refine k_region ?_
  refine s_run (w_none rfl) rfl (as_s rfl rfl) ?_
  refine l_nil ?_
  refine k_seq ?_
  refine k_region ?_
  refine s_run (w_none rfl) rfl (as_s rfl rfl) ?_
  refine l_nil ?_
  replace H := H.nilrow 5 1
  refine k_seq ?_
  refine k_seq ?_
  refine k_region ?_
  refine s_run (w_none rfl) rfl (as_i rfl rfl) ?_
  refine l_nil ?_
  refine k_block ?_
  refine k_loop 3 [] (fun mm sl W => ∃ k : Nat, ∃ B : Option Addr, ∃ d : Nat, n - k = mm ∧ sl = [(4, .int .i64 (k : Int)), (3, .slice B k d)] ∧ (k ≤ n) ∧ (k ≤ d ∧ d ≤ 9223372036854775807) ∧ St nT w W [Fact.row 5 1 (.slice B k d) k ((rowL k).map u8v)]) _ _ ⟨0, none, 0, rfl, rfl, Nat.zero_le _, ⟨Nat.le_refl _, by omega⟩, H⟩ ⟨rfl, rfl, trivial⟩ (fun mm sl ρv W hJ => ?_)
  clear H; obtain ⟨k, B, d, rfl, rfl, hk, hd, H⟩ := hJ
  refine k_one ?_
  refine k_seq ?_
  refine k_seq ?_
  refine k_region ?_
  refine s_run (w_none rfl) rfl (mv_i rfl rfl) ?_
  refine s_run (w_none rfl) rfl (mv_i rfl rfl) ?_
  refine s_run (w_none rfl) rfl (d_lt rfl rfl rfl) ?_
  refine l_nil ?_
  refine k_cond rfl (fun hc7 => ?_) (fun hc7 => ?_)
  · first | (replace hc7 := of_decide_eq_true hc7) | simp at hc7
    refine k_skip ?_
    refine k_seq ?_
    refine k_block ?_
    refine k_region ?_
    refine s_run (w_none rfl) rfl (mv_s rfl rfl) ?_
    refine s_run (w_none rfl) rfl (mv_i rfl rfl) ?_
    refine s_run (w_none rfl) rfl (d_add rfl rfl rfl (by omega)) ?_
    refine s_run (w_none rfl) rfl (d_rem rfl rfl rfl (by omega)) ?_
    refine s_run (w_none rfl) rfl (d_conv rfl rfl (by rw [tu3]; rfl) tu5 (u8_eq (n := (7 + k) % 251) (by omega))) ?_
    refine s_eff (e_bsl (xs := [.tmp 14]) (vals := [.int .u8 _]) (vs := [.int .u8 _]) (w_none rfl) rfl rfl rfl rfl rfl rfl tu22 ts5 ty5 rfl rfl rfl H ?_)
    clear H; intro g5_5 W H
    refine s_eff (e_app (w_none rfl) rfl rfl tu22 tx5 rfl rfl rfl H (rd_blk H.blk rfl) (rfl) (by omega) rfl ?_)
    clear H; intro A1 c1 W hc1 hd1 H
    replace H := H.drop
    refine s_run (w_none rfl) rfl (as_s rfl rfl) ?_
    refine l_nil ?_
    refine k_nil ?_
    refine b_end ?_
    refine k_region ?_
    refine s_run (w_none rfl) rfl (mv_i rfl rfl) ?_
    refine s_run (w_none rfl) rfl (d_add rfl rfl rfl (by omega)) ?_
    refine s_run (w_none rfl) rfl (as_i rfl rfl) ?_
    refine l_nil ?_
    refine k_nil ?_
    refine k_next ?_
    refine ⟨_, _, _, ?_, rfl, ?_, ?_, ⟨k + 1, A1, c1, rfl, rfl, by omega, ⟨hc1, hd1⟩, by rw [rowL_succ, List.map_append]; exact H⟩⟩
    · omega
    · repeat (first | ((with_reducible refine Eqo.updl _ Eqo.ovr ?_); exact rfl) | ((with_reducible refine Eqo.updl _ (Eqo.ovr2 ?_ ?_) ?_); rotate_left; exact rfl; exact rfl) | ((with_reducible refine Eqo.upd ?_ ?_); rotate_left; exact rfl))
    · refine ⟨?_, ?_, trivial⟩
      · exact vi (by omega)
      · exact rfl
  · first | (replace hc7 := of_decide_eq_false hc7) | simp at hc7
    refine k_exit ?_
    refine x_then (x_then ?_)
    refine x_hit ?_
    refine k_seq ?_
    obtain rfl : k = n := by omega
    refine k_region ?_
    refine s_run (w_none rfl) rfl (mv_s rfl rfl) ?_
    refine s_run (w_none rfl) rfl (as_s rfl rfl) ?_
    refine l_nil ?_
    refine k_ret ?_
    repeat (first | refine r_then ?_ | refine r_blk ?_)
    refine q_ret (v := .slice _ _ _) rfl rfl ⟨_, rfl, B, d, ?_⟩
    rw [rowL_len]
    exact ⟨rfl, hd.1, hd.2, H.give⟩

def pick (v n : Int) : Int := if n < 1 then 0 else v % n
theorem tmod_bd (v n : Int) (hn : 1 ≤ n) : -n < v.tmod n ∧ v.tmod n < n ∧ (v.tmod n < 0 → v.tmod n + n = v % n) ∧ (0 ≤ v.tmod n → v.tmod n = v % n) := by
  have h1 := Int.mul_tdiv_add_tmod v n
  have h2 : v.tmod n < n := Int.tmod_lt_of_pos v (by omega)
  have h3 : -n < v.tmod n := by
    have := Int.tmod_lt_of_pos (-v) (show (0 : Int) < n by omega)
    rw [Int.neg_tmod] at this; omega
  have h4 : v % n = (v.tmod n) % n := by
    conv => lhs; rw [← h1]
    rw [Int.add_comm, Int.add_mul_emod_self_left]
  refine ⟨h3, h2, fun h => ?_, fun h => ?_⟩
  · rw [h4, ← Int.add_emod_right, Int.emod_eq_of_lt (by omega) (by omega)]
  · rw [h4, Int.emod_eq_of_lt h h2]
theorem pick_any (v n : Int) (w : World) (hn : -9223372036854775808 ≤ n ∧ n ≤ 9223372036854775807) : Calls Tryd.prog 22 [.int .i64 v, .int .i64 n].toArray w (Ret (Is w (.int .i64 (pick v n)))) := by
  refine k_enter (l := [_, _]) Tryd.func22 rfl rfl ?_
  have H := St.start nT w
  refine k_seq ?_
  refine k_region ?_
  refine s_run (w_none rfl) rfl (as_i rfl rfl) ?_
  refine l_nil ?_
  refine k_seq ?_
  refine k_seq ?_
  refine k_region ?_
  refine s_run (w_none rfl) rfl (mv_i rfl rfl) ?_
  refine s_run (w_none rfl) rfl (d_lt rfl rfl rfl) ?_
  refine l_nil ?_
  refine k_cond rfl (fun hc6 => ?_) (fun hc6 => ?_)
  · replace hc6 := of_decide_eq_true hc6
    refine k_seq ?_
    refine k_region ?_
    refine s_run (w_none rfl) rfl (as_i rfl rfl) ?_
    refine l_nil ?_
    refine k_ret ?_
    repeat (first | refine r_then ?_ | refine r_blk ?_)
    refine q_ret (v := .int _ _) rfl rfl ⟨_, rfl, vi ?_, H.under⟩
    rw [pick, if_pos hc6]
  · replace hc6 := of_decide_eq_false hc6
    refine k_skip ?_
    refine k_seq ?_
    refine k_region ?_
    refine s_run (w_none rfl) rfl (mv_i rfl rfl) ?_
    refine s_run (w_none rfl) rfl (mv_i rfl rfl) ?_
    refine s_run (w_none rfl) rfl (d_remT rfl rfl rfl (by omega)) ?_
    refine s_run (w_none rfl) rfl (as_i rfl rfl) ?_
    refine l_nil ?_
    have htm := tmod_bd v n (by omega)
    refine k_seq ?_
    refine k_seq ?_
    refine k_region ?_
    refine s_run (w_none rfl) rfl (mv_i rfl rfl) ?_
    refine s_run (w_none rfl) rfl (d_lt rfl rfl rfl) ?_
    refine l_nil ?_
    refine k_cond rfl (fun hc11 => ?_) (fun hc11 => ?_)
    · replace hc11 := of_decide_eq_true hc11
      refine k_region ?_
      refine s_run (w_none rfl) rfl (mv_i rfl rfl) ?_
      refine s_run (w_none rfl) rfl (mv_i rfl rfl) ?_
      refine s_run (w_none rfl) rfl (d_add rfl rfl rfl (by omega)) ?_
      refine s_run (w_none rfl) rfl (as_i rfl rfl) ?_
      refine l_nil ?_
      refine k_seq ?_
      refine k_region ?_
      refine s_run (w_none rfl) rfl (mv_i rfl rfl) ?_
      refine s_run (w_none rfl) rfl (as_i rfl rfl) ?_
      refine l_nil ?_
      refine k_ret ?_
      repeat (first | refine r_then ?_ | refine r_blk ?_)
      refine q_ret (v := .int _ _) rfl rfl ⟨_, rfl, vi ?_, H.under⟩
      rw [pick, if_neg hc6]
      exact htm.2.2.1 hc11
    · replace hc11 := of_decide_eq_false hc11
      refine k_skip ?_
      refine k_seq ?_
      refine k_region ?_
      refine s_run (w_none rfl) rfl (mv_i rfl rfl) ?_
      refine s_run (w_none rfl) rfl (as_i rfl rfl) ?_
      refine l_nil ?_
      refine k_ret ?_
      repeat (first | refine r_then ?_ | refine r_blk ?_)
      refine q_ret (v := .int _ _) rfl rfl ⟨_, rfl, vi ?_, H.under⟩
      rw [pick, if_neg hc6]
      exact htm.2.2.2 (by omega)
end Go.Proofs.YtdalmmkjmfpffaaDoor

namespace Go.Proofs.YtdalmmkjmfpffaaDoor
open Go Go.RowKit
attribute [local irreducible] wpList

theorem sl_eq {A : Option Addr} {m n c : Nat} (h : m = n) : Value.slice A m c = .slice A n c := by rw [h]
/-- pack's forms, as they lie. -/
def formsC : List Value := [.int .u8 253, .int .i64 2, .int .u64 253, .int .u8 254, .int .i64 4, .int .u64 65536, .int .u8 255, .int .i64 8, .int .u64 4294967296]

theorem grow_nil (q : Nat) (z : Int) (w : World) (hz : z = (q : Int)) (hq : q ≤ 1099511627776) :
    Calls Tryd.prog 109 [.slice none 0 0, .int .i64 z].toArray w (Ret fun v w' => ∃ A c, v = .slice A 0 c ∧ c ≤ 9223372036854775807 ∧ New w w' (Fact.row 5 1 (.slice A 0 c) 0 [])) := by
  subst hz
  refine k_enter (l := [_, _]) Tryd.func109 rfl rfl ?_
  have H := St.start nT w
  refine k_seq ?_
  refine k_region ?_
  refine s_run (w_none rfl) rfl (as_s rfl rfl) ?_
  refine l_nil ?_
  refine k_seq ?_
  refine k_seq ?_
  refine k_region ?_
  refine s_run (w_none rfl) rfl (mv_i rfl rfl) ?_
  refine s_run (w_none rfl) rfl (d_lt rfl rfl rfl) ?_
  refine l_nil ?_
  refine k_condF rfl (by first | (simp; done) | (simp; omega)) ?_
  refine k_skip ?_
  refine k_seq ?_
  refine k_seq ?_
  refine k_region ?_
  refine s_run (w_none rfl) rfl (mv_i rfl rfl) ?_
  refine s_run (w_none rfl) rfl (mv_s rfl rfl) ?_
  refine s_run (w_none rfl) rfl (d_cap rfl rfl tu22) ?_
  refine s_run (w_none rfl) rfl (mv_s rfl rfl) ?_
  refine s_run (w_none rfl) rfl (d_len rfl rfl tu22) ?_
  refine s_run (w_none rfl) rfl (d_sub rfl rfl rfl (by omega)) ?_
  refine s_run (w_none rfl) rfl (d_sub rfl rfl rfl (by omega)) ?_
  refine s_run (w_none rfl) rfl (as_i rfl rfl) ?_
  refine l_nil ?_
  refine k_seq ?_
  refine k_region ?_
  refine s_run (w_none rfl) rfl (mv_i rfl rfl) ?_
  refine s_run (w_none rfl) rfl (d_gt rfl rfl rfl) ?_
  refine l_nil ?_
  refine k_cond rfl (fun hc16 => ?_) (fun hc16 => ?_)
  · first | (replace hc16 := of_decide_eq_true hc16) | simp at hc16
    refine k_region ?_
    refine s_run (w_none rfl) rfl (mv_s rfl rfl) ?_
    refine s_run (w_none rfl) rfl (mv_s rfl rfl) ?_
    refine s_run (w_none rfl) rfl (d_cap rfl rfl tu22) ?_
    refine s_run (w_none rfl) rfl (d_cutP rfl rfl (h := 0) rfl (by omega) rfl tu22 ts5) ?_
    refine s_run (w_none rfl) rfl (mv_i rfl rfl) ?_
    refine s_eff (e_appz (w_none rfl) rfl rfl tu22 tu3 (by kernel_rfl) rfl rfl (q := q) (by omega) (by omega) (by omega) H ?_)
    clear H; intro A1 c1 W hc1 hd1 H
    refine s_run (w_none rfl) rfl (mv_s rfl rfl) ?_
    refine s_run (w_none rfl) rfl (d_len rfl rfl tu22) ?_
    have hs : A1.isSome = true := row_some (H.rowrd (A := A1)) (by omega)
    replace H := H.rowcut (q := 0) (Nat.zero_le _) hs
    rw [Nat.zero_mul, List.take_zero] at H
    refine s_run (w_none rfl) rfl (d_cutP rfl rfl (h := 0) rfl (by omega) rfl tu22 ts5) ?_
    refine s_run (w_none rfl) rfl (as_s rfl rfl) ?_
    refine l_nil ?_
    refine k_seq ?_
    refine k_region ?_
    refine s_run (w_none rfl) rfl (mv_s rfl rfl) ?_
    refine s_run (w_none rfl) rfl (as_s rfl rfl) ?_
    refine l_nil ?_
    refine k_ret ?_
    repeat (first | refine r_then ?_ | refine r_blk ?_)
    exact q_ret (v := .slice _ _ _) rfl rfl ⟨_, rfl, _, _, rfl, hd1, H.give⟩
  · first | (replace hc16 := of_decide_eq_false hc16) | simp at hc16
    refine k_skip ?_
    refine k_seq ?_
    refine k_region ?_
    refine s_run (w_none rfl) rfl (mv_s rfl rfl) ?_
    refine s_run (w_none rfl) rfl (as_s rfl rfl) ?_
    refine l_nil ?_
    refine k_ret ?_
    repeat (first | refine r_then ?_ | refine r_blk ?_)
    replace H := H.nilrow 5 1
    exact q_ret (v := .slice _ _ _) rfl rfl ⟨_, rfl, _, _, rfl, by omega, H.give⟩

theorem concat2 {S S1 S2 : Nat → Prop} {A B C : Option Addr} {n m c d e : Nat} {l r : List UInt8} (w : World) (hs : Rd w S 1 C 2 [.slice A n c, .slice B m d]) (ha : Rd w S1 1 A n (l.map u8v)) (hb : Rd w S2 1 B m (r.map u8v)) (hl : n + m ≤ 1000000000000) :
    Calls Tryd.prog 105 [.slice C 2 e].toArray w (Ret (NewB 5 w (l ++ r))) := by
  have hn : l.length = n := by simpa using ha.1
  have hm : r.length = m := by simpa using hb.1
  refine k_enter (l := [_]) Tryd.func105 rfl rfl ?_
  have H := St.start nT w
  refine k_seq ?_
  refine k_region ?_
  refine s_run (w_none rfl) rfl (as_s rfl rfl) ?_
  refine l_nil ?_
  refine k_seq ?_
  refine k_region ?_
  refine s_run (w_none rfl) rfl (as_i rfl rfl) ?_
  refine l_nil ?_
  refine k_seq ?_
  refine k_seq ?_
  refine k_region ?_
  refine s_run (w_none rfl) rfl (mv_s rfl rfl) ?_
  refine s_run (w_none rfl) rfl (d_len rfl rfl tu55) ?_
  refine s_run (w_none rfl) rfl (mv_i rfl rfl) ?_
  refine l_nil ?_
  refine k_block ?_
  refine k_unr (k_one ?_)
  refine k_seq ?_
  refine k_region ?_
  refine s_run (w_none rfl) rfl (d_lt rfl rfl rfl) ?_
  refine l_nil ?_
  refine k_seq ?_
  refine k_condT rfl (by first | (simp; done) | (simp; omega)) ?_
  refine k_skip ?_
  refine k_seq ?_
  refine k_block ?_
  refine k_seq ?_
  refine k_region ?_
  refine s_run (w_none rfl) rfl (d_iaS rfl (H.rd hs) rfl rfl (q := 0) rfl (by omega) tu55 ts22) ?_
  refine s_run (w_none rfl) rfl (d_ldR0 rfl (H.rd hs) rfl ta22 rfl) ?_
  refine s_run (w_none rfl) rfl (as_s rfl rfl) ?_
  refine l_nil ?_
  refine k_seq ?_
  refine k_region ?_
  refine s_run (w_none rfl) rfl (mv_i rfl rfl) ?_
  refine s_run (w_none rfl) rfl (mv_s rfl rfl) ?_
  refine s_run (w_none rfl) rfl (d_len rfl rfl tu22) ?_
  refine s_run (w_none rfl) rfl (d_add rfl rfl rfl (by omega)) ?_
  refine s_run (w_none rfl) rfl (as_i rfl rfl) ?_
  refine l_nil ?_
  refine k_seq ?_
  refine k_region ?_
  refine s_run (w_none rfl) rfl (mv_i rfl rfl) ?_
  refine s_run (w_none rfl) rfl (d_lt rfl rfl rfl) ?_
  refine l_nil ?_
  refine k_condF rfl (by first | (simp; done) | (simp; omega)) ?_
  refine k_skip ?_
  refine k_nil ?_
  refine b_end ?_
  refine k_region ?_
  refine s_run (w_none rfl) rfl (d_add rfl rfl rfl (by omega)) ?_
  refine s_run (w_none rfl) rfl (mv_i rfl rfl) ?_
  refine l_nil ?_
  refine k_nil ?_
  refine k_next (hd_of (k_one ?_))
  refine k_seq ?_
  refine k_region ?_
  refine s_run (w_none rfl) rfl (d_lt rfl rfl rfl) ?_
  refine l_nil ?_
  refine k_seq ?_
  refine k_condT rfl (by first | (simp; done) | (simp; omega)) ?_
  refine k_skip ?_
  refine k_seq ?_
  refine k_block ?_
  refine k_seq ?_
  refine k_region ?_
  refine s_run (w_none rfl) rfl (d_iaS rfl (H.rd hs) rfl rfl (q := 1) rfl (by omega) tu55 ts22) ?_
  refine s_run (w_none rfl) rfl (d_ldR0 rfl (H.rd hs) rfl ta22 rfl) ?_
  refine s_run (w_none rfl) rfl (as_s rfl rfl) ?_
  refine l_nil ?_
  refine k_seq ?_
  refine k_region ?_
  refine s_run (w_none rfl) rfl (mv_i rfl rfl) ?_
  refine s_run (w_none rfl) rfl (mv_s rfl rfl) ?_
  refine s_run (w_none rfl) rfl (d_len rfl rfl tu22) ?_
  refine s_run (w_none rfl) rfl (d_add rfl rfl rfl (by omega)) ?_
  refine s_run (w_none rfl) rfl (as_i rfl rfl) ?_
  refine l_nil ?_
  refine k_seq ?_
  refine k_region ?_
  refine s_run (w_none rfl) rfl (mv_i rfl rfl) ?_
  refine s_run (w_none rfl) rfl (d_lt rfl rfl rfl) ?_
  refine l_nil ?_
  refine k_condF rfl (by first | (simp; done) | (simp; omega)) ?_
  refine k_skip ?_
  refine k_nil ?_
  refine b_end ?_
  refine k_region ?_
  refine s_run (w_none rfl) rfl (d_add rfl rfl rfl (by omega)) ?_
  refine s_run (w_none rfl) rfl (mv_i rfl rfl) ?_
  refine l_nil ?_
  refine k_nil ?_
  refine k_next (hd_of (k_one ?_))
  refine k_seq ?_
  refine k_region ?_
  refine s_run (w_none rfl) rfl (d_lt rfl rfl rfl) ?_
  refine l_nil ?_
  refine k_seq ?_
  refine k_condF rfl (by first | (simp; done) | (simp; omega)) ?_
  refine k_exit ?_
  refine x_then (x_then ?_)
  refine x_hit ?_
  refine k_seq ?_
  refine k_region ?_
  refine s_run (w_none rfl) rfl (mv_i rfl rfl) ?_
  refine s_eff (e_call (w_none rfl) rfl rfl Tryd.func109 rfl rfl rfl (grow_nil (n + m) _ _ (by omega) (by omega)) ?_)
  rintro _ W ⟨A1, c1, rfl, hd1, hn1⟩
  replace H := H.new hn1
  clear hn1
  refine s_run (w_none rfl) rfl (as_s rfl rfl) ?_
  refine l_nil ?_
  refine k_seq ?_
  refine k_seq ?_
  refine k_region ?_
  refine s_run (w_none rfl) rfl (mv_s rfl rfl) ?_
  refine s_run (w_none rfl) rfl (d_len rfl rfl tu55) ?_
  refine s_run (w_none rfl) rfl (mv_i rfl rfl) ?_
  refine l_nil ?_
  refine k_block ?_
  refine k_unr (k_one ?_)
  refine k_seq ?_
  refine k_region ?_
  refine s_run (w_none rfl) rfl (d_lt rfl rfl rfl) ?_
  refine l_nil ?_
  refine k_seq ?_
  refine k_condT rfl (by first | (simp; done) | (simp; omega)) ?_
  refine k_skip ?_
  refine k_seq ?_
  refine k_block ?_
  refine k_seq ?_
  refine k_region ?_
  refine s_run (w_none rfl) rfl (d_iaS rfl (H.rd hs) rfl rfl (q := 0) rfl (by omega) tu55 ts22) ?_
  refine s_run (w_none rfl) rfl (d_ldR0 rfl (H.rd hs) rfl ta22 rfl) ?_
  refine s_run (w_none rfl) rfl (as_s rfl rfl) ?_
  refine l_nil ?_
  refine k_region ?_
  refine s_run (w_none rfl) rfl (mv_s rfl rfl) ?_
  refine s_run (w_none rfl) rfl (mv_s rfl rfl) ?_
  refine s_eff (e_app (w_none rfl) rfl rfl tu22 tx5 rfl rfl rfl H (H.rd ha) (all_u8L _) (by omega) rfl ?_)
  clear H; intro A2 c2 W hc2 hd2 H
  refine s_run (w_none rfl) rfl (as_s rfl rfl) ?_
  refine l_nil ?_
  refine k_nil ?_
  refine b_end ?_
  refine k_region ?_
  refine s_run (w_none rfl) rfl (d_add rfl rfl rfl (by omega)) ?_
  refine s_run (w_none rfl) rfl (mv_i rfl rfl) ?_
  refine l_nil ?_
  refine k_nil ?_
  refine k_next (hd_of (k_one ?_))
  refine k_seq ?_
  refine k_region ?_
  refine s_run (w_none rfl) rfl (d_lt rfl rfl rfl) ?_
  refine l_nil ?_
  refine k_seq ?_
  refine k_condT rfl (by first | (simp; done) | (simp; omega)) ?_
  refine k_skip ?_
  refine k_seq ?_
  refine k_block ?_
  refine k_seq ?_
  refine k_region ?_
  refine s_run (w_none rfl) rfl (d_iaS rfl (H.rd hs) rfl rfl (q := 1) rfl (by omega) tu55 ts22) ?_
  refine s_run (w_none rfl) rfl (d_ldR0 rfl (H.rd hs) rfl ta22 rfl) ?_
  refine s_run (w_none rfl) rfl (as_s rfl rfl) ?_
  refine l_nil ?_
  refine k_region ?_
  refine s_run (w_none rfl) rfl (mv_s rfl rfl) ?_
  refine s_run (w_none rfl) rfl (mv_s rfl rfl) ?_
  refine s_eff (e_app (w_none rfl) rfl rfl tu22 tx5 rfl rfl rfl H (H.rd hb) (all_u8L _) (by omega) rfl ?_)
  clear H; intro A3 c3 W hc3 hd3 H
  refine s_run (w_none rfl) rfl (as_s rfl rfl) ?_
  refine l_nil ?_
  refine k_nil ?_
  refine b_end ?_
  refine k_region ?_
  refine s_run (w_none rfl) rfl (d_add rfl rfl rfl (by omega)) ?_
  refine s_run (w_none rfl) rfl (mv_i rfl rfl) ?_
  refine l_nil ?_
  refine k_nil ?_
  refine k_next (hd_of (k_one ?_))
  refine k_seq ?_
  refine k_region ?_
  refine s_run (w_none rfl) rfl (d_lt rfl rfl rfl) ?_
  refine l_nil ?_
  refine k_seq ?_
  refine k_condF rfl (by first | (simp; done) | (simp; omega)) ?_
  refine k_exit ?_
  refine x_then (x_then ?_)
  refine x_hit ?_
  refine k_seq ?_
  refine k_region ?_
  refine s_run (w_none rfl) rfl (mv_s rfl rfl) ?_
  refine s_run (w_none rfl) rfl (as_s rfl rfl) ?_
  refine l_nil ?_
  refine k_ret ?_
  repeat (first | refine r_then ?_ | refine r_blk ?_)
  exact q_ret (v := .slice _ _ _) rfl rfl ⟨_, rfl, H.newB (by simp; omega) (by simp) hc3 hd3⟩

theorem behind {S1 S2 : Nat → Prop} {v u : Value} {l r : List UInt8} (w : World) (ha : Bs w S1 v l) (hb : Bs w S2 u r) (hl : l.length + r.length ≤ 1000000000000) :
    Calls Tryd.prog 90 [v, u].toArray w (Ret (NewB 5 w (l ++ r))) := by
  obtain ⟨A, c, rfl, _, _, ha⟩ := ha.op
  obtain ⟨B, d, rfl, _, _, hb⟩ := hb.op
  refine k_enter (l := [_, _]) Tryd.func90 rfl rfl ?_
  have H := St.start nT w
  refine k_seq ?_
  refine k_region ?_
  refine s_run (w_none rfl) rfl (as_s rfl rfl) ?_
  refine l_nil ?_
  refine k_seq ?_
  refine k_region ?_
  refine s_run (w_none rfl) rfl (mv_s rfl rfl) ?_
  refine s_run (w_none rfl) rfl (mv_s rfl rfl) ?_
  refine s_eff (e_bsl (xs := [.tmp 5, .tmp 6]) (vals := [.slice _ _ _, .slice _ _ _]) (vs := [.slice _ _ _, .slice _ _ _]) (w_none rfl) rfl rfl rfl rfl rfl rfl tu55 ts22 ty22 rfl rfl rfl H ?_)
  clear H; intro g1_2 W H
  refine s_eff (e_call (w_none rfl) rfl rfl Tryd.func105 rfl rfl rfl (concat2 _ (rd_blk H.blk rfl) (H.rd ha) (H.rd hb) hl) ?_)
  rintro _ W ⟨A1, c1, rfl, hc1, hd1, hn⟩
  replace H := H.new hn
  clear hn
  refine s_run (w_none rfl) rfl (as_s rfl rfl) ?_
  refine l_nil ?_
  refine k_ret ?_
  repeat (first | refine r_then ?_ | refine r_blk ?_)
  exact q_ret (v := .slice _ _ _) rfl rfl ⟨_, rfl, H.newB rfl rfl hc1 hd1⟩

theorem packInt1 {S : Nat → Prop} {v : Value} {b : List UInt8} (n : Int) (w : World) (hG : Gat w 2 formsC) (hb : Bs w S v b) (hn : -9223372036854775808 ≤ n ∧ n ≤ 9223372036854775807) (hl : b.length ≤ 500000000000) (hu : Pk.toU n < 253) :
    Calls Tryd.prog 65 [v, .int .i64 n].toArray w (Ret (NewB 5 w (b ++ Pk.int (Pk.toU n)))) := by
  have hc := u64_wrap n
  have hcast := Pk.toU_cast n
  have hlt := Pk.toU_lt n
  generalize Pk.toU n = u at *
  have hb0 := hb
  obtain ⟨A, c, rfl, _, _, _⟩ := hb.op
  refine k_enter (l := [_, _]) Tryd.func65 rfl rfl ?_
  have H := St.start nT w
  refine k_seq ?_
  refine k_region ?_
  refine s_run (w_none rfl) rfl (as_s rfl rfl) ?_
  refine l_nil ?_
  refine k_seq ?_
  refine k_region ?_
  refine s_run (w_none rfl) rfl (mv_i rfl rfl) ?_
  refine s_run (w_none rfl) rfl (d_conv rfl rfl (by rw [tu3]; rfl) tu66 hc) ?_
  refine s_run (w_none rfl) rfl (as_i rfl rfl) ?_
  refine l_nil ?_
  refine k_seq ?_
  refine k_seq ?_
  refine k_region ?_
  refine s_run (w_none rfl) rfl (mv_i rfl rfl) ?_
  refine s_run (w_none rfl) rfl (d_iaA rfl rfl rfl (q := 0) rfl tu127 (by omega) ts126) ?_
  refine s_run (w_none rfl) rfl (d_fa rfl rfl tf126_2) ?_
  refine s_run (w_none rfl) rfl (d_ldG rfl (H.gat hG) rfl ta66 rfl) ?_
  refine s_run (w_none rfl) rfl (d_lt rfl rfl rfl) ?_
  refine l_nil ?_
  refine k_condT rfl (by first | (simp; done) | (simp; omega)) ?_
  refine k_seq ?_
  refine k_region ?_
  refine s_run (w_none rfl) rfl (mv_s rfl rfl) ?_
  refine s_run (w_none rfl) rfl (mv_i rfl rfl) ?_
  refine s_run (w_none rfl) rfl (d_conv rfl rfl (by rw [tu3]; rfl) tu5 (u8_eq (n := u) (by omega))) ?_
  refine s_eff (e_bsl (xs := [.tmp 20]) (vals := [.int .u8 _]) (vs := [.int .u8 _]) (w_none rfl) rfl rfl rfl rfl rfl rfl tu22 ts5 ty5 rfl rfl rfl H ?_)
  clear H; intro g3_3 W H
  refine s_eff (e_call (w_none rfl) rfl rfl Tryd.func90 rfl rfl rfl (behind _ (H.bs hb0) (Bs.mk (l := [UInt8.ofNat u]) (rd_blk H.blk rfl) (by omega) (by omega)) (by simp; omega)) ?_)
  rintro _ W ⟨A1, c1, rfl, hc1, hd1, hn⟩
  replace H := H.new hn
  clear hn
  refine s_run (w_none rfl) rfl (as_s rfl rfl) ?_
  refine l_nil ?_
  refine k_ret ?_
  repeat (first | refine r_then ?_ | refine r_blk ?_)
  exact q_ret (v := .slice _ _ _) rfl rfl ⟨_, rfl, H.newB (by rw [Pk.int_1 hu]) (by rw [Pk.int_1 hu]) hc1 hd1⟩

theorem packInt2 {S : Nat → Prop} {v : Value} {b : List UInt8} (n : Int) (w : World) (hG : Gat w 2 formsC) (hb : Bs w S v b) (hl : b.length ≤ 500000000000) (hu : 253 ≤ Pk.toU n ∧ Pk.toU n < 65536) :
    Calls Tryd.prog 65 [v, .int .i64 n].toArray w (Ret (NewB 5 w (b ++ Pk.int (Pk.toU n)))) := by
  have hc := u64_wrap n
  have hcast := Pk.toU_cast n
  have hlt := Pk.toU_lt n
  generalize Pk.toU n = u at *
  have hb0 := hb
  obtain ⟨A, c, rfl, _, _, _⟩ := hb.op
  refine k_enter (l := [_, _]) Tryd.func65 rfl rfl ?_
  have H := St.start nT w
  refine k_seq ?_
  refine k_region ?_
  refine s_run (w_none rfl) rfl (as_s rfl rfl) ?_
  refine l_nil ?_
  refine k_seq ?_
  refine k_region ?_
  refine s_run (w_none rfl) rfl (mv_i rfl rfl) ?_
  refine s_run (w_none rfl) rfl (d_conv rfl rfl (by rw [tu3]; rfl) tu66 hc) ?_
  refine s_run (w_none rfl) rfl (as_i rfl rfl) ?_
  refine l_nil ?_
  refine k_seq ?_
  refine k_seq ?_
  refine k_region ?_
  refine s_run (w_none rfl) rfl (mv_i rfl rfl) ?_
  refine s_run (w_none rfl) rfl (d_iaA rfl rfl rfl (q := 0) rfl tu127 (by omega) ts126) ?_
  refine s_run (w_none rfl) rfl (d_fa rfl rfl tf126_2) ?_
  refine s_run (w_none rfl) rfl (d_ldG rfl (H.gat hG) rfl ta66 rfl) ?_
  refine s_run (w_none rfl) rfl (d_lt rfl rfl rfl) ?_
  refine l_nil ?_
  refine k_condF rfl (by first | (simp; done) | (simp; omega)) ?_
  refine k_skip ?_
  refine k_seq ?_
  refine k_region ?_
  refine s_run (w_none rfl) rfl (d_iaA rfl rfl rfl (q := 0) rfl tu127 (by omega) ts126) ?_
  refine s_run (w_none rfl) rfl (d_ldmG rfl (H.gat hG) rfl ta126 ts126 rfl) ?_
  refine s_eff (e_alloc (w_none rfl) rfl rfl [.int .u8 0, .int .i64 0, .int .u64 0] tz126 H ?_)
  clear H; intro g4_2 W H
  refine s_eff (e_sto (w_none rfl) rfl rfl rfl rfl rfl ts126 rfl H rfl ?_)
  clear H; intro W H
  refine l_nil ?_
  refine k_seq ?_
  refine k_seq ?_
  refine k_region ?_
  refine s_run (w_none rfl) rfl (d_arrS rfl rfl rfl (l := 1) rfl tu127 (by omega) ts126) ?_
  refine s_run (w_none rfl) rfl (d_len rfl rfl tu129) ?_
  refine s_run (w_none rfl) rfl (mv_i rfl rfl) ?_
  refine l_nil ?_
  refine k_block ?_
  refine k_unr (k_one ?_)
  refine k_seq ?_
  refine k_region ?_
  refine s_run (w_none rfl) rfl (d_lt rfl rfl rfl) ?_
  refine l_nil ?_
  refine k_seq ?_
  refine k_condT rfl (by first | (simp; done) | (simp; omega)) ?_
  refine k_skip ?_
  refine k_seq ?_
  refine k_block ?_
  refine k_seq ?_
  refine k_region ?_
  refine s_run (w_none rfl) rfl (d_iaS rfl ((H.gat hG).rd (i := 3) (s := 3) (q := 2) rfl) rfl rfl (q := 0) rfl (by decide) tu129 ts126) ?_
  refine s_run (w_none rfl) rfl (d_ldmR (q := 0) rfl ((H.gat hG).rd (i := 3) (s := 3) (q := 2) rfl) rfl ta126 ts126 (by decide) (by decide)) ?_
  refine s_eff (e_alloc (w_none rfl) rfl rfl [.int .u8 0, .int .i64 0, .int .u64 0] tz126 H ?_)
  clear H; intro g7_2 W H
  refine s_eff (e_sto (w_none rfl) rfl rfl rfl rfl rfl ts126 rfl H rfl ?_)
  clear H; intro W H
  refine l_nil ?_
  refine k_seq ?_
  refine k_region ?_
  refine s_run (w_none rfl) rfl (mv_i rfl rfl) ?_
  refine s_run (w_none rfl) rfl (d_fa rfl rfl tf126_2) ?_
  refine s_run (w_none rfl) rfl (d_ld rfl H rfl ta66 rfl) ?_
  refine s_run (w_none rfl) rfl (d_ge rfl rfl rfl) ?_
  refine l_nil ?_
  refine k_condF rfl (by first | (simp; done) | (simp; omega)) ?_
  refine k_skip ?_
  refine k_nil ?_
  refine b_end ?_
  refine k_region ?_
  refine s_run (w_none rfl) rfl (d_add rfl rfl rfl (by omega)) ?_
  refine s_run (w_none rfl) rfl (mv_i rfl rfl) ?_
  refine l_nil ?_
  refine k_nil ?_
  refine k_next (hd_of (k_one ?_))
  refine k_seq ?_
  refine k_region ?_
  refine s_run (w_none rfl) rfl (d_lt rfl rfl rfl) ?_
  refine l_nil ?_
  refine k_seq ?_
  refine k_condT rfl (by first | (simp; done) | (simp; omega)) ?_
  refine k_skip ?_
  refine k_seq ?_
  refine k_block ?_
  refine k_seq ?_
  refine k_region ?_
  refine s_run (w_none rfl) rfl (d_iaS rfl ((H.gat hG).rd (i := 3) (s := 3) (q := 2) rfl) rfl rfl (q := 1) (by omega) (by decide) tu129 ts126) ?_
  refine s_run (w_none rfl) rfl (d_ldmR (q := 1) rfl ((H.gat hG).rd (i := 3) (s := 3) (q := 2) rfl) rfl ta126 ts126 (by decide) (by decide)) ?_
  refine s_eff (e_alloc (w_none rfl) rfl rfl [.int .u8 0, .int .i64 0, .int .u64 0] tz126 H ?_)
  clear H; intro g7_2 W H
  refine s_eff (e_sto (w_none rfl) rfl rfl rfl rfl rfl ts126 rfl H rfl ?_)
  clear H; intro W H
  refine l_nil ?_
  refine k_seq ?_
  refine k_region ?_
  refine s_run (w_none rfl) rfl (mv_i rfl rfl) ?_
  refine s_run (w_none rfl) rfl (d_fa rfl rfl tf126_2) ?_
  refine s_run (w_none rfl) rfl (d_ld rfl H rfl ta66 rfl) ?_
  refine s_run (w_none rfl) rfl (d_ge rfl rfl rfl) ?_
  refine l_nil ?_
  refine k_condF rfl (by first | (simp; done) | (simp; omega)) ?_
  refine k_skip ?_
  refine k_nil ?_
  refine b_end ?_
  refine k_region ?_
  refine s_run (w_none rfl) rfl (d_add rfl rfl rfl (by omega)) ?_
  refine s_run (w_none rfl) rfl (mv_i rfl rfl) ?_
  refine l_nil ?_
  refine k_nil ?_
  refine k_next (hd_of (k_one ?_))
  refine k_seq ?_
  refine k_region ?_
  refine s_run (w_none rfl) rfl (d_lt rfl rfl rfl) ?_
  refine l_nil ?_
  refine k_seq ?_
  refine k_condF rfl (by first | (simp; done) | (simp; omega)) ?_
  refine k_exit ?_
  refine x_then (x_then ?_)
  refine x_hit ?_
  refine k_seq ?_
  refine k_region ?_
  refine s_run (w_none rfl) rfl (mv_s rfl rfl) ?_
  refine s_run (w_none rfl) rfl (d_fa rfl rfl tf126_0) ?_
  refine s_run (w_none rfl) rfl (d_ld rfl H rfl ta5 rfl) ?_
  refine s_eff (e_bsl (xs := [.tmp 39]) (vals := [.int .u8 _]) (vs := [.int .u8 _]) (w_none rfl) rfl rfl rfl rfl rfl rfl tu22 ts5 ty5 rfl rfl rfl H ?_)
  clear H; intro g11_3 W H
  refine s_eff (e_call (w_none rfl) rfl rfl Tryd.func90 rfl rfl rfl (behind _ (H.bs hb0) (Bs.mk (l := [253]) (rd_blk H.blk rfl) (by omega) (by omega)) (by simp; omega)) ?_)
  rintro _ W ⟨A1, c1, rfl, hc1, hd1, hn⟩
  replace H := H.new hn
  clear hn
  refine s_run (w_none rfl) rfl (as_s rfl rfl) ?_
  refine l_nil ?_
  refine k_seq ?_
  refine k_seq ?_
  refine k_region ?_
  refine s_run (w_none rfl) rfl (d_fa rfl rfl tf126_1) ?_
  refine s_run (w_none rfl) rfl (d_ld rfl H rfl ta3 rfl) ?_
  refine s_run (w_none rfl) rfl (mv_i rfl rfl) ?_
  refine l_nil ?_
  replace H := H.sub (L' := [_]) (.cons_cons _ (List.nil_sublist _))
  refine k_block ?_
  refine k_loop 44 [9, 10] (fun mm sl W => ∃ k : Nat, ∃ B : Option Addr, ∃ d : Nat, 2 - k = mm ∧ sl = [(44, .int .i64 (k : Int)), (9, .slice B (b.length + 1 + k) d)] ∧ (k ≤ 2) ∧ (b.length + 1 + k ≤ d ∧ d ≤ 9223372036854775807) ∧ St nT w W [Fact.row 5 1 (.slice B (b.length + 1 + k) d) (b.length + 1 + k) ((b ++ 253 :: Pk.le u k).map u8v)]) _ _ ⟨0, A1, c1, rfl, rfl, by omega, ⟨by simpa using hc1, hd1⟩, by simpa [Pk.le] using H⟩ ⟨rfl, sl_eq (by simp), trivial⟩ (fun mm sl ρv W hJ => ?_)
  clear H; obtain ⟨k, B, d, rfl, rfl, hk, hd, H⟩ := hJ
  refine k_one ?_
  refine k_seq ?_
  refine k_region ?_
  refine s_run (w_none rfl) rfl (d_lt rfl rfl rfl) ?_
  refine l_nil ?_
  refine k_seq ?_
  refine k_cond rfl (fun hc45 => ?_) (fun hc45 => ?_)
  · first | (replace hc45 := of_decide_eq_true hc45) | simp at hc45
    refine k_skip ?_
    refine k_seq ?_
    refine k_block ?_
    refine k_seq ?_
    refine k_region ?_
    refine s_run (w_none rfl) rfl (mv_i rfl rfl) ?_
    refine s_run (w_none rfl) rfl (as_i rfl rfl) ?_
    refine l_nil ?_
    refine k_region ?_
    refine s_run (w_none rfl) rfl (mv_s rfl rfl) ?_
    refine s_run (w_none rfl) rfl (mv_i rfl rfl) ?_
    refine s_run (w_none rfl) rfl (mv_i rfl rfl) ?_
    refine s_run (w_none rfl) rfl (d_mul rfl rfl rfl (by omega)) ?_
    refine s_run (w_none rfl) rfl (d_shr rfl rfl rfl (m := 8 * k) rfl (by show 8 * k ≤ 64; omega)) ?_
    refine s_run (w_none rfl) rfl (d_conv rfl rfl (by rw [tu66]; rfl) tu5 (u8_eq (shr_le u k))) ?_
    refine s_eff (e_bsl (xs := [.tmp 52]) (vals := [.int .u8 _]) (vs := [.int .u8 _]) (w_none rfl) rfl rfl rfl rfl rfl rfl tu22 ts5 ty5 rfl rfl rfl H ?_)
    clear H; intro g15_6 W H
    refine s_eff (e_app (w_none rfl) rfl rfl tu22 tx5 rfl rfl rfl H (rd_blk H.blk rfl) (rfl) (by omega) rfl ?_)
    clear H; intro A2 c2 W hc2 hd2 H
    replace H := H.drop
    refine s_run (w_none rfl) rfl (as_s rfl rfl) ?_
    refine l_nil ?_
    refine k_nil ?_
    refine b_end ?_
    refine k_region ?_
    refine s_run (w_none rfl) rfl (d_add rfl rfl rfl (by omega)) ?_
    refine s_run (w_none rfl) rfl (mv_i rfl rfl) ?_
    refine l_nil ?_
    refine k_nil ?_
    refine k_next ?_
    refine ⟨_, _, _, ?_, rfl, ?_, ?_, ⟨k + 1, A2, c2, rfl, rfl, by omega, ⟨by omega, hd2⟩, by rw [Pk.le_succ, ← List.cons_append, map_snoc]; exact H⟩⟩
    · omega
    · repeat (first | ((with_reducible refine Eqo.updl _ Eqo.ovr ?_); exact rfl) | ((with_reducible refine Eqo.updl _ (Eqo.ovr2 ?_ ?_) ?_); rotate_left; exact rfl; exact rfl) | ((with_reducible refine Eqo.upd ?_ ?_); rotate_left; exact rfl))
    · refine ⟨?_, ?_, trivial⟩
      · exact vi (by omega)
      · exact rfl
  · first | (replace hc45 := of_decide_eq_false hc45) | simp at hc45
    refine k_exit ?_
    refine x_then (x_then ?_)
    refine x_hit ?_
    refine k_seq ?_
    obtain rfl : k = 2 := by omega
    refine k_region ?_
    refine s_run (w_none rfl) rfl (mv_s rfl rfl) ?_
    refine s_run (w_none rfl) rfl (as_s rfl rfl) ?_
    refine l_nil ?_
    refine k_ret ?_
    repeat (first | refine r_then ?_ | refine r_blk ?_)
    exact q_ret (v := .slice _ _ _) rfl rfl ⟨_, rfl, H.newB (by rw [Pk.int_2 hu.1 hu.2]; simp [Pk.len_le]) (by rw [Pk.int_2 hu.1 hu.2]) hd.1 hd.2⟩

theorem packInt4 {S : Nat → Prop} {v : Value} {b : List UInt8} (n : Int) (w : World) (hG : Gat w 2 formsC) (hb : Bs w S v b) (hl : b.length ≤ 500000000000) (hu : 65536 ≤ Pk.toU n ∧ Pk.toU n < 4294967296) :
    Calls Tryd.prog 65 [v, .int .i64 n].toArray w (Ret (NewB 5 w (b ++ Pk.int (Pk.toU n)))) := by
  have hc := u64_wrap n
  have hcast := Pk.toU_cast n
  have hlt := Pk.toU_lt n
  generalize Pk.toU n = u at *
  have hb0 := hb
  obtain ⟨A, c, rfl, _, _, _⟩ := hb.op
  refine k_enter (l := [_, _]) Tryd.func65 rfl rfl ?_
  have H := St.start nT w
  refine k_seq ?_
  refine k_region ?_
  refine s_run (w_none rfl) rfl (as_s rfl rfl) ?_
  refine l_nil ?_
  refine k_seq ?_
  refine k_region ?_
  refine s_run (w_none rfl) rfl (mv_i rfl rfl) ?_
  refine s_run (w_none rfl) rfl (d_conv rfl rfl (by rw [tu3]; rfl) tu66 hc) ?_
  refine s_run (w_none rfl) rfl (as_i rfl rfl) ?_
  refine l_nil ?_
  refine k_seq ?_
  refine k_seq ?_
  refine k_region ?_
  refine s_run (w_none rfl) rfl (mv_i rfl rfl) ?_
  refine s_run (w_none rfl) rfl (d_iaA rfl rfl rfl (q := 0) rfl tu127 (by omega) ts126) ?_
  refine s_run (w_none rfl) rfl (d_fa rfl rfl tf126_2) ?_
  refine s_run (w_none rfl) rfl (d_ldG rfl (H.gat hG) rfl ta66 rfl) ?_
  refine s_run (w_none rfl) rfl (d_lt rfl rfl rfl) ?_
  refine l_nil ?_
  refine k_condF rfl (by first | (simp; done) | (simp; omega)) ?_
  refine k_skip ?_
  refine k_seq ?_
  refine k_region ?_
  refine s_run (w_none rfl) rfl (d_iaA rfl rfl rfl (q := 0) rfl tu127 (by omega) ts126) ?_
  refine s_run (w_none rfl) rfl (d_ldmG rfl (H.gat hG) rfl ta126 ts126 rfl) ?_
  refine s_eff (e_alloc (w_none rfl) rfl rfl [.int .u8 0, .int .i64 0, .int .u64 0] tz126 H ?_)
  clear H; intro g4_2 W H
  refine s_eff (e_sto (w_none rfl) rfl rfl rfl rfl rfl ts126 rfl H rfl ?_)
  clear H; intro W H
  refine l_nil ?_
  refine k_seq ?_
  refine k_seq ?_
  refine k_region ?_
  refine s_run (w_none rfl) rfl (d_arrS rfl rfl rfl (l := 1) rfl tu127 (by omega) ts126) ?_
  refine s_run (w_none rfl) rfl (d_len rfl rfl tu129) ?_
  refine s_run (w_none rfl) rfl (mv_i rfl rfl) ?_
  refine l_nil ?_
  refine k_block ?_
  refine k_unr (k_one ?_)
  refine k_seq ?_
  refine k_region ?_
  refine s_run (w_none rfl) rfl (d_lt rfl rfl rfl) ?_
  refine l_nil ?_
  refine k_seq ?_
  refine k_condT rfl (by first | (simp; done) | (simp; omega)) ?_
  refine k_skip ?_
  refine k_seq ?_
  refine k_block ?_
  refine k_seq ?_
  refine k_region ?_
  refine s_run (w_none rfl) rfl (d_iaS rfl ((H.gat hG).rd (i := 3) (s := 3) (q := 2) rfl) rfl rfl (q := 0) rfl (by decide) tu129 ts126) ?_
  refine s_run (w_none rfl) rfl (d_ldmR (q := 0) rfl ((H.gat hG).rd (i := 3) (s := 3) (q := 2) rfl) rfl ta126 ts126 (by decide) (by decide)) ?_
  refine s_eff (e_alloc (w_none rfl) rfl rfl [.int .u8 0, .int .i64 0, .int .u64 0] tz126 H ?_)
  clear H; intro g7_2 W H
  refine s_eff (e_sto (w_none rfl) rfl rfl rfl rfl rfl ts126 rfl H rfl ?_)
  clear H; intro W H
  refine l_nil ?_
  refine k_seq ?_
  refine k_region ?_
  refine s_run (w_none rfl) rfl (mv_i rfl rfl) ?_
  refine s_run (w_none rfl) rfl (d_fa rfl rfl tf126_2) ?_
  refine s_run (w_none rfl) rfl (d_ld rfl H rfl ta66 rfl) ?_
  refine s_run (w_none rfl) rfl (d_ge rfl rfl rfl) ?_
  refine l_nil ?_
  refine k_condT rfl (by first | (simp; done) | (simp; omega)) ?_
  refine k_region ?_
  refine s_run (w_none rfl) rfl (d_ldm rfl H rfl ta126 ts126 rfl) ?_
  refine s_eff (e_sto (w_none rfl) rfl rfl rfl rfl rfl ts126 rfl H rfl ?_)
  clear H; intro W H
  refine l_nil ?_
  refine k_nil ?_
  refine b_end ?_
  refine k_region ?_
  refine s_run (w_none rfl) rfl (d_add rfl rfl rfl (by omega)) ?_
  refine s_run (w_none rfl) rfl (mv_i rfl rfl) ?_
  refine l_nil ?_
  refine k_nil ?_
  refine k_next (hd_of (k_one ?_))
  refine k_seq ?_
  refine k_region ?_
  refine s_run (w_none rfl) rfl (d_lt rfl rfl rfl) ?_
  refine l_nil ?_
  refine k_seq ?_
  refine k_condT rfl (by first | (simp; done) | (simp; omega)) ?_
  refine k_skip ?_
  refine k_seq ?_
  refine k_block ?_
  refine k_seq ?_
  refine k_region ?_
  refine s_run (w_none rfl) rfl (d_iaS rfl ((H.gat hG).rd (i := 3) (s := 3) (q := 2) rfl) rfl rfl (q := 1) (by omega) (by decide) tu129 ts126) ?_
  refine s_run (w_none rfl) rfl (d_ldmR (q := 1) rfl ((H.gat hG).rd (i := 3) (s := 3) (q := 2) rfl) rfl ta126 ts126 (by decide) (by decide)) ?_
  refine s_eff (e_alloc (w_none rfl) rfl rfl [.int .u8 0, .int .i64 0, .int .u64 0] tz126 H ?_)
  clear H; intro g7_2 W H
  refine s_eff (e_sto (w_none rfl) rfl rfl rfl rfl rfl ts126 rfl H rfl ?_)
  clear H; intro W H
  refine l_nil ?_
  refine k_seq ?_
  refine k_region ?_
  refine s_run (w_none rfl) rfl (mv_i rfl rfl) ?_
  refine s_run (w_none rfl) rfl (d_fa rfl rfl tf126_2) ?_
  refine s_run (w_none rfl) rfl (d_ld rfl H rfl ta66 rfl) ?_
  refine s_run (w_none rfl) rfl (d_ge rfl rfl rfl) ?_
  refine l_nil ?_
  refine k_condF rfl (by first | (simp; done) | (simp; omega)) ?_
  refine k_skip ?_
  refine k_nil ?_
  refine b_end ?_
  refine k_region ?_
  refine s_run (w_none rfl) rfl (d_add rfl rfl rfl (by omega)) ?_
  refine s_run (w_none rfl) rfl (mv_i rfl rfl) ?_
  refine l_nil ?_
  refine k_nil ?_
  refine k_next (hd_of (k_one ?_))
  refine k_seq ?_
  refine k_region ?_
  refine s_run (w_none rfl) rfl (d_lt rfl rfl rfl) ?_
  refine l_nil ?_
  refine k_seq ?_
  refine k_condF rfl (by first | (simp; done) | (simp; omega)) ?_
  refine k_exit ?_
  refine x_then (x_then ?_)
  refine x_hit ?_
  refine k_seq ?_
  refine k_region ?_
  refine s_run (w_none rfl) rfl (mv_s rfl rfl) ?_
  refine s_run (w_none rfl) rfl (d_fa rfl rfl tf126_0) ?_
  refine s_run (w_none rfl) rfl (d_ld rfl H rfl ta5 rfl) ?_
  refine s_eff (e_bsl (xs := [.tmp 39]) (vals := [.int .u8 _]) (vs := [.int .u8 _]) (w_none rfl) rfl rfl rfl rfl rfl rfl tu22 ts5 ty5 rfl rfl rfl H ?_)
  clear H; intro g11_3 W H
  refine s_eff (e_call (w_none rfl) rfl rfl Tryd.func90 rfl rfl rfl (behind _ (H.bs hb0) (Bs.mk (l := [254]) (rd_blk H.blk rfl) (by omega) (by omega)) (by simp; omega)) ?_)
  rintro _ W ⟨A1, c1, rfl, hc1, hd1, hn⟩
  replace H := H.new hn
  clear hn
  refine s_run (w_none rfl) rfl (as_s rfl rfl) ?_
  refine l_nil ?_
  refine k_seq ?_
  refine k_seq ?_
  refine k_region ?_
  refine s_run (w_none rfl) rfl (d_fa rfl rfl tf126_1) ?_
  refine s_run (w_none rfl) rfl (d_ld rfl H rfl ta3 rfl) ?_
  refine s_run (w_none rfl) rfl (mv_i rfl rfl) ?_
  refine l_nil ?_
  replace H := H.sub (L' := [_]) (.cons_cons _ (List.nil_sublist _))
  refine k_block ?_
  refine k_loop 44 [9, 10] (fun mm sl W => ∃ k : Nat, ∃ B : Option Addr, ∃ d : Nat, 4 - k = mm ∧ sl = [(44, .int .i64 (k : Int)), (9, .slice B (b.length + 1 + k) d)] ∧ (k ≤ 4) ∧ (b.length + 1 + k ≤ d ∧ d ≤ 9223372036854775807) ∧ St nT w W [Fact.row 5 1 (.slice B (b.length + 1 + k) d) (b.length + 1 + k) ((b ++ 254 :: Pk.le u k).map u8v)]) _ _ ⟨0, A1, c1, rfl, rfl, by omega, ⟨by simpa using hc1, hd1⟩, by simpa [Pk.le] using H⟩ ⟨rfl, sl_eq (by simp), trivial⟩ (fun mm sl ρv W hJ => ?_)
  clear H; obtain ⟨k, B, d, rfl, rfl, hk, hd, H⟩ := hJ
  refine k_one ?_
  refine k_seq ?_
  refine k_region ?_
  refine s_run (w_none rfl) rfl (d_lt rfl rfl rfl) ?_
  refine l_nil ?_
  refine k_seq ?_
  refine k_cond rfl (fun hc45 => ?_) (fun hc45 => ?_)
  · first | (replace hc45 := of_decide_eq_true hc45) | simp at hc45
    refine k_skip ?_
    refine k_seq ?_
    refine k_block ?_
    refine k_seq ?_
    refine k_region ?_
    refine s_run (w_none rfl) rfl (mv_i rfl rfl) ?_
    refine s_run (w_none rfl) rfl (as_i rfl rfl) ?_
    refine l_nil ?_
    refine k_region ?_
    refine s_run (w_none rfl) rfl (mv_s rfl rfl) ?_
    refine s_run (w_none rfl) rfl (mv_i rfl rfl) ?_
    refine s_run (w_none rfl) rfl (mv_i rfl rfl) ?_
    refine s_run (w_none rfl) rfl (d_mul rfl rfl rfl (by omega)) ?_
    refine s_run (w_none rfl) rfl (d_shr rfl rfl rfl (m := 8 * k) rfl (by show 8 * k ≤ 64; omega)) ?_
    refine s_run (w_none rfl) rfl (d_conv rfl rfl (by rw [tu66]; rfl) tu5 (u8_eq (shr_le u k))) ?_
    refine s_eff (e_bsl (xs := [.tmp 52]) (vals := [.int .u8 _]) (vs := [.int .u8 _]) (w_none rfl) rfl rfl rfl rfl rfl rfl tu22 ts5 ty5 rfl rfl rfl H ?_)
    clear H; intro g15_6 W H
    refine s_eff (e_app (w_none rfl) rfl rfl tu22 tx5 rfl rfl rfl H (rd_blk H.blk rfl) (rfl) (by omega) rfl ?_)
    clear H; intro A2 c2 W hc2 hd2 H
    replace H := H.drop
    refine s_run (w_none rfl) rfl (as_s rfl rfl) ?_
    refine l_nil ?_
    refine k_nil ?_
    refine b_end ?_
    refine k_region ?_
    refine s_run (w_none rfl) rfl (d_add rfl rfl rfl (by omega)) ?_
    refine s_run (w_none rfl) rfl (mv_i rfl rfl) ?_
    refine l_nil ?_
    refine k_nil ?_
    refine k_next ?_
    refine ⟨_, _, _, ?_, rfl, ?_, ?_, ⟨k + 1, A2, c2, rfl, rfl, by omega, ⟨by omega, hd2⟩, by rw [Pk.le_succ, ← List.cons_append, map_snoc]; exact H⟩⟩
    · omega
    · repeat (first | ((with_reducible refine Eqo.updl _ Eqo.ovr ?_); exact rfl) | ((with_reducible refine Eqo.updl _ (Eqo.ovr2 ?_ ?_) ?_); rotate_left; exact rfl; exact rfl) | ((with_reducible refine Eqo.upd ?_ ?_); rotate_left; exact rfl))
    · refine ⟨?_, ?_, trivial⟩
      · exact vi (by omega)
      · exact rfl
  · first | (replace hc45 := of_decide_eq_false hc45) | simp at hc45
    refine k_exit ?_
    refine x_then (x_then ?_)
    refine x_hit ?_
    refine k_seq ?_
    obtain rfl : k = 4 := by omega
    refine k_region ?_
    refine s_run (w_none rfl) rfl (mv_s rfl rfl) ?_
    refine s_run (w_none rfl) rfl (as_s rfl rfl) ?_
    refine l_nil ?_
    refine k_ret ?_
    repeat (first | refine r_then ?_ | refine r_blk ?_)
    exact q_ret (v := .slice _ _ _) rfl rfl ⟨_, rfl, H.newB (by rw [Pk.int_4 hu.1 hu.2]; simp [Pk.len_le]) (by rw [Pk.int_4 hu.1 hu.2]) hd.1 hd.2⟩

theorem packInt8 {S : Nat → Prop} {v : Value} {b : List UInt8} (n : Int) (w : World) (hG : Gat w 2 formsC) (hb : Bs w S v b) (hl : b.length ≤ 500000000000) (hu : 4294967296 ≤ Pk.toU n) :
    Calls Tryd.prog 65 [v, .int .i64 n].toArray w (Ret (NewB 5 w (b ++ Pk.int (Pk.toU n)))) := by
  have hc := u64_wrap n
  have hcast := Pk.toU_cast n
  have hlt := Pk.toU_lt n
  generalize Pk.toU n = u at *
  have hb0 := hb
  obtain ⟨A, c, rfl, _, _, _⟩ := hb.op
  refine k_enter (l := [_, _]) Tryd.func65 rfl rfl ?_
  have H := St.start nT w
  refine k_seq ?_
  refine k_region ?_
  refine s_run (w_none rfl) rfl (as_s rfl rfl) ?_
  refine l_nil ?_
  refine k_seq ?_
  refine k_region ?_
  refine s_run (w_none rfl) rfl (mv_i rfl rfl) ?_
  refine s_run (w_none rfl) rfl (d_conv rfl rfl (by rw [tu3]; rfl) tu66 hc) ?_
  refine s_run (w_none rfl) rfl (as_i rfl rfl) ?_
  refine l_nil ?_
  refine k_seq ?_
  refine k_seq ?_
  refine k_region ?_
  refine s_run (w_none rfl) rfl (mv_i rfl rfl) ?_
  refine s_run (w_none rfl) rfl (d_iaA rfl rfl rfl (q := 0) rfl tu127 (by omega) ts126) ?_
  refine s_run (w_none rfl) rfl (d_fa rfl rfl tf126_2) ?_
  refine s_run (w_none rfl) rfl (d_ldG rfl (H.gat hG) rfl ta66 rfl) ?_
  refine s_run (w_none rfl) rfl (d_lt rfl rfl rfl) ?_
  refine l_nil ?_
  refine k_condF rfl (by first | (simp; done) | (simp; omega)) ?_
  refine k_skip ?_
  refine k_seq ?_
  refine k_region ?_
  refine s_run (w_none rfl) rfl (d_iaA rfl rfl rfl (q := 0) rfl tu127 (by omega) ts126) ?_
  refine s_run (w_none rfl) rfl (d_ldmG rfl (H.gat hG) rfl ta126 ts126 rfl) ?_
  refine s_eff (e_alloc (w_none rfl) rfl rfl [.int .u8 0, .int .i64 0, .int .u64 0] tz126 H ?_)
  clear H; intro g4_2 W H
  refine s_eff (e_sto (w_none rfl) rfl rfl rfl rfl rfl ts126 rfl H rfl ?_)
  clear H; intro W H
  refine l_nil ?_
  refine k_seq ?_
  refine k_seq ?_
  refine k_region ?_
  refine s_run (w_none rfl) rfl (d_arrS rfl rfl rfl (l := 1) rfl tu127 (by omega) ts126) ?_
  refine s_run (w_none rfl) rfl (d_len rfl rfl tu129) ?_
  refine s_run (w_none rfl) rfl (mv_i rfl rfl) ?_
  refine l_nil ?_
  refine k_block ?_
  refine k_unr (k_one ?_)
  refine k_seq ?_
  refine k_region ?_
  refine s_run (w_none rfl) rfl (d_lt rfl rfl rfl) ?_
  refine l_nil ?_
  refine k_seq ?_
  refine k_condT rfl (by first | (simp; done) | (simp; omega)) ?_
  refine k_skip ?_
  refine k_seq ?_
  refine k_block ?_
  refine k_seq ?_
  refine k_region ?_
  refine s_run (w_none rfl) rfl (d_iaS rfl ((H.gat hG).rd (i := 3) (s := 3) (q := 2) rfl) rfl rfl (q := 0) rfl (by decide) tu129 ts126) ?_
  refine s_run (w_none rfl) rfl (d_ldmR (q := 0) rfl ((H.gat hG).rd (i := 3) (s := 3) (q := 2) rfl) rfl ta126 ts126 (by decide) (by decide)) ?_
  refine s_eff (e_alloc (w_none rfl) rfl rfl [.int .u8 0, .int .i64 0, .int .u64 0] tz126 H ?_)
  clear H; intro g7_2 W H
  refine s_eff (e_sto (w_none rfl) rfl rfl rfl rfl rfl ts126 rfl H rfl ?_)
  clear H; intro W H
  refine l_nil ?_
  refine k_seq ?_
  refine k_region ?_
  refine s_run (w_none rfl) rfl (mv_i rfl rfl) ?_
  refine s_run (w_none rfl) rfl (d_fa rfl rfl tf126_2) ?_
  refine s_run (w_none rfl) rfl (d_ld rfl H rfl ta66 rfl) ?_
  refine s_run (w_none rfl) rfl (d_ge rfl rfl rfl) ?_
  refine l_nil ?_
  refine k_condT rfl (by first | (simp; done) | (simp; omega)) ?_
  refine k_region ?_
  refine s_run (w_none rfl) rfl (d_ldm rfl H rfl ta126 ts126 rfl) ?_
  refine s_eff (e_sto (w_none rfl) rfl rfl rfl rfl rfl ts126 rfl H rfl ?_)
  clear H; intro W H
  refine l_nil ?_
  refine k_nil ?_
  refine b_end ?_
  refine k_region ?_
  refine s_run (w_none rfl) rfl (d_add rfl rfl rfl (by omega)) ?_
  refine s_run (w_none rfl) rfl (mv_i rfl rfl) ?_
  refine l_nil ?_
  refine k_nil ?_
  refine k_next (hd_of (k_one ?_))
  refine k_seq ?_
  refine k_region ?_
  refine s_run (w_none rfl) rfl (d_lt rfl rfl rfl) ?_
  refine l_nil ?_
  refine k_seq ?_
  refine k_condT rfl (by first | (simp; done) | (simp; omega)) ?_
  refine k_skip ?_
  refine k_seq ?_
  refine k_block ?_
  refine k_seq ?_
  refine k_region ?_
  refine s_run (w_none rfl) rfl (d_iaS rfl ((H.gat hG).rd (i := 3) (s := 3) (q := 2) rfl) rfl rfl (q := 1) (by omega) (by decide) tu129 ts126) ?_
  refine s_run (w_none rfl) rfl (d_ldmR (q := 1) rfl ((H.gat hG).rd (i := 3) (s := 3) (q := 2) rfl) rfl ta126 ts126 (by decide) (by decide)) ?_
  refine s_eff (e_alloc (w_none rfl) rfl rfl [.int .u8 0, .int .i64 0, .int .u64 0] tz126 H ?_)
  clear H; intro g7_2 W H
  refine s_eff (e_sto (w_none rfl) rfl rfl rfl rfl rfl ts126 rfl H rfl ?_)
  clear H; intro W H
  refine l_nil ?_
  refine k_seq ?_
  refine k_region ?_
  refine s_run (w_none rfl) rfl (mv_i rfl rfl) ?_
  refine s_run (w_none rfl) rfl (d_fa rfl rfl tf126_2) ?_
  refine s_run (w_none rfl) rfl (d_ld rfl H rfl ta66 rfl) ?_
  refine s_run (w_none rfl) rfl (d_ge rfl rfl rfl) ?_
  refine l_nil ?_
  refine k_condT rfl (by first | (simp; done) | (simp; omega)) ?_
  refine k_region ?_
  refine s_run (w_none rfl) rfl (d_ldm rfl H rfl ta126 ts126 rfl) ?_
  refine s_eff (e_sto (w_none rfl) rfl rfl rfl rfl rfl ts126 rfl H rfl ?_)
  clear H; intro W H
  refine l_nil ?_
  refine k_nil ?_
  refine b_end ?_
  refine k_region ?_
  refine s_run (w_none rfl) rfl (d_add rfl rfl rfl (by omega)) ?_
  refine s_run (w_none rfl) rfl (mv_i rfl rfl) ?_
  refine l_nil ?_
  refine k_nil ?_
  refine k_next (hd_of (k_one ?_))
  refine k_seq ?_
  refine k_region ?_
  refine s_run (w_none rfl) rfl (d_lt rfl rfl rfl) ?_
  refine l_nil ?_
  refine k_seq ?_
  refine k_condF rfl (by first | (simp; done) | (simp; omega)) ?_
  refine k_exit ?_
  refine x_then (x_then ?_)
  refine x_hit ?_
  refine k_seq ?_
  refine k_region ?_
  refine s_run (w_none rfl) rfl (mv_s rfl rfl) ?_
  refine s_run (w_none rfl) rfl (d_fa rfl rfl tf126_0) ?_
  refine s_run (w_none rfl) rfl (d_ld rfl H rfl ta5 rfl) ?_
  refine s_eff (e_bsl (xs := [.tmp 39]) (vals := [.int .u8 _]) (vs := [.int .u8 _]) (w_none rfl) rfl rfl rfl rfl rfl rfl tu22 ts5 ty5 rfl rfl rfl H ?_)
  clear H; intro g11_3 W H
  refine s_eff (e_call (w_none rfl) rfl rfl Tryd.func90 rfl rfl rfl (behind _ (H.bs hb0) (Bs.mk (l := [255]) (rd_blk H.blk rfl) (by omega) (by omega)) (by simp; omega)) ?_)
  rintro _ W ⟨A1, c1, rfl, hc1, hd1, hn⟩
  replace H := H.new hn
  clear hn
  refine s_run (w_none rfl) rfl (as_s rfl rfl) ?_
  refine l_nil ?_
  refine k_seq ?_
  refine k_seq ?_
  refine k_region ?_
  refine s_run (w_none rfl) rfl (d_fa rfl rfl tf126_1) ?_
  refine s_run (w_none rfl) rfl (d_ld rfl H rfl ta3 rfl) ?_
  refine s_run (w_none rfl) rfl (mv_i rfl rfl) ?_
  refine l_nil ?_
  replace H := H.sub (L' := [_]) (.cons_cons _ (List.nil_sublist _))
  refine k_block ?_
  refine k_loop 44 [9, 10] (fun mm sl W => ∃ k : Nat, ∃ B : Option Addr, ∃ d : Nat, 8 - k = mm ∧ sl = [(44, .int .i64 (k : Int)), (9, .slice B (b.length + 1 + k) d)] ∧ (k ≤ 8) ∧ (b.length + 1 + k ≤ d ∧ d ≤ 9223372036854775807) ∧ St nT w W [Fact.row 5 1 (.slice B (b.length + 1 + k) d) (b.length + 1 + k) ((b ++ 255 :: Pk.le u k).map u8v)]) _ _ ⟨0, A1, c1, rfl, rfl, by omega, ⟨by simpa using hc1, hd1⟩, by simpa [Pk.le] using H⟩ ⟨rfl, sl_eq (by simp), trivial⟩ (fun mm sl ρv W hJ => ?_)
  clear H; obtain ⟨k, B, d, rfl, rfl, hk, hd, H⟩ := hJ
  refine k_one ?_
  refine k_seq ?_
  refine k_region ?_
  refine s_run (w_none rfl) rfl (d_lt rfl rfl rfl) ?_
  refine l_nil ?_
  refine k_seq ?_
  refine k_cond rfl (fun hc45 => ?_) (fun hc45 => ?_)
  · first | (replace hc45 := of_decide_eq_true hc45) | simp at hc45
    refine k_skip ?_
    refine k_seq ?_
    refine k_block ?_
    refine k_seq ?_
    refine k_region ?_
    refine s_run (w_none rfl) rfl (mv_i rfl rfl) ?_
    refine s_run (w_none rfl) rfl (as_i rfl rfl) ?_
    refine l_nil ?_
    refine k_region ?_
    refine s_run (w_none rfl) rfl (mv_s rfl rfl) ?_
    refine s_run (w_none rfl) rfl (mv_i rfl rfl) ?_
    refine s_run (w_none rfl) rfl (mv_i rfl rfl) ?_
    refine s_run (w_none rfl) rfl (d_mul rfl rfl rfl (by omega)) ?_
    refine s_run (w_none rfl) rfl (d_shr rfl rfl rfl (m := 8 * k) rfl (by show 8 * k ≤ 64; omega)) ?_
    refine s_run (w_none rfl) rfl (d_conv rfl rfl (by rw [tu66]; rfl) tu5 (u8_eq (shr_le u k))) ?_
    refine s_eff (e_bsl (xs := [.tmp 52]) (vals := [.int .u8 _]) (vs := [.int .u8 _]) (w_none rfl) rfl rfl rfl rfl rfl rfl tu22 ts5 ty5 rfl rfl rfl H ?_)
    clear H; intro g15_6 W H
    refine s_eff (e_app (w_none rfl) rfl rfl tu22 tx5 rfl rfl rfl H (rd_blk H.blk rfl) (rfl) (by omega) rfl ?_)
    clear H; intro A2 c2 W hc2 hd2 H
    replace H := H.drop
    refine s_run (w_none rfl) rfl (as_s rfl rfl) ?_
    refine l_nil ?_
    refine k_nil ?_
    refine b_end ?_
    refine k_region ?_
    refine s_run (w_none rfl) rfl (d_add rfl rfl rfl (by omega)) ?_
    refine s_run (w_none rfl) rfl (mv_i rfl rfl) ?_
    refine l_nil ?_
    refine k_nil ?_
    refine k_next ?_
    refine ⟨_, _, _, ?_, rfl, ?_, ?_, ⟨k + 1, A2, c2, rfl, rfl, by omega, ⟨by omega, hd2⟩, by rw [Pk.le_succ, ← List.cons_append, map_snoc]; exact H⟩⟩
    · omega
    · repeat (first | ((with_reducible refine Eqo.updl _ Eqo.ovr ?_); exact rfl) | ((with_reducible refine Eqo.updl _ (Eqo.ovr2 ?_ ?_) ?_); rotate_left; exact rfl; exact rfl) | ((with_reducible refine Eqo.upd ?_ ?_); rotate_left; exact rfl))
    · refine ⟨?_, ?_, trivial⟩
      · exact vi (by omega)
      · exact rfl
  · first | (replace hc45 := of_decide_eq_false hc45) | simp at hc45
    refine k_exit ?_
    refine x_then (x_then ?_)
    refine x_hit ?_
    refine k_seq ?_
    obtain rfl : k = 8 := by omega
    refine k_region ?_
    refine s_run (w_none rfl) rfl (mv_s rfl rfl) ?_
    refine s_run (w_none rfl) rfl (as_s rfl rfl) ?_
    refine l_nil ?_
    refine k_ret ?_
    repeat (first | refine r_then ?_ | refine r_blk ?_)
    exact q_ret (v := .slice _ _ _) rfl rfl ⟨_, rfl, H.newB (by rw [Pk.int_8 hu]; simp [Pk.len_le]) (by rw [Pk.int_8 hu]) hd.1 hd.2⟩

theorem packInt {S : Nat → Prop} {v : Value} {b : List UInt8} (n : Int) (w : World) (hG : Gat w 2 formsC) (hb : Bs w S v b) (hn : -9223372036854775808 ≤ n ∧ n ≤ 9223372036854775807) (hl : b.length ≤ 500000000000) :
    Calls Tryd.prog 65 [v, .int .i64 n].toArray w (Ret (NewB 5 w (b ++ Pk.int (Pk.toU n)))) := by
  rcases Nat.lt_or_ge (Pk.toU n) 253 with h | h
  · exact packInt1 n w hG hb hn hl h
  rcases Nat.lt_or_ge (Pk.toU n) 65536 with h2 | h2
  · exact packInt2 n w hG hb hl ⟨h, h2⟩
  rcases Nat.lt_or_ge (Pk.toU n) 4294967296 with h4 | h4
  · exact packInt4 n w hG hb hl ⟨h2, h4⟩
  · exact packInt8 n w hG hb hl h4

theorem packBlob {S S1 : Nat → Prop} {v u : Value} {b p : List UInt8} (w : World) (hG : Gat w 2 formsC) (hb : Bs w S v b) (hl : b.length ≤ 400000000000) (hp : Bs w S1 u p) (hl2 : p.length ≤ 400000000000) :
    Calls Tryd.prog 39 [v, u].toArray w (Ret (NewB 5 w (b ++ (Pk.int p.length ++ p)))) := by
  have hb0 := hb
  obtain ⟨A, c, rfl, _, _, hb⟩ := hb.op
  have hp0 := hp
  obtain ⟨B, d, rfl, _, _, hp⟩ := hp.op
  have hi := Pk.len_int p.length
  refine k_enter (l := [_, _]) Tryd.func39 rfl rfl ?_
  have H := St.start nT w
  refine k_seq ?_
  refine k_region ?_
  refine s_run (w_none rfl) rfl (as_s rfl rfl) ?_
  refine l_nil ?_
  refine k_seq ?_
  refine k_region ?_
  refine s_run (w_none rfl) rfl (mv_s rfl rfl) ?_
  refine s_run (w_none rfl) rfl (mv_s rfl rfl) ?_
  refine s_run (w_none rfl) rfl (d_len rfl rfl tu22) ?_
  refine s_eff (e_call (w_none rfl) rfl rfl Tryd.func65 rfl rfl rfl (packInt _ _ (H.gat hG) (H.bs hb0) (by omega) (by omega)) ?_)
  rw [Pk.toU_pos _ (by omega) (by omega), Int.toNat_natCast]
  rintro _ W ⟨A1, c1, rfl, hc1, hd1, hn⟩
  replace H := H.new hn
  clear hn
  refine s_run (w_none rfl) rfl (mv_s rfl rfl) ?_
  refine s_eff (e_app (w_none rfl) rfl rfl tu22 tx5 rfl rfl rfl H (H.rd hp) (all_u8L _) (by rw [List.length_append]; omega) rfl ?_)
  clear H; intro A2 c2 W hc2 hd2 H
  refine s_run (w_none rfl) rfl (as_s rfl rfl) ?_
  refine l_nil ?_
  refine k_ret ?_
  repeat (first | refine r_then ?_ | refine r_blk ?_)
  exact q_ret (v := .slice _ _ _) rfl rfl ⟨_, rfl, H.newB (by simp; omega) (by simp) hc2 hd2⟩

theorem packHash {S : Nat → Prop} {v : Value} {b h : List UInt8} (w : World) (hb : Bs w S v b) (hl : b.length ≤ 400000000000) (hh : h.length = 32) :
    Calls Tryd.prog 66 [v, .agg (h.map u8v).toArray].toArray w (Ret (NewB 5 w (b ++ h))) := by
  have hb0 := hb
  obtain ⟨A, c, rfl, _, _, hb⟩ := hb.op
  refine k_enter (l := [_, _]) Tryd.func66 rfl rfl ?_
  have H := St.start nT w
  refine k_seq ?_
  refine k_region ?_
  refine s_eff (e_box (w_none rfl) rfl rfl rfl rfl H ?_)
  clear H; intro g0_0 W H
  refine s_run (w_none rfl) rfl (as_s rfl rfl) ?_
  refine l_nil ?_
  refine k_seq ?_
  refine k_region ?_
  refine s_run (w_none rfl) rfl (mv_s rfl rfl) ?_
  refine s_run (w_none rfl) rfl (d_arrA rfl rfl tu24 ts5) ?_
  refine s_eff (e_call (w_none rfl) rfl rfl Tryd.func90 rfl rfl rfl (behind _ (H.bs hb0) (Bs.mk (l := h) (rd_blk H.blk (by simp; omega)) (by omega) (by omega)) (by omega)) ?_)
  rintro _ W ⟨A1, c1, rfl, hc1, hd1, hn⟩
  replace H := H.new hn
  clear hn
  refine s_run (w_none rfl) rfl (as_s rfl rfl) ?_
  refine l_nil ?_
  refine k_ret ?_
  repeat (first | refine r_then ?_ | refine r_blk ?_)
  exact q_ret (v := .slice _ _ _) rfl rfl ⟨_, rfl, H.newB rfl rfl hc1 hd1⟩

end Go.Proofs.YtdalmmkjmfpffaaDoor
