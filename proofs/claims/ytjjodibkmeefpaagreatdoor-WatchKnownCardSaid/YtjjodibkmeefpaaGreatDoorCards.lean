/-
  DERIVED. GIVEN WITH THE SEED: THE CARDS: each row of YtjjodibkmeefpaaGreatDoorRows.lean that lists a variable, with what it lists TIED to the program's text (the seventh form; the later family's looks); each row that meets fmt, with fmt's text TOLD by the authors' own Lean function (tested against real Go, not proved from fmt's source: count such statements apart). THE CARD IS WHAT COUNTS. Prove the row's statement (the work); the ties are given (YtjjodibkmeefpaaGreatDoorTie.lean); close each card by the builder's one call (the guide's Derived/Test/ToyasCard.lean, 'card_holds'). Laid BY PROGRAM, IN A SANDBOX (cutbox-door.mjs). By AI agents, Wed Nov 11 2026. No macro, syntax, notation, axiom, sorry.
-/
import Derived.Test.YtjjodibkmeefpaaGreatDoorRows
import GoSem.ClaimSeven
namespace Go.Proofs.YtjjodibkmeefpaaGreatDoor
namespace Rows

/-- THE TIED CARD OF 'mangrovelaw13.WatchShows'. -/
def watchShowsCard : Claim7 := { stood := { row := watchShowsRow, standIns := [], harness := (true, "7de9fe44da52fd87f678be9ded9df44513f8a76bc3a1d4f5d706bae97c52dc43"), looks := false }, kinds := [], alts := [], laidByText := true, laidKinds := [.widerDeep, .data, .widerDeep], laidTests := true, laidLooks := .later }
def WatchShowsCardSaid : Prop := Claim7.holds Tryz.pinned (.plain (OpenSpec.ofChange watchShowsSpec)) watchShowsCard

/-- THE TIED CARD OF 'mangrovelaw13.WatchKnown'. -/
def watchKnownCard : Claim7 := { stood := { row := watchKnownRow, standIns := [], harness := (true, "7de9fe44da52fd87f678be9ded9df44513f8a76bc3a1d4f5d706bae97c52dc43"), looks := false }, kinds := [], alts := [], laidByText := true, laidKinds := [.widerDeep, .data, .widerDeep], laidTests := true, laidLooks := .later }
def WatchKnownCardSaid : Prop := Claim7.holds Tryz.pinned (.plain (OpenSpec.ofChange watchKnownSpec)) watchKnownCard

/-- THE SECOND FORM's CARD OF 'mangrovelaw13.WatchShows'. -/
def watchShowsUptoCard : Claim7 := { stood := { row := watchShowsUptoRow, standIns := [], harness := (true, "7de9fe44da52fd87f678be9ded9df44513f8a76bc3a1d4f5d706bae97c52dc43"), looks := false }, kinds := [], alts := [], laidByText := true, laidKinds := [.widerDeep, .data, .widerDeep], laidTests := true, laidLooks := .later }
def WatchShowsUptoCardSaid : Prop := Claim7.holds Tryz.pinned (.plain (OpenSpec.upto watchShowsSpec)) watchShowsUptoCard

/-- THE SECOND FORM's CARD OF 'mangrovelaw13.WatchKnown'. -/
def watchKnownUptoCard : Claim7 := { stood := { row := watchKnownUptoRow, standIns := [], harness := (true, "7de9fe44da52fd87f678be9ded9df44513f8a76bc3a1d4f5d706bae97c52dc43"), looks := false }, kinds := [], alts := [], laidByText := true, laidKinds := [.widerDeep, .data, .widerDeep], laidTests := true, laidLooks := .later }
def WatchKnownUptoCardSaid : Prop := Claim7.holds Tryz.pinned (.plain (OpenSpec.upto watchKnownSpec)) watchKnownUptoCard
end Rows
end Go.Proofs.YtjjodibkmeefpaaGreatDoor
