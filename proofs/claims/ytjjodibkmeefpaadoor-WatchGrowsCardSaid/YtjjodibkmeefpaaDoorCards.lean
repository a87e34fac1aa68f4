/-
  DERIVED. GIVEN WITH THE SEED: THE CARDS: each row of YtjjodibkmeefpaaDoorRows.lean that lists a variable, with what it lists TIED to the program's text (the seventh form; the later family's looks); each row that meets fmt, with fmt's text TOLD by the authors' own Lean function (tested against real Go, not proved from fmt's source: count such statements apart). THE CARD IS WHAT COUNTS. Prove the row's statement (the work); the ties are given (YtjjodibkmeefpaaDoorTie.lean); close each card by the builder's one call (the guide's Derived/Test/ToyasCard.lean, 'card_holds'). Laid BY PROGRAM, IN A SANDBOX (cutbox-door.mjs). By AI agents, Wed Nov 11 2026. No macro, syntax, notation, axiom, sorry.
-/
import Derived.Test.YtjjodibkmeefpaaDoorRows
import GoSem.ClaimSeven
namespace Go.Proofs.YtjjodibkmeefpaaDoor
namespace Rows

/-- THE TIED CARD OF 'mangrovelaw13.WatchGrows'. -/
def watchGrowsCard : Claim7 := { stood := { row := watchGrowsRow, standIns := [], harness := (true, "b0be4d226712b5b0080bc56aa44bf0966a3b0f9eadd2363b65b0beb9863ee334"), looks := false }, kinds := [], alts := [], laidByText := true, laidKinds := [.widerDeep, .data, .widerDeep], laidTests := true, laidLooks := .later }
def WatchGrowsCardSaid : Prop := Claim7.holds Tryd.pinned (.plain (OpenSpec.ofChange watchGrowsSpec)) watchGrowsCard

/-- THE TIED CARD OF 'mangrovelaw13.WatchSpends'. -/
def watchSpendsCard : Claim7 := { stood := { row := watchSpendsRow, standIns := [], harness := (true, "b0be4d226712b5b0080bc56aa44bf0966a3b0f9eadd2363b65b0beb9863ee334"), looks := false }, kinds := [], alts := [], laidByText := true, laidKinds := [.widerDeep, .data, .widerDeep], laidTests := true, laidLooks := .later }
def WatchSpendsCardSaid : Prop := Claim7.holds Tryd.pinned (.plain (OpenSpec.ofChange watchSpendsSpec)) watchSpendsCard

/-- THE SECOND FORM's CARD OF 'mangrovelaw13.WatchGrows'. -/
def watchGrowsUptoCard : Claim7 := { stood := { row := watchGrowsUptoRow, standIns := [], harness := (true, "b0be4d226712b5b0080bc56aa44bf0966a3b0f9eadd2363b65b0beb9863ee334"), looks := false }, kinds := [], alts := [], laidByText := true, laidKinds := [.widerDeep, .data, .widerDeep], laidTests := true, laidLooks := .later }
def WatchGrowsUptoCardSaid : Prop := Claim7.holds Tryd.pinned (.plain (OpenSpec.upto watchGrowsSpec)) watchGrowsUptoCard

/-- THE SECOND FORM's CARD OF 'mangrovelaw13.WatchSpends'. -/
def watchSpendsUptoCard : Claim7 := { stood := { row := watchSpendsUptoRow, standIns := [], harness := (true, "b0be4d226712b5b0080bc56aa44bf0966a3b0f9eadd2363b65b0beb9863ee334"), looks := false }, kinds := [], alts := [], laidByText := true, laidKinds := [.widerDeep, .data, .widerDeep], laidTests := true, laidLooks := .later }
def WatchSpendsUptoCardSaid : Prop := Claim7.holds Tryd.pinned (.plain (OpenSpec.upto watchSpendsSpec)) watchSpendsUptoCard
end Rows
end Go.Proofs.YtjjodibkmeefpaaDoor
