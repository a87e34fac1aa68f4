/-
  DERIVED. GIVEN WITH THE SEED: THE CARDS: each row of YtdalmmkjmfpffaaGreatDoorRows.lean that lists a variable, with what it lists TIED to the program's text (the seventh form; the later family's looks); each row that meets fmt, with fmt's text TOLD by the authors' own Lean function (tested against real Go, not proved from fmt's source: count such statements apart). THE CARD IS WHAT COUNTS. Prove the row's statement (the work); the ties are given (YtdalmmkjmfpffaaGreatDoorTie.lean); close each card by the builder's one call (the guide's Derived/Test/ToyasCard.lean, 'card_holds'). Laid BY PROGRAM, IN A SANDBOX (cutbox-door.mjs). By AI agents, Wed Nov 11 2026. No macro, syntax, notation, axiom, sorry.
-/
import Derived.Test.YtdalmmkjmfpffaaGreatDoorRows
import GoSem.ClaimSeven
namespace Go.Proofs.YtdalmmkjmfpffaaGreatDoor
namespace Rows

/-- THE TIED CARD OF 'mangrovelaw07.TxGets'. -/
def txGetsCard : Claim7 := { stood := { row := txGetsRow, standIns := [], harness := (true, "393fbffaaced798fff2a68410cf17ab27e6372bab6ba81d195cf1d94400ac8a6"), looks := true }, kinds := [], alts := [], laidByText := true, laidKinds := [.widerDeep, .data, .widerDeep], laidTests := true, laidLooks := .later }
def TxGetsCardSaid : Prop := Claim7.holds Tryz.pinned (.plain (OpenSpec.ofChange txGetsSpec)) txGetsCard

/-- THE TIED CARD OF 'mangrovelaw07.TxPuts'. -/
def txPutsCard : Claim7 := { stood := { row := txPutsRow, standIns := [], harness := (true, "393fbffaaced798fff2a68410cf17ab27e6372bab6ba81d195cf1d94400ac8a6"), looks := true }, kinds := [], alts := [], laidByText := true, laidKinds := [.widerDeep, .data, .widerDeep], laidTests := true, laidLooks := .later }
def TxPutsCardSaid : Prop := Claim7.holds Tryz.pinned (.plain (OpenSpec.ofChange txPutsSpec)) txPutsCard

/-- THE TIED CARD OF 'mangrovelaw07.TxKnown'. -/
def txKnownCard : Claim7 := { stood := { row := txKnownRow, standIns := [], harness := (true, "393fbffaaced798fff2a68410cf17ab27e6372bab6ba81d195cf1d94400ac8a6"), looks := true }, kinds := [], alts := [], laidByText := true, laidKinds := [.widerDeep, .data, .widerDeep], laidTests := true, laidLooks := .later }
def TxKnownCardSaid : Prop := Claim7.holds Tryz.pinned (.plain (OpenSpec.ofChange txKnownSpec)) txKnownCard

/-- THE SECOND FORM's CARD OF 'mangrovelaw07.TxGets'. -/
def txGetsUptoCard : Claim7 := { stood := { row := txGetsUptoRow, standIns := [], harness := (true, "393fbffaaced798fff2a68410cf17ab27e6372bab6ba81d195cf1d94400ac8a6"), looks := true }, kinds := [], alts := [], laidByText := true, laidKinds := [.widerDeep, .data, .widerDeep], laidTests := true, laidLooks := .later }
def TxGetsUptoCardSaid : Prop := Claim7.holds Tryz.pinned (.plain (OpenSpec.upto txGetsSpec)) txGetsUptoCard

/-- THE SECOND FORM's CARD OF 'mangrovelaw07.TxPuts'. -/
def txPutsUptoCard : Claim7 := { stood := { row := txPutsUptoRow, standIns := [], harness := (true, "393fbffaaced798fff2a68410cf17ab27e6372bab6ba81d195cf1d94400ac8a6"), looks := true }, kinds := [], alts := [], laidByText := true, laidKinds := [.widerDeep, .data, .widerDeep], laidTests := true, laidLooks := .later }
def TxPutsUptoCardSaid : Prop := Claim7.holds Tryz.pinned (.plain (OpenSpec.upto txPutsSpec)) txPutsUptoCard

/-- THE SECOND FORM's CARD OF 'mangrovelaw07.TxKnown'. -/
def txKnownUptoCard : Claim7 := { stood := { row := txKnownUptoRow, standIns := [], harness := (true, "393fbffaaced798fff2a68410cf17ab27e6372bab6ba81d195cf1d94400ac8a6"), looks := true }, kinds := [], alts := [], laidByText := true, laidKinds := [.widerDeep, .data, .widerDeep], laidTests := true, laidLooks := .later }
def TxKnownUptoCardSaid : Prop := Claim7.holds Tryz.pinned (.plain (OpenSpec.upto txKnownSpec)) txKnownUptoCard
end Rows
end Go.Proofs.YtdalmmkjmfpffaaGreatDoor
