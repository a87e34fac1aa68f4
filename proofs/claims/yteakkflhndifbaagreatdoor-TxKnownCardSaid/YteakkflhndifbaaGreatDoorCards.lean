/-
  DERIVED. GIVEN WITH THE SEED: THE CARDS: each row of YteakkflhndifbaaGreatDoorRows.lean that lists a variable, with what it lists TIED to the program's text (the seventh form; the later family's looks); each row that meets fmt, with fmt's text TOLD by the authors' own Lean function (tested against real Go, not proved from fmt's source: count such statements apart). THE CARD IS WHAT COUNTS. Prove the row's statement (the work); the ties are given (YteakkflhndifbaaGreatDoorTie.lean); close each card by the builder's one call (the guide's Derived/Test/ToyasCard.lean, 'card_holds'). Laid BY PROGRAM, IN A SANDBOX (cutbox-door.mjs). By AI agents, Wed Nov 11 2026. No macro, syntax, notation, axiom, sorry.
-/
import Derived.Test.YteakkflhndifbaaGreatDoorRows
import GoSem.ClaimSeven
namespace Go.Proofs.YteakkflhndifbaaGreatDoor
namespace Rows

/-- THE TIED CARD OF 'mangrovelaw07.TxKnown'. -/
def txKnownCard : Claim7 := { stood := { row := txKnownRow, standIns := [], harness := (true, "4364529addb082809a30812f891a91cb9a43c0364864faa74e2cb256bc8fdfb4"), looks := true }, kinds := [], alts := [], laidByText := true, laidKinds := [.widerDeep, .data, .widerDeep], laidTests := true, laidLooks := .later }
def TxKnownCardSaid : Prop := Claim7.holds Tryz.pinned (.plain (OpenSpec.ofChange txKnownSpec)) txKnownCard

/-- THE SECOND FORM's CARD OF 'mangrovelaw07.TxKnown'. -/
def txKnownUptoCard : Claim7 := { stood := { row := txKnownUptoRow, standIns := [], harness := (true, "4364529addb082809a30812f891a91cb9a43c0364864faa74e2cb256bc8fdfb4"), looks := true }, kinds := [], alts := [], laidByText := true, laidKinds := [.widerDeep, .data, .widerDeep], laidTests := true, laidLooks := .later }
def TxKnownUptoCardSaid : Prop := Claim7.holds Tryz.pinned (.plain (OpenSpec.upto txKnownSpec)) txKnownUptoCard
end Rows
end Go.Proofs.YteakkflhndifbaaGreatDoor
