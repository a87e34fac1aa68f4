/-
  DERIVED. GIVEN WITH THE SEED: THE CARDS: each row of YtfhhfhdnhadooaaGreatDoorRows.lean that lists a variable, with what it lists TIED to the program's text (the seventh form; the later family's looks); each row that meets fmt, with fmt's text TOLD by the authors' own Lean function (tested against real Go, not proved from fmt's source: count such statements apart). THE CARD IS WHAT COUNTS. Prove the row's statement (the work); the ties are given (YtfhhfhdnhadooaaGreatDoorTie.lean); close each card by the builder's one call (the guide's Derived/Test/ToyasCard.lean, 'card_holds'). Laid BY PROGRAM, IN A SANDBOX (cutbox-door.mjs). By AI agents, Wed Nov 11 2026. No macro, syntax, notation, axiom, sorry.
-/
import Derived.Test.YtfhhfhdnhadooaaGreatDoorRows
import GoSem.ClaimSeven
namespace Go.Proofs.YtfhhfhdnhadooaaGreatDoor
namespace Rows

/-- THE TIED CARD OF 'mangrovelaw09.BlockKnown'. -/
def blockKnownCard : Claim7 := { stood := { row := blockKnownRow, standIns := [], harness := (true, "8e3caa531ae7c75b975b53c2ad66a0ca9e42dbafa22c714d1e2acb905a3e62f7"), looks := true }, kinds := [], alts := [], laidByText := true, laidKinds := [.widerDeep, .data, .widerDeep], laidTests := true, laidLooks := .later }
def BlockKnownCardSaid : Prop := Claim7.holds Tryz.pinned (.plain (OpenSpec.ofChange blockKnownSpec)) blockKnownCard

/-- THE TIED CARD OF 'mangrovelaw09.BlockPuts'. -/
def blockPutsCard : Claim7 := { stood := { row := blockPutsRow, standIns := [], harness := (true, "8e3caa531ae7c75b975b53c2ad66a0ca9e42dbafa22c714d1e2acb905a3e62f7"), looks := true }, kinds := [], alts := [], laidByText := true, laidKinds := [.widerDeep, .data, .widerDeep], laidTests := true, laidLooks := .later }
def BlockPutsCardSaid : Prop := Claim7.holds Tryz.pinned (.plain (OpenSpec.ofChange blockPutsSpec)) blockPutsCard

/-- THE TIED CARD OF 'mangrovelaw09.BlockGets'. -/
def blockGetsCard : Claim7 := { stood := { row := blockGetsRow, standIns := [], harness := (true, "8e3caa531ae7c75b975b53c2ad66a0ca9e42dbafa22c714d1e2acb905a3e62f7"), looks := true }, kinds := [], alts := [], laidByText := true, laidKinds := [.widerDeep, .data, .widerDeep], laidTests := true, laidLooks := .later }
def BlockGetsCardSaid : Prop := Claim7.holds Tryz.pinned (.plain (OpenSpec.ofChange blockGetsSpec)) blockGetsCard

/-- THE SECOND FORM's CARD OF 'mangrovelaw09.BlockKnown'. -/
def blockKnownUptoCard : Claim7 := { stood := { row := blockKnownUptoRow, standIns := [], harness := (true, "8e3caa531ae7c75b975b53c2ad66a0ca9e42dbafa22c714d1e2acb905a3e62f7"), looks := true }, kinds := [], alts := [], laidByText := true, laidKinds := [.widerDeep, .data, .widerDeep], laidTests := true, laidLooks := .later }
def BlockKnownUptoCardSaid : Prop := Claim7.holds Tryz.pinned (.plain (OpenSpec.upto blockKnownSpec)) blockKnownUptoCard

/-- THE SECOND FORM's CARD OF 'mangrovelaw09.BlockPuts'. -/
def blockPutsUptoCard : Claim7 := { stood := { row := blockPutsUptoRow, standIns := [], harness := (true, "8e3caa531ae7c75b975b53c2ad66a0ca9e42dbafa22c714d1e2acb905a3e62f7"), looks := true }, kinds := [], alts := [], laidByText := true, laidKinds := [.widerDeep, .data, .widerDeep], laidTests := true, laidLooks := .later }
def BlockPutsUptoCardSaid : Prop := Claim7.holds Tryz.pinned (.plain (OpenSpec.upto blockPutsSpec)) blockPutsUptoCard

/-- THE SECOND FORM's CARD OF 'mangrovelaw09.BlockGets'. -/
def blockGetsUptoCard : Claim7 := { stood := { row := blockGetsUptoRow, standIns := [], harness := (true, "8e3caa531ae7c75b975b53c2ad66a0ca9e42dbafa22c714d1e2acb905a3e62f7"), looks := true }, kinds := [], alts := [], laidByText := true, laidKinds := [.widerDeep, .data, .widerDeep], laidTests := true, laidLooks := .later }
def BlockGetsUptoCardSaid : Prop := Claim7.holds Tryz.pinned (.plain (OpenSpec.upto blockGetsSpec)) blockGetsUptoCard
end Rows
end Go.Proofs.YtfhhfhdnhadooaaGreatDoor
