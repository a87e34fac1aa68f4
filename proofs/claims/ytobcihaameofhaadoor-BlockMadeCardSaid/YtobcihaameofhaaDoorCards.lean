/-
  DERIVED. GIVEN WITH THE SEED: THE CARDS: each row of YtobcihaameofhaaDoorRows.lean that lists a variable, with what it lists TIED to the program's text (the seventh form; the later family's looks); each row that meets fmt, with fmt's text TOLD by the authors' own Lean function (tested against real Go, not proved from fmt's source: count such statements apart). THE CARD IS WHAT COUNTS. Prove the row's statement (the work); the ties are given (YtobcihaameofhaaDoorTie.lean); close each card by the builder's one call (the guide's Derived/Test/ToyasCard.lean, 'card_holds'). Laid BY PROGRAM, IN A SANDBOX (cutbox-door.mjs). By AI agents, Wed Nov 11 2026. No macro, syntax, notation, axiom, sorry.
-/
import Derived.Test.YtobcihaameofhaaDoorRows
import GoSem.ClaimSeven
namespace Go.Proofs.YtobcihaameofhaaDoor
namespace Rows

/-- THE TIED CARD OF 'mangrovelaw09.BlockCut'. -/
def blockCutCard : Claim7 := { stood := { row := blockCutRow, standIns := [], harness := (true, "fe6085a5530b65b135a6309d85b23e3844c4e278a932477436fe75bdb377455a"), looks := true }, kinds := [], alts := [], laidByText := true, laidKinds := [.widerDeep, .data, .widerDeep], laidTests := true, laidLooks := .later }
def BlockCutCardSaid : Prop := Claim7.holds Tryd.pinned (.plain (OpenSpec.ofChange blockCutSpec)) blockCutCard

/-- THE TIED CARD OF 'mangrovelaw09.BlockRoots'. -/
def blockRootsCard : Claim7 := { stood := { row := blockRootsRow, standIns := [], harness := (true, "fe6085a5530b65b135a6309d85b23e3844c4e278a932477436fe75bdb377455a"), looks := true }, kinds := [], alts := [], laidByText := true, laidKinds := [.widerDeep, .data, .widerDeep], laidTests := true, laidLooks := .later }
def BlockRootsCardSaid : Prop := Claim7.holds Tryd.pinned (.plain (OpenSpec.ofChange blockRootsSpec)) blockRootsCard

/-- THE TIED CARD OF 'mangrovelaw09.BlockMade'. -/
def blockMadeCard : Claim7 := { stood := { row := blockMadeRow, standIns := [], harness := (true, "fe6085a5530b65b135a6309d85b23e3844c4e278a932477436fe75bdb377455a"), looks := true }, kinds := [], alts := [], laidByText := true, laidKinds := [.widerDeep, .data, .widerDeep], laidTests := true, laidLooks := .later }
def BlockMadeCardSaid : Prop := Claim7.holds Tryd.pinned (.plain (OpenSpec.ofChange blockMadeSpec)) blockMadeCard

/-- THE TIED CARD OF 'mangrovelaw09.BlockBack'. -/
def blockBackCard : Claim7 := { stood := { row := blockBackRow, standIns := [], harness := (true, "fe6085a5530b65b135a6309d85b23e3844c4e278a932477436fe75bdb377455a"), looks := true }, kinds := [], alts := [], laidByText := true, laidKinds := [.widerDeep, .data, .widerDeep], laidTests := true, laidLooks := .later }
def BlockBackCardSaid : Prop := Claim7.holds Tryd.pinned (.plain (OpenSpec.ofChange blockBackSpec)) blockBackCard

/-- THE SECOND FORM's CARD OF 'mangrovelaw09.BlockCut'. -/
def blockCutUptoCard : Claim7 := { stood := { row := blockCutUptoRow, standIns := [], harness := (true, "fe6085a5530b65b135a6309d85b23e3844c4e278a932477436fe75bdb377455a"), looks := true }, kinds := [], alts := [], laidByText := true, laidKinds := [.widerDeep, .data, .widerDeep], laidTests := true, laidLooks := .later }
def BlockCutUptoCardSaid : Prop := Claim7.holds Tryd.pinned (.plain (OpenSpec.upto blockCutSpec)) blockCutUptoCard

/-- THE SECOND FORM's CARD OF 'mangrovelaw09.BlockRoots'. -/
def blockRootsUptoCard : Claim7 := { stood := { row := blockRootsUptoRow, standIns := [], harness := (true, "fe6085a5530b65b135a6309d85b23e3844c4e278a932477436fe75bdb377455a"), looks := true }, kinds := [], alts := [], laidByText := true, laidKinds := [.widerDeep, .data, .widerDeep], laidTests := true, laidLooks := .later }
def BlockRootsUptoCardSaid : Prop := Claim7.holds Tryd.pinned (.plain (OpenSpec.upto blockRootsSpec)) blockRootsUptoCard

/-- THE SECOND FORM's CARD OF 'mangrovelaw09.BlockMade'. -/
def blockMadeUptoCard : Claim7 := { stood := { row := blockMadeUptoRow, standIns := [], harness := (true, "fe6085a5530b65b135a6309d85b23e3844c4e278a932477436fe75bdb377455a"), looks := true }, kinds := [], alts := [], laidByText := true, laidKinds := [.widerDeep, .data, .widerDeep], laidTests := true, laidLooks := .later }
def BlockMadeUptoCardSaid : Prop := Claim7.holds Tryd.pinned (.plain (OpenSpec.upto blockMadeSpec)) blockMadeUptoCard

/-- THE SECOND FORM's CARD OF 'mangrovelaw09.BlockBack'. -/
def blockBackUptoCard : Claim7 := { stood := { row := blockBackUptoRow, standIns := [], harness := (true, "fe6085a5530b65b135a6309d85b23e3844c4e278a932477436fe75bdb377455a"), looks := true }, kinds := [], alts := [], laidByText := true, laidKinds := [.widerDeep, .data, .widerDeep], laidTests := true, laidLooks := .later }
def BlockBackUptoCardSaid : Prop := Claim7.holds Tryd.pinned (.plain (OpenSpec.upto blockBackSpec)) blockBackUptoCard
end Rows
end Go.Proofs.YtobcihaameofhaaDoor
