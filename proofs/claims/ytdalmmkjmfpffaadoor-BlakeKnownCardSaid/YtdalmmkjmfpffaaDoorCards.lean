/-
  DERIVED. GIVEN WITH THE SEED: THE CARDS: each row of YtdalmmkjmfpffaaDoorRows.lean that lists a variable, with what it lists TIED to the program's text (the seventh form; the later family's looks); each row that meets fmt, with fmt's text TOLD by the authors' own Lean function (tested against real Go, not proved from fmt's source: count such statements apart). THE CARD IS WHAT COUNTS. Prove the row's statement (the work); the ties are given (YtdalmmkjmfpffaaDoorTie.lean); close each card by the builder's one call (the guide's Derived/Test/ToyasCard.lean, 'card_holds'). Laid BY PROGRAM, IN A SANDBOX (cutbox-door.mjs). By AI agents, Wed Nov 11 2026. No macro, syntax, notation, axiom, sorry.
-/
import Derived.Test.YtdalmmkjmfpffaaDoorRows
import GoSem.ClaimSeven
namespace Go.Proofs.YtdalmmkjmfpffaaDoor
namespace Rows

/-- THE TIED CARD OF 'mangrovelaw01.BlakeKnown'. -/
def blakeKnownCard : Claim7 := { stood := { row := blakeKnownRow, standIns := [], harness := (true, "63ea65e20f48510ecf738927619c0f13d5133d276d6b887a5fb08ed01e97e7d2"), looks := true }, kinds := [], alts := [], laidByText := true, laidKinds := [.widerDeep, .data], laidTests := true, laidLooks := .later }
def BlakeKnownCardSaid : Prop := Claim7.holds Tryd.pinned (.plain (OpenSpec.ofChange blakeKnownSpec)) blakeKnownCard

/-- THE TIED CARD OF 'mangrovelaw07.TxBack'. -/
def txBackCard : Claim7 := { stood := { row := txBackRow, standIns := [], harness := (true, "63ea65e20f48510ecf738927619c0f13d5133d276d6b887a5fb08ed01e97e7d2"), looks := true }, kinds := [], alts := [], laidByText := true, laidKinds := [.widerDeep, .data, .widerDeep], laidTests := true, laidLooks := .later }
def TxBackCardSaid : Prop := Claim7.holds Tryd.pinned (.plain (OpenSpec.ofChange txBackSpec)) txBackCard

/-- THE TIED CARD OF 'mangrovelaw07.TxCut'. -/
def txCutCard : Claim7 := { stood := { row := txCutRow, standIns := [], harness := (true, "63ea65e20f48510ecf738927619c0f13d5133d276d6b887a5fb08ed01e97e7d2"), looks := true }, kinds := [], alts := [], laidByText := true, laidKinds := [.widerDeep, .data, .widerDeep], laidTests := true, laidLooks := .later }
def TxCutCardSaid : Prop := Claim7.holds Tryd.pinned (.plain (OpenSpec.ofChange txCutSpec)) txCutCard

/-- THE TIED CARD OF 'mangrovelaw07.TxBare'. -/
def txBareCard : Claim7 := { stood := { row := txBareRow, standIns := [], harness := (true, "63ea65e20f48510ecf738927619c0f13d5133d276d6b887a5fb08ed01e97e7d2"), looks := true }, kinds := [], alts := [], laidByText := true, laidKinds := [.widerDeep, .data, .widerDeep], laidTests := true, laidLooks := .later }
def TxBareCardSaid : Prop := Claim7.holds Tryd.pinned (.plain (OpenSpec.ofChange txBareSpec)) txBareCard

/-- THE SECOND FORM's CARD OF 'mangrovelaw01.BlakeKnown'. -/
def blakeKnownUptoCard : Claim7 := { stood := { row := blakeKnownUptoRow, standIns := [], harness := (true, "63ea65e20f48510ecf738927619c0f13d5133d276d6b887a5fb08ed01e97e7d2"), looks := true }, kinds := [], alts := [], laidByText := true, laidKinds := [.widerDeep, .data], laidTests := true, laidLooks := .later }
def BlakeKnownUptoCardSaid : Prop := Claim7.holds Tryd.pinned (.plain (OpenSpec.upto blakeKnownSpec)) blakeKnownUptoCard

/-- THE SECOND FORM's CARD OF 'mangrovelaw07.TxBack'. -/
def txBackUptoCard : Claim7 := { stood := { row := txBackUptoRow, standIns := [], harness := (true, "63ea65e20f48510ecf738927619c0f13d5133d276d6b887a5fb08ed01e97e7d2"), looks := true }, kinds := [], alts := [], laidByText := true, laidKinds := [.widerDeep, .data, .widerDeep], laidTests := true, laidLooks := .later }
def TxBackUptoCardSaid : Prop := Claim7.holds Tryd.pinned (.plain (OpenSpec.upto txBackSpec)) txBackUptoCard

/-- THE SECOND FORM's CARD OF 'mangrovelaw07.TxCut'. -/
def txCutUptoCard : Claim7 := { stood := { row := txCutUptoRow, standIns := [], harness := (true, "63ea65e20f48510ecf738927619c0f13d5133d276d6b887a5fb08ed01e97e7d2"), looks := true }, kinds := [], alts := [], laidByText := true, laidKinds := [.widerDeep, .data, .widerDeep], laidTests := true, laidLooks := .later }
def TxCutUptoCardSaid : Prop := Claim7.holds Tryd.pinned (.plain (OpenSpec.upto txCutSpec)) txCutUptoCard

/-- THE SECOND FORM's CARD OF 'mangrovelaw07.TxBare'. -/
def txBareUptoCard : Claim7 := { stood := { row := txBareUptoRow, standIns := [], harness := (true, "63ea65e20f48510ecf738927619c0f13d5133d276d6b887a5fb08ed01e97e7d2"), looks := true }, kinds := [], alts := [], laidByText := true, laidKinds := [.widerDeep, .data, .widerDeep], laidTests := true, laidLooks := .later }
def TxBareUptoCardSaid : Prop := Claim7.holds Tryd.pinned (.plain (OpenSpec.upto txBareSpec)) txBareUptoCard
end Rows
end Go.Proofs.YtdalmmkjmfpffaaDoor
