/-
  DERIVED. GIVEN WITH THE SEED: THE CARDS: each row of YtfjhmecmhchbdaaDoorRows.lean that lists a variable, with what it lists TIED to the program's text (the seventh form; the later family's looks); each row that meets fmt, with fmt's text TOLD by the authors' own Lean function (tested against real Go, not proved from fmt's source: count such statements apart). THE CARD IS WHAT COUNTS. Prove the row's statement (the work); the ties are given (YtfjhmecmhchbdaaDoorTie.lean); close each card by the builder's one call (the guide's Derived/Test/ToyasCard.lean, 'card_holds'). Laid BY PROGRAM, IN A SANDBOX (cutbox-door.mjs). By AI agents, Wed Nov 11 2026. No macro, syntax, notation, axiom, sorry.
-/
import Derived.Test.YtfjhmecmhchbdaaDoorRows
import GoSem.ClaimSeven
namespace Go.Proofs.YtfjhmecmhchbdaaDoor
namespace Rows

/-- THE TIED CARD OF 'mangrovelaw22.RecordBack'. -/
def recordBackCard : Claim7 := { stood := { row := recordBackRow, standIns := [], harness := (true, "bf6441d5784808a7f533cf7c8875a0d4ccdf32f650c914391e332acc75ebc512"), looks := true }, kinds := [], alts := [], laidByText := true, laidKinds := [.widerDeep], laidTests := true, laidLooks := .later }
def RecordBackCardSaid : Prop := Claim7.holds Tryd.pinned (.plain (OpenSpec.ofChange recordBackSpec)) recordBackCard

/-- THE TIED CARD OF 'mangrovelaw22.RecordDeals'. -/
def recordDealsCard : Claim7 := { stood := { row := recordDealsRow, standIns := [], harness := (true, "bf6441d5784808a7f533cf7c8875a0d4ccdf32f650c914391e332acc75ebc512"), looks := true }, kinds := [], alts := [], laidByText := true, laidKinds := [.widerDeep], laidTests := true, laidLooks := .later }
def RecordDealsCardSaid : Prop := Claim7.holds Tryd.pinned (.plain (OpenSpec.ofChange recordDealsSpec)) recordDealsCard

/-- THE TIED CARD OF 'mangrovelaw22.RecordKnown'. -/
def recordKnownCard : Claim7 := { stood := { row := recordKnownRow, standIns := [], harness := (true, "bf6441d5784808a7f533cf7c8875a0d4ccdf32f650c914391e332acc75ebc512"), looks := true }, kinds := [], alts := [], laidByText := true, laidKinds := [.widerDeep], laidTests := true, laidLooks := .later }
def RecordKnownCardSaid : Prop := Claim7.holds Tryd.pinned (.plain (OpenSpec.ofChange recordKnownSpec)) recordKnownCard

/-- THE SECOND FORM's CARD OF 'mangrovelaw22.RecordBack'. -/
def recordBackUptoCard : Claim7 := { stood := { row := recordBackUptoRow, standIns := [], harness := (true, "bf6441d5784808a7f533cf7c8875a0d4ccdf32f650c914391e332acc75ebc512"), looks := true }, kinds := [], alts := [], laidByText := true, laidKinds := [.widerDeep], laidTests := true, laidLooks := .later }
def RecordBackUptoCardSaid : Prop := Claim7.holds Tryd.pinned (.plain (OpenSpec.upto recordBackSpec)) recordBackUptoCard

/-- THE SECOND FORM's CARD OF 'mangrovelaw22.RecordDeals'. -/
def recordDealsUptoCard : Claim7 := { stood := { row := recordDealsUptoRow, standIns := [], harness := (true, "bf6441d5784808a7f533cf7c8875a0d4ccdf32f650c914391e332acc75ebc512"), looks := true }, kinds := [], alts := [], laidByText := true, laidKinds := [.widerDeep], laidTests := true, laidLooks := .later }
def RecordDealsUptoCardSaid : Prop := Claim7.holds Tryd.pinned (.plain (OpenSpec.upto recordDealsSpec)) recordDealsUptoCard

/-- THE SECOND FORM's CARD OF 'mangrovelaw22.RecordKnown'. -/
def recordKnownUptoCard : Claim7 := { stood := { row := recordKnownUptoRow, standIns := [], harness := (true, "bf6441d5784808a7f533cf7c8875a0d4ccdf32f650c914391e332acc75ebc512"), looks := true }, kinds := [], alts := [], laidByText := true, laidKinds := [.widerDeep], laidTests := true, laidLooks := .later }
def RecordKnownUptoCardSaid : Prop := Claim7.holds Tryd.pinned (.plain (OpenSpec.upto recordKnownSpec)) recordKnownUptoCard
end Rows
end Go.Proofs.YtfjhmecmhchbdaaDoor
