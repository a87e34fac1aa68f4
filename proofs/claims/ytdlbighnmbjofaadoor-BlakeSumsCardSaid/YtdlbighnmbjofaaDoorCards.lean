/-
  DERIVED. GIVEN WITH THE SEED: THE CARDS: each row of YtdlbighnmbjofaaDoorRows.lean that lists a variable, with what it lists TIED to the program's text (the seventh form; the later family's looks); each row that meets fmt, with fmt's text TOLD by the authors' own Lean function (tested against real Go, not proved from fmt's source: count such statements apart). THE CARD IS WHAT COUNTS. Prove the row's statement (the work); the ties are given (YtdlbighnmbjofaaDoorTie.lean); close each card by the builder's one call (the guide's Derived/Test/ToyasCard.lean, 'card_holds'). Laid BY PROGRAM, IN A SANDBOX (cutbox-door.mjs). By AI agents, Wed Nov 11 2026. No macro, syntax, notation, axiom, sorry.
-/
import Derived.Test.YtdlbighnmbjofaaDoorRows
import GoSem.ClaimSeven
namespace Go.Proofs.YtdlbighnmbjofaaDoor
namespace Rows

/-- THE TIED CARD OF 'mangrovelaw01.BlakeKeys'. -/
def blakeKeysCard : Claim7 := { stood := { row := blakeKeysRow, standIns := [], harness := (true, "da36cad7198658958a7dc3adca262be93d58c30807c293acb22f402d59b509ad"), looks := false }, kinds := [], alts := [], laidByText := true, laidKinds := [.widerDeep, .data], laidTests := true, laidLooks := .later }
def BlakeKeysCardSaid : Prop := Claim7.holds Tryd.pinned (.plain (OpenSpec.ofChange blakeKeysSpec)) blakeKeysCard

/-- THE TIED CARD OF 'mangrovelaw01.BlakeSums'. -/
def blakeSumsCard : Claim7 := { stood := { row := blakeSumsRow, standIns := [], harness := (true, "da36cad7198658958a7dc3adca262be93d58c30807c293acb22f402d59b509ad"), looks := false }, kinds := [], alts := [], laidByText := true, laidKinds := [.widerDeep, .data], laidTests := true, laidLooks := .later }
def BlakeSumsCardSaid : Prop := Claim7.holds Tryd.pinned (.plain (OpenSpec.ofChange blakeSumsSpec)) blakeSumsCard

/-- THE TIED CARD OF 'mangrovelaw01.BlakeTags'. -/
def blakeTagsCard : Claim7 := { stood := { row := blakeTagsRow, standIns := [], harness := (true, "da36cad7198658958a7dc3adca262be93d58c30807c293acb22f402d59b509ad"), looks := false }, kinds := [], alts := [], laidByText := true, laidKinds := [.widerDeep, .data], laidTests := true, laidLooks := .later }
def BlakeTagsCardSaid : Prop := Claim7.holds Tryd.pinned (.plain (OpenSpec.ofChange blakeTagsSpec)) blakeTagsCard

/-- THE TIED CARD OF 'mangrovelaw01.BlakeKnown'. -/
def blakeKnownCard : Claim7 := { stood := { row := blakeKnownRow, standIns := [], harness := (true, "da36cad7198658958a7dc3adca262be93d58c30807c293acb22f402d59b509ad"), looks := false }, kinds := [], alts := [], laidByText := true, laidKinds := [.widerDeep, .data], laidTests := true, laidLooks := .later }
def BlakeKnownCardSaid : Prop := Claim7.holds Tryd.pinned (.plain (OpenSpec.ofChange blakeKnownSpec)) blakeKnownCard

/-- THE SECOND FORM's CARD OF 'mangrovelaw01.BlakeKeys'. -/
def blakeKeysUptoCard : Claim7 := { stood := { row := blakeKeysUptoRow, standIns := [], harness := (true, "da36cad7198658958a7dc3adca262be93d58c30807c293acb22f402d59b509ad"), looks := false }, kinds := [], alts := [], laidByText := true, laidKinds := [.widerDeep, .data], laidTests := true, laidLooks := .later }
def BlakeKeysUptoCardSaid : Prop := Claim7.holds Tryd.pinned (.plain (OpenSpec.upto blakeKeysSpec)) blakeKeysUptoCard

/-- THE SECOND FORM's CARD OF 'mangrovelaw01.BlakeSums'. -/
def blakeSumsUptoCard : Claim7 := { stood := { row := blakeSumsUptoRow, standIns := [], harness := (true, "da36cad7198658958a7dc3adca262be93d58c30807c293acb22f402d59b509ad"), looks := false }, kinds := [], alts := [], laidByText := true, laidKinds := [.widerDeep, .data], laidTests := true, laidLooks := .later }
def BlakeSumsUptoCardSaid : Prop := Claim7.holds Tryd.pinned (.plain (OpenSpec.upto blakeSumsSpec)) blakeSumsUptoCard

/-- THE SECOND FORM's CARD OF 'mangrovelaw01.BlakeTags'. -/
def blakeTagsUptoCard : Claim7 := { stood := { row := blakeTagsUptoRow, standIns := [], harness := (true, "da36cad7198658958a7dc3adca262be93d58c30807c293acb22f402d59b509ad"), looks := false }, kinds := [], alts := [], laidByText := true, laidKinds := [.widerDeep, .data], laidTests := true, laidLooks := .later }
def BlakeTagsUptoCardSaid : Prop := Claim7.holds Tryd.pinned (.plain (OpenSpec.upto blakeTagsSpec)) blakeTagsUptoCard

/-- THE SECOND FORM's CARD OF 'mangrovelaw01.BlakeKnown'. -/
def blakeKnownUptoCard : Claim7 := { stood := { row := blakeKnownUptoRow, standIns := [], harness := (true, "da36cad7198658958a7dc3adca262be93d58c30807c293acb22f402d59b509ad"), looks := false }, kinds := [], alts := [], laidByText := true, laidKinds := [.widerDeep, .data], laidTests := true, laidLooks := .later }
def BlakeKnownUptoCardSaid : Prop := Claim7.holds Tryd.pinned (.plain (OpenSpec.upto blakeKnownSpec)) blakeKnownUptoCard
end Rows
end Go.Proofs.YtdlbighnmbjofaaDoor
