/-
  DERIVED. GIVEN WITH THE SEED: THE CARDS: each row of YtejaohlijaodjaaDoorRows.lean that lists a variable, with what it lists TIED to the program's text (the seventh form; the later family's looks); each row that meets fmt, with fmt's text TOLD by the authors' own Lean function (tested against real Go, not proved from fmt's source: count such statements apart). THE CARD IS WHAT COUNTS. Prove the row's statement (the work); the ties are given (YtejaohlijaodjaaDoorTie.lean); close each card by the builder's one call (the guide's Derived/Test/ToyasCard.lean, 'card_holds'). Laid BY PROGRAM, IN A SANDBOX (cutbox-door.mjs). By AI agents, Wed Nov 11 2026. No macro, syntax, notation, axiom, sorry.
-/
import Derived.Test.YtejaohlijaodjaaDoorRows
import GoSem.ClaimSeven
namespace Go.Proofs.YtejaohlijaodjaaDoor
namespace Rows

/-- THE TIED CARD OF 'mangrovelaw03.PackForms'. -/
def packFormsCard : Claim7 := { stood := { row := packFormsRow, standIns := [], harness := (true, "e76aeb4e9e11d8b0c35a53f56e258f686fe85274c2e3f490cddcb7a47cce8d0c"), looks := true }, kinds := [], alts := [], laidByText := true, laidKinds := [.widerDeep], laidTests := true, laidLooks := .later }
def PackFormsCardSaid : Prop := Claim7.holds Tryd.pinned (.plain (OpenSpec.ofChange packFormsSpec)) packFormsCard

/-- THE TIED CARD OF 'mangrovelaw03.PackLays'. -/
def packLaysCard : Claim7 := { stood := { row := packLaysRow, standIns := [], harness := (true, "e76aeb4e9e11d8b0c35a53f56e258f686fe85274c2e3f490cddcb7a47cce8d0c"), looks := true }, kinds := [], alts := [], laidByText := true, laidKinds := [.widerDeep], laidTests := true, laidLooks := .later }
def PackLaysCardSaid : Prop := Claim7.holds Tryd.pinned (.plain (OpenSpec.ofChange packLaysSpec)) packLaysCard

/-- THE TIED CARD OF 'mangrovelaw03.PackReads'. -/
def packReadsCard : Claim7 := { stood := { row := packReadsRow, standIns := [], harness := (true, "e76aeb4e9e11d8b0c35a53f56e258f686fe85274c2e3f490cddcb7a47cce8d0c"), looks := true }, kinds := [], alts := [], laidByText := true, laidKinds := [.widerDeep], laidTests := true, laidLooks := .later }
def PackReadsCardSaid : Prop := Claim7.holds Tryd.pinned (.plain (OpenSpec.ofChange packReadsSpec)) packReadsCard

/-- THE TIED CARD OF 'mangrovelaw03.PackBack'. -/
def packBackCard : Claim7 := { stood := { row := packBackRow, standIns := [], harness := (true, "e76aeb4e9e11d8b0c35a53f56e258f686fe85274c2e3f490cddcb7a47cce8d0c"), looks := true }, kinds := [], alts := [], laidByText := true, laidKinds := [.widerDeep], laidTests := true, laidLooks := .later }
def PackBackCardSaid : Prop := Claim7.holds Tryd.pinned (.plain (OpenSpec.ofChange packBackSpec)) packBackCard

/-- THE TIED CARD OF 'mangrovelaw03.PackCut'. -/
def packCutCard : Claim7 := { stood := { row := packCutRow, standIns := [], harness := (true, "e76aeb4e9e11d8b0c35a53f56e258f686fe85274c2e3f490cddcb7a47cce8d0c"), looks := true }, kinds := [], alts := [], laidByText := true, laidKinds := [.widerDeep], laidTests := true, laidLooks := .later }
def PackCutCardSaid : Prop := Claim7.holds Tryd.pinned (.plain (OpenSpec.ofChange packCutSpec)) packCutCard

/-- THE TIED CARD OF 'mangrovelaw03.PackForm'. -/
def packFormCard : Claim7 := { stood := { row := packFormRow, standIns := [], harness := (true, "e76aeb4e9e11d8b0c35a53f56e258f686fe85274c2e3f490cddcb7a47cce8d0c"), looks := true }, kinds := [], alts := [], laidByText := true, laidKinds := [.widerDeep], laidTests := true, laidLooks := .later }
def PackFormCardSaid : Prop := Claim7.holds Tryd.pinned (.plain (OpenSpec.ofChange packFormSpec)) packFormCard

/-- THE TIED CARD OF 'mangrovelaw03.PackKnown'. -/
def packKnownCard : Claim7 := { stood := { row := packKnownRow, standIns := [], harness := (true, "e76aeb4e9e11d8b0c35a53f56e258f686fe85274c2e3f490cddcb7a47cce8d0c"), looks := true }, kinds := [], alts := [], laidByText := true, laidKinds := [.widerDeep], laidTests := true, laidLooks := .later }
def PackKnownCardSaid : Prop := Claim7.holds Tryd.pinned (.plain (OpenSpec.ofChange packKnownSpec)) packKnownCard

/-- THE TIED CARD OF 'mangrovelaw05.SignAnswers'. -/
def signAnswersCard : Claim7 := { stood := { row := signAnswersRow, standIns := [], harness := (true, "e76aeb4e9e11d8b0c35a53f56e258f686fe85274c2e3f490cddcb7a47cce8d0c"), looks := true }, kinds := [], alts := [], laidByText := true, laidKinds := [.widerDeep, .data, .widerDeep], laidTests := true, laidLooks := .later }
def SignAnswersCardSaid : Prop := Claim7.holds Tryd.pinned (.plain (OpenSpec.ofChange signAnswersSpec)) signAnswersCard

/-- THE TIED CARD OF 'mangrovelaw05.SignOwn'. -/
def signOwnCard : Claim7 := { stood := { row := signOwnRow, standIns := [], harness := (true, "e76aeb4e9e11d8b0c35a53f56e258f686fe85274c2e3f490cddcb7a47cce8d0c"), looks := true }, kinds := [], alts := [], laidByText := true, laidKinds := [.widerDeep, .data, .widerDeep], laidTests := true, laidLooks := .later }
def SignOwnCardSaid : Prop := Claim7.holds Tryd.pinned (.plain (OpenSpec.ofChange signOwnSpec)) signOwnCard

/-- THE TIED CARD OF 'mangrovelaw05.SignKnown'. -/
def signKnownCard : Claim7 := { stood := { row := signKnownRow, standIns := [], harness := (true, "e76aeb4e9e11d8b0c35a53f56e258f686fe85274c2e3f490cddcb7a47cce8d0c"), looks := true }, kinds := [], alts := [], laidByText := true, laidKinds := [.widerDeep, .data, .widerDeep], laidTests := true, laidLooks := .later }
def SignKnownCardSaid : Prop := Claim7.holds Tryd.pinned (.plain (OpenSpec.ofChange signKnownSpec)) signKnownCard

/-- THE TIED CARD OF 'mangrovelaw21.MessagePuts'. -/
def messagePutsCard : Claim7 := { stood := { row := messagePutsRow, standIns := [], harness := (true, "e76aeb4e9e11d8b0c35a53f56e258f686fe85274c2e3f490cddcb7a47cce8d0c"), looks := true }, kinds := [], alts := [], laidByText := true, laidKinds := [.widerDeep], laidTests := true, laidLooks := .later }
def MessagePutsCardSaid : Prop := Claim7.holds Tryd.pinned (.plain (OpenSpec.ofChange messagePutsSpec)) messagePutsCard

/-- THE TIED CARD OF 'mangrovelaw21.MessageGets'. -/
def messageGetsCard : Claim7 := { stood := { row := messageGetsRow, standIns := [], harness := (true, "e76aeb4e9e11d8b0c35a53f56e258f686fe85274c2e3f490cddcb7a47cce8d0c"), looks := true }, kinds := [], alts := [], laidByText := true, laidKinds := [.widerDeep], laidTests := true, laidLooks := .later }
def MessageGetsCardSaid : Prop := Claim7.holds Tryd.pinned (.plain (OpenSpec.ofChange messageGetsSpec)) messageGetsCard

/-- THE TIED CARD OF 'mangrovelaw21.MessageBack'. -/
def messageBackCard : Claim7 := { stood := { row := messageBackRow, standIns := [], harness := (true, "e76aeb4e9e11d8b0c35a53f56e258f686fe85274c2e3f490cddcb7a47cce8d0c"), looks := true }, kinds := [], alts := [], laidByText := true, laidKinds := [.widerDeep], laidTests := true, laidLooks := .later }
def MessageBackCardSaid : Prop := Claim7.holds Tryd.pinned (.plain (OpenSpec.ofChange messageBackSpec)) messageBackCard

/-- THE TIED CARD OF 'mangrovelaw21.MessageCut'. -/
def messageCutCard : Claim7 := { stood := { row := messageCutRow, standIns := [], harness := (true, "e76aeb4e9e11d8b0c35a53f56e258f686fe85274c2e3f490cddcb7a47cce8d0c"), looks := true }, kinds := [], alts := [], laidByText := true, laidKinds := [.widerDeep], laidTests := true, laidLooks := .later }
def MessageCutCardSaid : Prop := Claim7.holds Tryd.pinned (.plain (OpenSpec.ofChange messageCutSpec)) messageCutCard

/-- THE TIED CARD OF 'mangrovelaw21.MessageKnown'. -/
def messageKnownCard : Claim7 := { stood := { row := messageKnownRow, standIns := [], harness := (true, "e76aeb4e9e11d8b0c35a53f56e258f686fe85274c2e3f490cddcb7a47cce8d0c"), looks := true }, kinds := [], alts := [], laidByText := true, laidKinds := [.widerDeep], laidTests := true, laidLooks := .later }
def MessageKnownCardSaid : Prop := Claim7.holds Tryd.pinned (.plain (OpenSpec.ofChange messageKnownSpec)) messageKnownCard

/-- THE SECOND FORM's CARD OF 'mangrovelaw03.PackForms'. -/
def packFormsUptoCard : Claim7 := { stood := { row := packFormsUptoRow, standIns := [], harness := (true, "e76aeb4e9e11d8b0c35a53f56e258f686fe85274c2e3f490cddcb7a47cce8d0c"), looks := true }, kinds := [], alts := [], laidByText := true, laidKinds := [.widerDeep], laidTests := true, laidLooks := .later }
def PackFormsUptoCardSaid : Prop := Claim7.holds Tryd.pinned (.plain (OpenSpec.upto packFormsSpec)) packFormsUptoCard

/-- THE SECOND FORM's CARD OF 'mangrovelaw03.PackLays'. -/
def packLaysUptoCard : Claim7 := { stood := { row := packLaysUptoRow, standIns := [], harness := (true, "e76aeb4e9e11d8b0c35a53f56e258f686fe85274c2e3f490cddcb7a47cce8d0c"), looks := true }, kinds := [], alts := [], laidByText := true, laidKinds := [.widerDeep], laidTests := true, laidLooks := .later }
def PackLaysUptoCardSaid : Prop := Claim7.holds Tryd.pinned (.plain (OpenSpec.upto packLaysSpec)) packLaysUptoCard

/-- THE SECOND FORM's CARD OF 'mangrovelaw03.PackReads'. -/
def packReadsUptoCard : Claim7 := { stood := { row := packReadsUptoRow, standIns := [], harness := (true, "e76aeb4e9e11d8b0c35a53f56e258f686fe85274c2e3f490cddcb7a47cce8d0c"), looks := true }, kinds := [], alts := [], laidByText := true, laidKinds := [.widerDeep], laidTests := true, laidLooks := .later }
def PackReadsUptoCardSaid : Prop := Claim7.holds Tryd.pinned (.plain (OpenSpec.upto packReadsSpec)) packReadsUptoCard

/-- THE SECOND FORM's CARD OF 'mangrovelaw03.PackBack'. -/
def packBackUptoCard : Claim7 := { stood := { row := packBackUptoRow, standIns := [], harness := (true, "e76aeb4e9e11d8b0c35a53f56e258f686fe85274c2e3f490cddcb7a47cce8d0c"), looks := true }, kinds := [], alts := [], laidByText := true, laidKinds := [.widerDeep], laidTests := true, laidLooks := .later }
def PackBackUptoCardSaid : Prop := Claim7.holds Tryd.pinned (.plain (OpenSpec.upto packBackSpec)) packBackUptoCard

/-- THE SECOND FORM's CARD OF 'mangrovelaw03.PackCut'. -/
def packCutUptoCard : Claim7 := { stood := { row := packCutUptoRow, standIns := [], harness := (true, "e76aeb4e9e11d8b0c35a53f56e258f686fe85274c2e3f490cddcb7a47cce8d0c"), looks := true }, kinds := [], alts := [], laidByText := true, laidKinds := [.widerDeep], laidTests := true, laidLooks := .later }
def PackCutUptoCardSaid : Prop := Claim7.holds Tryd.pinned (.plain (OpenSpec.upto packCutSpec)) packCutUptoCard

/-- THE SECOND FORM's CARD OF 'mangrovelaw03.PackForm'. -/
def packFormUptoCard : Claim7 := { stood := { row := packFormUptoRow, standIns := [], harness := (true, "e76aeb4e9e11d8b0c35a53f56e258f686fe85274c2e3f490cddcb7a47cce8d0c"), looks := true }, kinds := [], alts := [], laidByText := true, laidKinds := [.widerDeep], laidTests := true, laidLooks := .later }
def PackFormUptoCardSaid : Prop := Claim7.holds Tryd.pinned (.plain (OpenSpec.upto packFormSpec)) packFormUptoCard

/-- THE SECOND FORM's CARD OF 'mangrovelaw03.PackKnown'. -/
def packKnownUptoCard : Claim7 := { stood := { row := packKnownUptoRow, standIns := [], harness := (true, "e76aeb4e9e11d8b0c35a53f56e258f686fe85274c2e3f490cddcb7a47cce8d0c"), looks := true }, kinds := [], alts := [], laidByText := true, laidKinds := [.widerDeep], laidTests := true, laidLooks := .later }
def PackKnownUptoCardSaid : Prop := Claim7.holds Tryd.pinned (.plain (OpenSpec.upto packKnownSpec)) packKnownUptoCard

/-- THE SECOND FORM's CARD OF 'mangrovelaw05.SignAnswers'. -/
def signAnswersUptoCard : Claim7 := { stood := { row := signAnswersUptoRow, standIns := [], harness := (true, "e76aeb4e9e11d8b0c35a53f56e258f686fe85274c2e3f490cddcb7a47cce8d0c"), looks := true }, kinds := [], alts := [], laidByText := true, laidKinds := [.widerDeep, .data, .widerDeep], laidTests := true, laidLooks := .later }
def SignAnswersUptoCardSaid : Prop := Claim7.holds Tryd.pinned (.plain (OpenSpec.upto signAnswersSpec)) signAnswersUptoCard

/-- THE SECOND FORM's CARD OF 'mangrovelaw05.SignOwn'. -/
def signOwnUptoCard : Claim7 := { stood := { row := signOwnUptoRow, standIns := [], harness := (true, "e76aeb4e9e11d8b0c35a53f56e258f686fe85274c2e3f490cddcb7a47cce8d0c"), looks := true }, kinds := [], alts := [], laidByText := true, laidKinds := [.widerDeep, .data, .widerDeep], laidTests := true, laidLooks := .later }
def SignOwnUptoCardSaid : Prop := Claim7.holds Tryd.pinned (.plain (OpenSpec.upto signOwnSpec)) signOwnUptoCard

/-- THE SECOND FORM's CARD OF 'mangrovelaw05.SignKnown'. -/
def signKnownUptoCard : Claim7 := { stood := { row := signKnownUptoRow, standIns := [], harness := (true, "e76aeb4e9e11d8b0c35a53f56e258f686fe85274c2e3f490cddcb7a47cce8d0c"), looks := true }, kinds := [], alts := [], laidByText := true, laidKinds := [.widerDeep, .data, .widerDeep], laidTests := true, laidLooks := .later }
def SignKnownUptoCardSaid : Prop := Claim7.holds Tryd.pinned (.plain (OpenSpec.upto signKnownSpec)) signKnownUptoCard

/-- THE SECOND FORM's CARD OF 'mangrovelaw21.MessagePuts'. -/
def messagePutsUptoCard : Claim7 := { stood := { row := messagePutsUptoRow, standIns := [], harness := (true, "e76aeb4e9e11d8b0c35a53f56e258f686fe85274c2e3f490cddcb7a47cce8d0c"), looks := true }, kinds := [], alts := [], laidByText := true, laidKinds := [.widerDeep], laidTests := true, laidLooks := .later }
def MessagePutsUptoCardSaid : Prop := Claim7.holds Tryd.pinned (.plain (OpenSpec.upto messagePutsSpec)) messagePutsUptoCard

/-- THE SECOND FORM's CARD OF 'mangrovelaw21.MessageGets'. -/
def messageGetsUptoCard : Claim7 := { stood := { row := messageGetsUptoRow, standIns := [], harness := (true, "e76aeb4e9e11d8b0c35a53f56e258f686fe85274c2e3f490cddcb7a47cce8d0c"), looks := true }, kinds := [], alts := [], laidByText := true, laidKinds := [.widerDeep], laidTests := true, laidLooks := .later }
def MessageGetsUptoCardSaid : Prop := Claim7.holds Tryd.pinned (.plain (OpenSpec.upto messageGetsSpec)) messageGetsUptoCard

/-- THE SECOND FORM's CARD OF 'mangrovelaw21.MessageBack'. -/
def messageBackUptoCard : Claim7 := { stood := { row := messageBackUptoRow, standIns := [], harness := (true, "e76aeb4e9e11d8b0c35a53f56e258f686fe85274c2e3f490cddcb7a47cce8d0c"), looks := true }, kinds := [], alts := [], laidByText := true, laidKinds := [.widerDeep], laidTests := true, laidLooks := .later }
def MessageBackUptoCardSaid : Prop := Claim7.holds Tryd.pinned (.plain (OpenSpec.upto messageBackSpec)) messageBackUptoCard

/-- THE SECOND FORM's CARD OF 'mangrovelaw21.MessageCut'. -/
def messageCutUptoCard : Claim7 := { stood := { row := messageCutUptoRow, standIns := [], harness := (true, "e76aeb4e9e11d8b0c35a53f56e258f686fe85274c2e3f490cddcb7a47cce8d0c"), looks := true }, kinds := [], alts := [], laidByText := true, laidKinds := [.widerDeep], laidTests := true, laidLooks := .later }
def MessageCutUptoCardSaid : Prop := Claim7.holds Tryd.pinned (.plain (OpenSpec.upto messageCutSpec)) messageCutUptoCard

/-- THE SECOND FORM's CARD OF 'mangrovelaw21.MessageKnown'. -/
def messageKnownUptoCard : Claim7 := { stood := { row := messageKnownUptoRow, standIns := [], harness := (true, "e76aeb4e9e11d8b0c35a53f56e258f686fe85274c2e3f490cddcb7a47cce8d0c"), looks := true }, kinds := [], alts := [], laidByText := true, laidKinds := [.widerDeep], laidTests := true, laidLooks := .later }
def MessageKnownUptoCardSaid : Prop := Claim7.holds Tryd.pinned (.plain (OpenSpec.upto messageKnownSpec)) messageKnownUptoCard
end Rows
end Go.Proofs.YtejaohlijaodjaaDoor
