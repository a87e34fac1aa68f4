/-
  NARROWER THAN 'FOR EVERY INPUT', by the rows' own cells (each row's printed sentence says how): PackForms: laid · PackLays: laid · PackReads: laid · PackBack: laid · PackCut: laid · PackForm: laid · PackKnown: laid · SignAnswers: laid · SignOwn: laid · SignKnown: laid · MessagePuts: laid · MessageGets: laid · MessageBack: laid · MessageCut: laid · MessageKnown: laid.
  DERIVED. THE GIVEN ROWS OF THIS SEAT. 15 by the template 'for every input the law returns true; each argument reads behind the call as it read before'; 0 by the template 'total and deterministic' (their statements: YtejaohlijaodjaaDoorTotals.lean).
  GIVEN WITH THE SEED: the statements are not yours to turn. If you find one false, say at which input.
  Laid BY PROGRAM, IN A SANDBOX (cutbox-rows.mjs): the forced cells as the released guide's own fill.sh prints them over the translation 55dadea1a21b1cb5… (all of the seat's roots in one cut). By AI agents, Wed Nov 11 2026. No macro, syntax, notation, axiom, sorry.
-/
import Derived.Test.YtejaohlijaodjaaDoorChecked
import GoSem.Claim
import GoSem.ClaimJoined
import GoSem.ClaimMapViews
import Derived.JoinedTies
import Derived.KernelRfl
namespace Go.Proofs.YtejaohlijaodjaaDoor
/- THE CELL 'sum', in the pinned program and in every row, IS THE sha256 OF THE DUMP (.gsa) THAT YtejaohlijaodjaaDoorProg.lean LOADS. Nothing in Lean hashes anything: it is a label: what it is worth is what the hold of that sum in a sandbox is worth. -/
noncomputable def Tryd.pinned : Pinned := { name := "ytejaohlijaodjaadoor", sum := "55dadea1a21b1cb5e0e00bd93a75d92ce353d71820e03faf96050696f3ef2273", checked := Tryd.checked }
namespace Rows
def none {H : Type} : Left H := { results := [], args := [] }

/- WHAT THE LISTED PACKAGE-LEVEL VARIABLES READ AS WHEN THE CALL BEGINS. Each datum BY PROGRAM (the guide's laid-datum.mjs) off the statement by which the dump's own 'gosem.cut.vars' lays the variable. In a bare row this is a premise. The card (YtejaohlijaodjaaDoorCards.lean) ties it to the program's text. -/
def laid_mangrove_pack_forms {H : Type} : DataW H := .agg [.agg [.lit (.int .u8 253), .lit (.int .i64 2), .lit (.int .u64 253)], .agg [.lit (.int .u8 254), .lit (.int .i64 4), .lit (.int .u64 65536)], .agg [.lit (.int .u8 255), .lit (.int .i64 8), .lit (.int .u64 4294967296)]]
def laid_mangrove_blake_begins {H : Type} : DataW H := .agg [.lit (.int .u32 1779033703), .lit (.int .u32 3144134277), .lit (.int .u32 1013904242), .lit (.int .u32 2773480762), .lit (.int .u32 1359893119), .lit (.int .u32 2600822924), .lit (.int .u32 528734635), .lit (.int .u32 1541459225)]
def laid_mangrove_blake_orders {H : Type} : DataW H := .agg [.lit (.string [48, 49, 50, 51, 52, 53, 54, 55, 56, 57, 97, 98, 99, 100, 101, 102]), .lit (.string [101, 97, 52, 56, 57, 102, 100, 54, 49, 99, 48, 50, 98, 55, 53, 51]), .lit (.string [98, 56, 99, 48, 53, 50, 102, 100, 97, 101, 51, 54, 55, 49, 57, 52]), .lit (.string [55, 57, 51, 49, 100, 99, 98, 101, 50, 54, 53, 97, 52, 48, 102, 56]), .lit (.string [57, 48, 53, 55, 50, 52, 97, 102, 101, 49, 98, 99, 54, 56, 51, 100]), .lit (.string [50, 99, 54, 97, 48, 98, 56, 51, 52, 100, 55, 53, 102, 101, 49, 57]), .lit (.string [99, 53, 49, 102, 101, 100, 52, 97, 48, 55, 54, 51, 57, 50, 56, 98]), .lit (.string [100, 98, 55, 101, 99, 49, 51, 57, 53, 48, 102, 52, 56, 54, 50, 97]), .lit (.string [54, 102, 101, 57, 98, 51, 48, 56, 99, 50, 100, 55, 49, 52, 97, 53]), .lit (.string [97, 50, 56, 52, 55, 54, 49, 53, 102, 98, 57, 101, 51, 99, 100, 48])]

/-- 'mangrovelaw03.PackForms': WHATEVER THE INPUT: true; the input reads as it did. -/
def packFormsSpec : ChangeSpec := { name := "packForms", fn := fun _ => fun
  | [d] => { results := [.lit (.bool true)], args := [d] }
  | _ => none }
def packFormsRow : OpenClaim := { program := "ytejaohlijaodjaadoor", sum := "55dadea1a21b1cb5e0e00bd93a75d92ce353d71820e03faf96050696f3ef2273", func := "mangrove/mangrovelaw03.PackForms", spec := "packForms", unfollowed := true, recurses := true, named := ["mangrove/pack.forms"], apart := false, laid := [("mangrove/pack.forms", laid_mangrove_pack_forms)] }
def PackFormsSaid : Prop := packFormsRow.holds Tryd.pinned (OpenSpec.ofChange packFormsSpec)

/-- ITS FALSE NEIGHBOUR: 'it returns false'. Refute it at one input. -/
def packFormsWrong : ChangeSpec := { name := "packForms", fn := fun _ => fun
  | [d] => { results := [.lit (.bool false)], args := [d] }
  | _ => none }
def PackFormsWrongFalsely : Prop := packFormsRow.holds Tryd.pinned (OpenSpec.ofChange packFormsWrong)

/-- 'mangrovelaw03.PackLays': WHATEVER THE INPUT: true; the input reads as it did. -/
def packLaysSpec : ChangeSpec := { name := "packLays", fn := fun _ => fun
  | [d1, d2] => { results := [.lit (.bool true)], args := [d1, d2] }
  | _ => none }
def packLaysRow : OpenClaim := { program := "ytejaohlijaodjaadoor", sum := "55dadea1a21b1cb5e0e00bd93a75d92ce353d71820e03faf96050696f3ef2273", func := "mangrove/mangrovelaw03.PackLays", spec := "packLays", unfollowed := true, recurses := true, named := ["mangrove/pack.forms"], apart := false, laid := [("mangrove/pack.forms", laid_mangrove_pack_forms)] }
def PackLaysSaid : Prop := packLaysRow.holds Tryd.pinned (OpenSpec.ofChange packLaysSpec)

/-- ITS FALSE NEIGHBOUR: 'it returns false'. Refute it at one input. -/
def packLaysWrong : ChangeSpec := { name := "packLays", fn := fun _ => fun
  | [d1, d2] => { results := [.lit (.bool false)], args := [d1, d2] }
  | _ => none }
def PackLaysWrongFalsely : Prop := packLaysRow.holds Tryd.pinned (OpenSpec.ofChange packLaysWrong)

/-- 'mangrovelaw03.PackReads': WHATEVER THE INPUT: true; the input reads as it did. -/
def packReadsSpec : ChangeSpec := { name := "packReads", fn := fun _ => fun
  | [d1, d2] => { results := [.lit (.bool true)], args := [d1, d2] }
  | _ => none }
def packReadsRow : OpenClaim := { program := "ytejaohlijaodjaadoor", sum := "55dadea1a21b1cb5e0e00bd93a75d92ce353d71820e03faf96050696f3ef2273", func := "mangrove/mangrovelaw03.PackReads", spec := "packReads", unfollowed := true, recurses := true, named := ["mangrove/pack.forms"], apart := false, laid := [("mangrove/pack.forms", laid_mangrove_pack_forms)] }
def PackReadsSaid : Prop := packReadsRow.holds Tryd.pinned (OpenSpec.ofChange packReadsSpec)

/-- ITS FALSE NEIGHBOUR: 'it returns false'. Refute it at one input. -/
def packReadsWrong : ChangeSpec := { name := "packReads", fn := fun _ => fun
  | [d1, d2] => { results := [.lit (.bool false)], args := [d1, d2] }
  | _ => none }
def PackReadsWrongFalsely : Prop := packReadsRow.holds Tryd.pinned (OpenSpec.ofChange packReadsWrong)

/-- 'mangrovelaw03.PackBack': WHATEVER THE INPUT: true; the input reads as it did. -/
def packBackSpec : ChangeSpec := { name := "packBack", fn := fun _ => fun
  | [d1, d2, d3] => { results := [.lit (.bool true)], args := [d1, d2, d3] }
  | _ => none }
def packBackRow : OpenClaim := { program := "ytejaohlijaodjaadoor", sum := "55dadea1a21b1cb5e0e00bd93a75d92ce353d71820e03faf96050696f3ef2273", func := "mangrove/mangrovelaw03.PackBack", spec := "packBack", unfollowed := true, recurses := true, named := ["mangrove/pack.forms"], apart := false, laid := [("mangrove/pack.forms", laid_mangrove_pack_forms)] }
def PackBackSaid : Prop := packBackRow.holds Tryd.pinned (OpenSpec.ofChange packBackSpec)

/-- ITS FALSE NEIGHBOUR: 'it returns false'. Refute it at one input. -/
def packBackWrong : ChangeSpec := { name := "packBack", fn := fun _ => fun
  | [d1, d2, d3] => { results := [.lit (.bool false)], args := [d1, d2, d3] }
  | _ => none }
def PackBackWrongFalsely : Prop := packBackRow.holds Tryd.pinned (OpenSpec.ofChange packBackWrong)

/-- 'mangrovelaw03.PackCut': WHATEVER THE INPUT: true; the input reads as it did. -/
def packCutSpec : ChangeSpec := { name := "packCut", fn := fun _ => fun
  | [d1, d2, d3] => { results := [.lit (.bool true)], args := [d1, d2, d3] }
  | _ => none }
def packCutRow : OpenClaim := { program := "ytejaohlijaodjaadoor", sum := "55dadea1a21b1cb5e0e00bd93a75d92ce353d71820e03faf96050696f3ef2273", func := "mangrove/mangrovelaw03.PackCut", spec := "packCut", unfollowed := true, recurses := true, named := ["mangrove/pack.forms"], apart := false, laid := [("mangrove/pack.forms", laid_mangrove_pack_forms)] }
def PackCutSaid : Prop := packCutRow.holds Tryd.pinned (OpenSpec.ofChange packCutSpec)

/-- ITS FALSE NEIGHBOUR: 'it returns false'. Refute it at one input. -/
def packCutWrong : ChangeSpec := { name := "packCut", fn := fun _ => fun
  | [d1, d2, d3] => { results := [.lit (.bool false)], args := [d1, d2, d3] }
  | _ => none }
def PackCutWrongFalsely : Prop := packCutRow.holds Tryd.pinned (OpenSpec.ofChange packCutWrong)

/-- 'mangrovelaw03.PackForm': WHATEVER THE INPUT: true; the input reads as it did. -/
def packFormSpec : ChangeSpec := { name := "packForm", fn := fun _ => fun
  | [d1, d2] => { results := [.lit (.bool true)], args := [d1, d2] }
  | _ => none }
def packFormRow : OpenClaim := { program := "ytejaohlijaodjaadoor", sum := "55dadea1a21b1cb5e0e00bd93a75d92ce353d71820e03faf96050696f3ef2273", func := "mangrove/mangrovelaw03.PackForm", spec := "packForm", unfollowed := true, recurses := true, named := ["mangrove/pack.forms"], apart := false, laid := [("mangrove/pack.forms", laid_mangrove_pack_forms)] }
def PackFormSaid : Prop := packFormRow.holds Tryd.pinned (OpenSpec.ofChange packFormSpec)

/-- ITS FALSE NEIGHBOUR: 'it returns false'. Refute it at one input. -/
def packFormWrong : ChangeSpec := { name := "packForm", fn := fun _ => fun
  | [d1, d2] => { results := [.lit (.bool false)], args := [d1, d2] }
  | _ => none }
def PackFormWrongFalsely : Prop := packFormRow.holds Tryd.pinned (OpenSpec.ofChange packFormWrong)

/-- 'mangrovelaw03.PackKnown': WHATEVER THE INPUT: true; the input reads as it did. -/
def packKnownSpec : ChangeSpec := { name := "packKnown", fn := fun _ => fun
  | [] => { results := [.lit (.bool true)], args := [] }
  | _ => none }
def packKnownRow : OpenClaim := { program := "ytejaohlijaodjaadoor", sum := "55dadea1a21b1cb5e0e00bd93a75d92ce353d71820e03faf96050696f3ef2273", func := "mangrove/mangrovelaw03.PackKnown", spec := "packKnown", unfollowed := true, recurses := true, named := ["mangrove/pack.forms"], apart := false, laid := [("mangrove/pack.forms", laid_mangrove_pack_forms)] }
def PackKnownSaid : Prop := packKnownRow.holds Tryd.pinned (OpenSpec.ofChange packKnownSpec)

/-- ITS FALSE NEIGHBOUR: 'it returns false'. Refute it at one input. -/
def packKnownWrong : ChangeSpec := { name := "packKnown", fn := fun _ => fun
  | [] => { results := [.lit (.bool false)], args := [] }
  | _ => none }
def PackKnownWrongFalsely : Prop := packKnownRow.holds Tryd.pinned (OpenSpec.ofChange packKnownWrong)

/-- 'mangrovelaw05.SignAnswers': WHATEVER THE INPUT: true; the input reads as it did. -/
def signAnswersSpec : ChangeSpec := { name := "signAnswers", fn := fun _ => fun
  | [d1, d2, d3, d4] => { results := [.lit (.bool true)], args := [d1, d2, d3, d4] }
  | _ => none }
def signAnswersRow : OpenClaim := { program := "ytejaohlijaodjaadoor", sum := "55dadea1a21b1cb5e0e00bd93a75d92ce353d71820e03faf96050696f3ef2273", func := "mangrove/mangrovelaw05.SignAnswers", spec := "signAnswers", recurses := true, named := ["mangrove/pack.forms", "mangrove/blake.begins", "mangrove/blake.orders"], apart := false, laid := [("mangrove/blake.begins", laid_mangrove_blake_begins), ("mangrove/blake.orders", laid_mangrove_blake_orders), ("mangrove/pack.forms", laid_mangrove_pack_forms)] }
def SignAnswersSaid : Prop := signAnswersRow.holds Tryd.pinned (OpenSpec.ofChange signAnswersSpec)

/-- ITS FALSE NEIGHBOUR: 'it returns false'. Refute it at one input. -/
def signAnswersWrong : ChangeSpec := { name := "signAnswers", fn := fun _ => fun
  | [d1, d2, d3, d4] => { results := [.lit (.bool false)], args := [d1, d2, d3, d4] }
  | _ => none }
def SignAnswersWrongFalsely : Prop := signAnswersRow.holds Tryd.pinned (OpenSpec.ofChange signAnswersWrong)

/-- 'mangrovelaw05.SignOwn': WHATEVER THE INPUT: true; the input reads as it did. -/
def signOwnSpec : ChangeSpec := { name := "signOwn", fn := fun _ => fun
  | [d1, d2, d3, d4, d5, d6] => { results := [.lit (.bool true)], args := [d1, d2, d3, d4, d5, d6] }
  | _ => none }
def signOwnRow : OpenClaim := { program := "ytejaohlijaodjaadoor", sum := "55dadea1a21b1cb5e0e00bd93a75d92ce353d71820e03faf96050696f3ef2273", func := "mangrove/mangrovelaw05.SignOwn", spec := "signOwn", recurses := true, named := ["mangrove/pack.forms", "mangrove/blake.begins", "mangrove/blake.orders"], apart := false, laid := [("mangrove/blake.begins", laid_mangrove_blake_begins), ("mangrove/blake.orders", laid_mangrove_blake_orders), ("mangrove/pack.forms", laid_mangrove_pack_forms)] }
def SignOwnSaid : Prop := signOwnRow.holds Tryd.pinned (OpenSpec.ofChange signOwnSpec)

/-- ITS FALSE NEIGHBOUR: 'it returns false'. Refute it at one input. -/
def signOwnWrong : ChangeSpec := { name := "signOwn", fn := fun _ => fun
  | [d1, d2, d3, d4, d5, d6] => { results := [.lit (.bool false)], args := [d1, d2, d3, d4, d5, d6] }
  | _ => none }
def SignOwnWrongFalsely : Prop := signOwnRow.holds Tryd.pinned (OpenSpec.ofChange signOwnWrong)

/-- 'mangrovelaw05.SignKnown': WHATEVER THE INPUT: true; the input reads as it did. -/
def signKnownSpec : ChangeSpec := { name := "signKnown", fn := fun _ => fun
  | [] => { results := [.lit (.bool true)], args := [] }
  | _ => none }
def signKnownRow : OpenClaim := { program := "ytejaohlijaodjaadoor", sum := "55dadea1a21b1cb5e0e00bd93a75d92ce353d71820e03faf96050696f3ef2273", func := "mangrove/mangrovelaw05.SignKnown", spec := "signKnown", recurses := true, named := ["mangrove/pack.forms", "mangrove/blake.begins", "mangrove/blake.orders"], apart := false, laid := [("mangrove/blake.begins", laid_mangrove_blake_begins), ("mangrove/blake.orders", laid_mangrove_blake_orders), ("mangrove/pack.forms", laid_mangrove_pack_forms)] }
def SignKnownSaid : Prop := signKnownRow.holds Tryd.pinned (OpenSpec.ofChange signKnownSpec)

/-- ITS FALSE NEIGHBOUR: 'it returns false'. Refute it at one input. -/
def signKnownWrong : ChangeSpec := { name := "signKnown", fn := fun _ => fun
  | [] => { results := [.lit (.bool false)], args := [] }
  | _ => none }
def SignKnownWrongFalsely : Prop := signKnownRow.holds Tryd.pinned (OpenSpec.ofChange signKnownWrong)

/-- 'mangrovelaw21.MessagePuts': WHATEVER THE INPUT: true; the input reads as it did. -/
def messagePutsSpec : ChangeSpec := { name := "messagePuts", fn := fun _ => fun
  | [d] => { results := [.lit (.bool true)], args := [d] }
  | _ => none }
def messagePutsRow : OpenClaim := { program := "ytejaohlijaodjaadoor", sum := "55dadea1a21b1cb5e0e00bd93a75d92ce353d71820e03faf96050696f3ef2273", func := "mangrove/mangrovelaw21.MessagePuts", spec := "messagePuts", unfollowed := true, recurses := true, named := ["mangrove/pack.forms"], apart := false, laid := [("mangrove/pack.forms", laid_mangrove_pack_forms)] }
def MessagePutsSaid : Prop := messagePutsRow.holds Tryd.pinned (OpenSpec.ofChange messagePutsSpec)

/-- ITS FALSE NEIGHBOUR: 'it returns false'. Refute it at one input. -/
def messagePutsWrong : ChangeSpec := { name := "messagePuts", fn := fun _ => fun
  | [d] => { results := [.lit (.bool false)], args := [d] }
  | _ => none }
def MessagePutsWrongFalsely : Prop := messagePutsRow.holds Tryd.pinned (OpenSpec.ofChange messagePutsWrong)

/-- 'mangrovelaw21.MessageGets': WHATEVER THE INPUT: true; the input reads as it did. -/
def messageGetsSpec : ChangeSpec := { name := "messageGets", fn := fun _ => fun
  | [d] => { results := [.lit (.bool true)], args := [d] }
  | _ => none }
def messageGetsRow : OpenClaim := { program := "ytejaohlijaodjaadoor", sum := "55dadea1a21b1cb5e0e00bd93a75d92ce353d71820e03faf96050696f3ef2273", func := "mangrove/mangrovelaw21.MessageGets", spec := "messageGets", unfollowed := true, recurses := true, named := ["mangrove/pack.forms"], apart := false, laid := [("mangrove/pack.forms", laid_mangrove_pack_forms)] }
def MessageGetsSaid : Prop := messageGetsRow.holds Tryd.pinned (OpenSpec.ofChange messageGetsSpec)

/-- ITS FALSE NEIGHBOUR: 'it returns false'. Refute it at one input. -/
def messageGetsWrong : ChangeSpec := { name := "messageGets", fn := fun _ => fun
  | [d] => { results := [.lit (.bool false)], args := [d] }
  | _ => none }
def MessageGetsWrongFalsely : Prop := messageGetsRow.holds Tryd.pinned (OpenSpec.ofChange messageGetsWrong)

/-- 'mangrovelaw21.MessageBack': WHATEVER THE INPUT: true; the input reads as it did. -/
def messageBackSpec : ChangeSpec := { name := "messageBack", fn := fun _ => fun
  | [d1, d2] => { results := [.lit (.bool true)], args := [d1, d2] }
  | _ => none }
def messageBackRow : OpenClaim := { program := "ytejaohlijaodjaadoor", sum := "55dadea1a21b1cb5e0e00bd93a75d92ce353d71820e03faf96050696f3ef2273", func := "mangrove/mangrovelaw21.MessageBack", spec := "messageBack", unfollowed := true, recurses := true, named := ["mangrove/pack.forms"], apart := false, laid := [("mangrove/pack.forms", laid_mangrove_pack_forms)] }
def MessageBackSaid : Prop := messageBackRow.holds Tryd.pinned (OpenSpec.ofChange messageBackSpec)

/-- ITS FALSE NEIGHBOUR: 'it returns false'. Refute it at one input. -/
def messageBackWrong : ChangeSpec := { name := "messageBack", fn := fun _ => fun
  | [d1, d2] => { results := [.lit (.bool false)], args := [d1, d2] }
  | _ => none }
def MessageBackWrongFalsely : Prop := messageBackRow.holds Tryd.pinned (OpenSpec.ofChange messageBackWrong)

/-- 'mangrovelaw21.MessageCut': WHATEVER THE INPUT: true; the input reads as it did. -/
def messageCutSpec : ChangeSpec := { name := "messageCut", fn := fun _ => fun
  | [d1, d2, d3] => { results := [.lit (.bool true)], args := [d1, d2, d3] }
  | _ => none }
def messageCutRow : OpenClaim := { program := "ytejaohlijaodjaadoor", sum := "55dadea1a21b1cb5e0e00bd93a75d92ce353d71820e03faf96050696f3ef2273", func := "mangrove/mangrovelaw21.MessageCut", spec := "messageCut", unfollowed := true, recurses := true, named := ["mangrove/pack.forms"], apart := false, laid := [("mangrove/pack.forms", laid_mangrove_pack_forms)] }
def MessageCutSaid : Prop := messageCutRow.holds Tryd.pinned (OpenSpec.ofChange messageCutSpec)

/-- ITS FALSE NEIGHBOUR: 'it returns false'. Refute it at one input. -/
def messageCutWrong : ChangeSpec := { name := "messageCut", fn := fun _ => fun
  | [d1, d2, d3] => { results := [.lit (.bool false)], args := [d1, d2, d3] }
  | _ => none }
def MessageCutWrongFalsely : Prop := messageCutRow.holds Tryd.pinned (OpenSpec.ofChange messageCutWrong)

/-- 'mangrovelaw21.MessageKnown': WHATEVER THE INPUT: true; the input reads as it did. -/
def messageKnownSpec : ChangeSpec := { name := "messageKnown", fn := fun _ => fun
  | [] => { results := [.lit (.bool true)], args := [] }
  | _ => none }
def messageKnownRow : OpenClaim := { program := "ytejaohlijaodjaadoor", sum := "55dadea1a21b1cb5e0e00bd93a75d92ce353d71820e03faf96050696f3ef2273", func := "mangrove/mangrovelaw21.MessageKnown", spec := "messageKnown", unfollowed := true, recurses := true, named := ["mangrove/pack.forms"], apart := false, laid := [("mangrove/pack.forms", laid_mangrove_pack_forms)] }
def MessageKnownSaid : Prop := messageKnownRow.holds Tryd.pinned (OpenSpec.ofChange messageKnownSpec)

/-- ITS FALSE NEIGHBOUR: 'it returns false'. Refute it at one input. -/
def messageKnownWrong : ChangeSpec := { name := "messageKnown", fn := fun _ => fun
  | [] => { results := [.lit (.bool false)], args := [] }
  | _ => none }
def MessageKnownWrongFalsely : Prop := messageKnownRow.holds Tryd.pinned (OpenSpec.ofChange messageKnownWrong)

/- THE SECOND FORM. 'bulk': how many values and letters a reading holds, each counted each time it is reached (what is shared counts as often as it is met; a slice's spare places count too). A statement '..UptoSaid' is the law's where the arguments, and the package variables that the reading takes, are together of bulk at most 1048576: NARROWER than '..Said'. Prove '..Said' where nothing that the law and all that it calls make is longer than what came in: it says more and counts as full. Else prove '..UptoSaid'. A law counts once. -/
mutual
def uptoBulk {H : Type} : DataW H → Nat
  | .lit (.string bytes) => bytes.length + 1
  | .lit _ => 1
  | .nil => 1
  | .ptr d => uptoBulk d + 1
  | .slice elems spare => uptoBulkAll elems + uptoBulkAll spare + 1
  | .agg parts => uptoBulkAll parts + 1
  | .iface _ d => uptoBulk d + 1
  | .map entries => uptoBulkEntries entries + 1
  | .held _ => 1
def uptoBulkAll {H : Type} : List (DataW H) → Nat
  | [] => 0
  | d :: r => uptoBulk d + uptoBulkAll r
def uptoBulkEntries {H : Type} : List (Lit × DataW H) → Nat
  | [] => 0
  | x :: r => uptoBulkEntry x + uptoBulkEntries r
def uptoBulkEntry {H : Type} : Lit × DataW H → Nat
  | (.string bytes, d) => bytes.length + uptoBulk d + 1
  | (_, d) => uptoBulk d + 1
 end
def uptoSmall : (H : Type) → List (DataW H) → Bool := fun _ ds => decide (uptoBulkAll ds ≤ 1048576)
def OpenSpec.upto (s : _root_.Go.ChangeSpec) : _root_.Go.OpenSpec := { _root_.Go.OpenSpec.ofChange s with cond := some uptoSmall }

/-- 'mangrovelaw03.PackForms', WHERE WHAT IT READS IS OF BULK AT MOST 1048576: true; the input reads as it did. -/
def packFormsUptoRow : OpenClaim := { program := "ytejaohlijaodjaadoor", sum := "55dadea1a21b1cb5e0e00bd93a75d92ce353d71820e03faf96050696f3ef2273", func := "mangrove/mangrovelaw03.PackForms", spec := "packForms", unfollowed := true, recurses := true, named := ["mangrove/pack.forms"], apart := false, laid := [("mangrove/pack.forms", laid_mangrove_pack_forms)], narrowed := true }
def PackFormsUptoSaid : Prop := packFormsUptoRow.holds Tryd.pinned (OpenSpec.upto packFormsSpec)

/-- 'mangrovelaw03.PackLays', WHERE WHAT IT READS IS OF BULK AT MOST 1048576: true; the input reads as it did. -/
def packLaysUptoRow : OpenClaim := { program := "ytejaohlijaodjaadoor", sum := "55dadea1a21b1cb5e0e00bd93a75d92ce353d71820e03faf96050696f3ef2273", func := "mangrove/mangrovelaw03.PackLays", spec := "packLays", unfollowed := true, recurses := true, named := ["mangrove/pack.forms"], apart := false, laid := [("mangrove/pack.forms", laid_mangrove_pack_forms)], narrowed := true }
def PackLaysUptoSaid : Prop := packLaysUptoRow.holds Tryd.pinned (OpenSpec.upto packLaysSpec)

/-- 'mangrovelaw03.PackReads', WHERE WHAT IT READS IS OF BULK AT MOST 1048576: true; the input reads as it did. -/
def packReadsUptoRow : OpenClaim := { program := "ytejaohlijaodjaadoor", sum := "55dadea1a21b1cb5e0e00bd93a75d92ce353d71820e03faf96050696f3ef2273", func := "mangrove/mangrovelaw03.PackReads", spec := "packReads", unfollowed := true, recurses := true, named := ["mangrove/pack.forms"], apart := false, laid := [("mangrove/pack.forms", laid_mangrove_pack_forms)], narrowed := true }
def PackReadsUptoSaid : Prop := packReadsUptoRow.holds Tryd.pinned (OpenSpec.upto packReadsSpec)

/-- 'mangrovelaw03.PackBack', WHERE WHAT IT READS IS OF BULK AT MOST 1048576: true; the input reads as it did. -/
def packBackUptoRow : OpenClaim := { program := "ytejaohlijaodjaadoor", sum := "55dadea1a21b1cb5e0e00bd93a75d92ce353d71820e03faf96050696f3ef2273", func := "mangrove/mangrovelaw03.PackBack", spec := "packBack", unfollowed := true, recurses := true, named := ["mangrove/pack.forms"], apart := false, laid := [("mangrove/pack.forms", laid_mangrove_pack_forms)], narrowed := true }
def PackBackUptoSaid : Prop := packBackUptoRow.holds Tryd.pinned (OpenSpec.upto packBackSpec)

/-- 'mangrovelaw03.PackCut', WHERE WHAT IT READS IS OF BULK AT MOST 1048576: true; the input reads as it did. -/
def packCutUptoRow : OpenClaim := { program := "ytejaohlijaodjaadoor", sum := "55dadea1a21b1cb5e0e00bd93a75d92ce353d71820e03faf96050696f3ef2273", func := "mangrove/mangrovelaw03.PackCut", spec := "packCut", unfollowed := true, recurses := true, named := ["mangrove/pack.forms"], apart := false, laid := [("mangrove/pack.forms", laid_mangrove_pack_forms)], narrowed := true }
def PackCutUptoSaid : Prop := packCutUptoRow.holds Tryd.pinned (OpenSpec.upto packCutSpec)

/-- 'mangrovelaw03.PackForm', WHERE WHAT IT READS IS OF BULK AT MOST 1048576: true; the input reads as it did. -/
def packFormUptoRow : OpenClaim := { program := "ytejaohlijaodjaadoor", sum := "55dadea1a21b1cb5e0e00bd93a75d92ce353d71820e03faf96050696f3ef2273", func := "mangrove/mangrovelaw03.PackForm", spec := "packForm", unfollowed := true, recurses := true, named := ["mangrove/pack.forms"], apart := false, laid := [("mangrove/pack.forms", laid_mangrove_pack_forms)], narrowed := true }
def PackFormUptoSaid : Prop := packFormUptoRow.holds Tryd.pinned (OpenSpec.upto packFormSpec)

/-- 'mangrovelaw03.PackKnown', WHERE WHAT IT READS IS OF BULK AT MOST 1048576: true; the input reads as it did. -/
def packKnownUptoRow : OpenClaim := { program := "ytejaohlijaodjaadoor", sum := "55dadea1a21b1cb5e0e00bd93a75d92ce353d71820e03faf96050696f3ef2273", func := "mangrove/mangrovelaw03.PackKnown", spec := "packKnown", unfollowed := true, recurses := true, named := ["mangrove/pack.forms"], apart := false, laid := [("mangrove/pack.forms", laid_mangrove_pack_forms)], narrowed := true }
def PackKnownUptoSaid : Prop := packKnownUptoRow.holds Tryd.pinned (OpenSpec.upto packKnownSpec)

/-- 'mangrovelaw05.SignAnswers', WHERE WHAT IT READS IS OF BULK AT MOST 1048576: true; the input reads as it did. -/
def signAnswersUptoRow : OpenClaim := { program := "ytejaohlijaodjaadoor", sum := "55dadea1a21b1cb5e0e00bd93a75d92ce353d71820e03faf96050696f3ef2273", func := "mangrove/mangrovelaw05.SignAnswers", spec := "signAnswers", recurses := true, named := ["mangrove/pack.forms", "mangrove/blake.begins", "mangrove/blake.orders"], apart := false, laid := [("mangrove/blake.begins", laid_mangrove_blake_begins), ("mangrove/blake.orders", laid_mangrove_blake_orders), ("mangrove/pack.forms", laid_mangrove_pack_forms)], narrowed := true }
def SignAnswersUptoSaid : Prop := signAnswersUptoRow.holds Tryd.pinned (OpenSpec.upto signAnswersSpec)

/-- 'mangrovelaw05.SignOwn', WHERE WHAT IT READS IS OF BULK AT MOST 1048576: true; the input reads as it did. -/
def signOwnUptoRow : OpenClaim := { program := "ytejaohlijaodjaadoor", sum := "55dadea1a21b1cb5e0e00bd93a75d92ce353d71820e03faf96050696f3ef2273", func := "mangrove/mangrovelaw05.SignOwn", spec := "signOwn", recurses := true, named := ["mangrove/pack.forms", "mangrove/blake.begins", "mangrove/blake.orders"], apart := false, laid := [("mangrove/blake.begins", laid_mangrove_blake_begins), ("mangrove/blake.orders", laid_mangrove_blake_orders), ("mangrove/pack.forms", laid_mangrove_pack_forms)], narrowed := true }
def SignOwnUptoSaid : Prop := signOwnUptoRow.holds Tryd.pinned (OpenSpec.upto signOwnSpec)

/-- 'mangrovelaw05.SignKnown', WHERE WHAT IT READS IS OF BULK AT MOST 1048576: true; the input reads as it did. -/
def signKnownUptoRow : OpenClaim := { program := "ytejaohlijaodjaadoor", sum := "55dadea1a21b1cb5e0e00bd93a75d92ce353d71820e03faf96050696f3ef2273", func := "mangrove/mangrovelaw05.SignKnown", spec := "signKnown", recurses := true, named := ["mangrove/pack.forms", "mangrove/blake.begins", "mangrove/blake.orders"], apart := false, laid := [("mangrove/blake.begins", laid_mangrove_blake_begins), ("mangrove/blake.orders", laid_mangrove_blake_orders), ("mangrove/pack.forms", laid_mangrove_pack_forms)], narrowed := true }
def SignKnownUptoSaid : Prop := signKnownUptoRow.holds Tryd.pinned (OpenSpec.upto signKnownSpec)

/-- 'mangrovelaw21.MessagePuts', WHERE WHAT IT READS IS OF BULK AT MOST 1048576: true; the input reads as it did. -/
def messagePutsUptoRow : OpenClaim := { program := "ytejaohlijaodjaadoor", sum := "55dadea1a21b1cb5e0e00bd93a75d92ce353d71820e03faf96050696f3ef2273", func := "mangrove/mangrovelaw21.MessagePuts", spec := "messagePuts", unfollowed := true, recurses := true, named := ["mangrove/pack.forms"], apart := false, laid := [("mangrove/pack.forms", laid_mangrove_pack_forms)], narrowed := true }
def MessagePutsUptoSaid : Prop := messagePutsUptoRow.holds Tryd.pinned (OpenSpec.upto messagePutsSpec)

/-- 'mangrovelaw21.MessageGets', WHERE WHAT IT READS IS OF BULK AT MOST 1048576: true; the input reads as it did. -/
def messageGetsUptoRow : OpenClaim := { program := "ytejaohlijaodjaadoor", sum := "55dadea1a21b1cb5e0e00bd93a75d92ce353d71820e03faf96050696f3ef2273", func := "mangrove/mangrovelaw21.MessageGets", spec := "messageGets", unfollowed := true, recurses := true, named := ["mangrove/pack.forms"], apart := false, laid := [("mangrove/pack.forms", laid_mangrove_pack_forms)], narrowed := true }
def MessageGetsUptoSaid : Prop := messageGetsUptoRow.holds Tryd.pinned (OpenSpec.upto messageGetsSpec)

/-- 'mangrovelaw21.MessageBack', WHERE WHAT IT READS IS OF BULK AT MOST 1048576: true; the input reads as it did. -/
def messageBackUptoRow : OpenClaim := { program := "ytejaohlijaodjaadoor", sum := "55dadea1a21b1cb5e0e00bd93a75d92ce353d71820e03faf96050696f3ef2273", func := "mangrove/mangrovelaw21.MessageBack", spec := "messageBack", unfollowed := true, recurses := true, named := ["mangrove/pack.forms"], apart := false, laid := [("mangrove/pack.forms", laid_mangrove_pack_forms)], narrowed := true }
def MessageBackUptoSaid : Prop := messageBackUptoRow.holds Tryd.pinned (OpenSpec.upto messageBackSpec)

/-- 'mangrovelaw21.MessageCut', WHERE WHAT IT READS IS OF BULK AT MOST 1048576: true; the input reads as it did. -/
def messageCutUptoRow : OpenClaim := { program := "ytejaohlijaodjaadoor", sum := "55dadea1a21b1cb5e0e00bd93a75d92ce353d71820e03faf96050696f3ef2273", func := "mangrove/mangrovelaw21.MessageCut", spec := "messageCut", unfollowed := true, recurses := true, named := ["mangrove/pack.forms"], apart := false, laid := [("mangrove/pack.forms", laid_mangrove_pack_forms)], narrowed := true }
def MessageCutUptoSaid : Prop := messageCutUptoRow.holds Tryd.pinned (OpenSpec.upto messageCutSpec)

/-- 'mangrovelaw21.MessageKnown', WHERE WHAT IT READS IS OF BULK AT MOST 1048576: true; the input reads as it did. -/
def messageKnownUptoRow : OpenClaim := { program := "ytejaohlijaodjaadoor", sum := "55dadea1a21b1cb5e0e00bd93a75d92ce353d71820e03faf96050696f3ef2273", func := "mangrove/mangrovelaw21.MessageKnown", spec := "messageKnown", unfollowed := true, recurses := true, named := ["mangrove/pack.forms"], apart := false, laid := [("mangrove/pack.forms", laid_mangrove_pack_forms)], narrowed := true }
def MessageKnownUptoSaid : Prop := messageKnownUptoRow.holds Tryd.pinned (OpenSpec.upto messageKnownSpec)

end Rows
end Go.Proofs.YtejaohlijaodjaaDoor
