/-
  NARROWER THAN 'FOR EVERY INPUT', by the rows' own cells (each row's printed sentence says how): RecordBack: laid · RecordDeals: laid · RecordKnown: laid.
  DERIVED. THE GIVEN ROWS OF THIS SEAT. 3 by the template 'for every input the law returns true; each argument reads behind the call as it read before'; 0 by the template 'total and deterministic' (their statements: YtfjhmecmhchbdaaDoorTotals.lean).
  GIVEN WITH THE SEED: the statements are not yours to turn. If you find one false, say at which input.
  Laid BY PROGRAM, IN A SANDBOX (cutbox-rows.mjs): the forced cells as the released guide's own fill.sh prints them over the translation 377e94fcafb511b7… (all of the seat's roots in one cut). By AI agents, Wed Nov 11 2026. No macro, syntax, notation, axiom, sorry.
-/
import Derived.Test.YtfjhmecmhchbdaaDoorChecked
import GoSem.Claim
import GoSem.ClaimJoined
import GoSem.ClaimMapViews
import Derived.JoinedTies
import Derived.KernelRfl
namespace Go.Proofs.YtfjhmecmhchbdaaDoor
/- THE CELL 'sum', in the pinned program and in every row, IS THE sha256 OF THE DUMP (.gsa) THAT YtfjhmecmhchbdaaDoorProg.lean LOADS. Nothing in Lean hashes anything: it is a label: what it is worth is what the hold of that sum in a sandbox is worth. -/
noncomputable def Tryd.pinned : Pinned := { name := "ytfjhmecmhchbdaadoor", sum := "377e94fcafb511b738f25cd42694f8df311361f842cfc40611052581f3ded0b5", checked := Tryd.checked }
namespace Rows
def none {H : Type} : Left H := { results := [], args := [] }

/- WHAT THE LISTED PACKAGE-LEVEL VARIABLES READ AS WHEN THE CALL BEGINS. Each datum BY PROGRAM (the guide's laid-datum.mjs) off the statement by which the dump's own 'gosem.cut.vars' lays the variable. In a bare row this is a premise. The card (YtfjhmecmhchbdaaDoorCards.lean) ties it to the program's text. -/
def laid_mangrove_pack_forms {H : Type} : DataW H := .agg [.agg [.lit (.int .u8 253), .lit (.int .i64 2), .lit (.int .u64 253)], .agg [.lit (.int .u8 254), .lit (.int .i64 4), .lit (.int .u64 65536)], .agg [.lit (.int .u8 255), .lit (.int .i64 8), .lit (.int .u64 4294967296)]]

/-- 'mangrovelaw22.RecordBack': WHATEVER THE INPUT: true; the input reads as it did. -/
def recordBackSpec : ChangeSpec := { name := "recordBack", fn := fun _ => fun
  | [d1, d2] => { results := [.lit (.bool true)], args := [d1, d2] }
  | _ => none }
def recordBackRow : OpenClaim := { program := "ytfjhmecmhchbdaadoor", sum := "377e94fcafb511b738f25cd42694f8df311361f842cfc40611052581f3ded0b5", func := "mangrove/mangrovelaw22.RecordBack", spec := "recordBack", unfollowed := true, recurses := true, named := ["mangrove/pack.forms"], plainKeys := false, apart := false, laid := [("mangrove/pack.forms", laid_mangrove_pack_forms)] }
def RecordBackSaid : Prop := recordBackRow.holds Tryd.pinned (OpenSpec.ofChange recordBackSpec)

/-- ITS FALSE NEIGHBOUR: 'it returns false'. Refute it at one input. -/
def recordBackWrong : ChangeSpec := { name := "recordBack", fn := fun _ => fun
  | [d1, d2] => { results := [.lit (.bool false)], args := [d1, d2] }
  | _ => none }
def RecordBackWrongFalsely : Prop := recordBackRow.holds Tryd.pinned (OpenSpec.ofChange recordBackWrong)

/-- 'mangrovelaw22.RecordDeals': WHATEVER THE INPUT: true; the input reads as it did. -/
def recordDealsSpec : ChangeSpec := { name := "recordDeals", fn := fun _ => fun
  | [d1, d2] => { results := [.lit (.bool true)], args := [d1, d2] }
  | _ => none }
def recordDealsRow : OpenClaim := { program := "ytfjhmecmhchbdaadoor", sum := "377e94fcafb511b738f25cd42694f8df311361f842cfc40611052581f3ded0b5", func := "mangrove/mangrovelaw22.RecordDeals", spec := "recordDeals", unfollowed := true, recurses := true, named := ["mangrove/pack.forms"], plainKeys := false, apart := false, laid := [("mangrove/pack.forms", laid_mangrove_pack_forms)] }
def RecordDealsSaid : Prop := recordDealsRow.holds Tryd.pinned (OpenSpec.ofChange recordDealsSpec)

/-- ITS FALSE NEIGHBOUR: 'it returns false'. Refute it at one input. -/
def recordDealsWrong : ChangeSpec := { name := "recordDeals", fn := fun _ => fun
  | [d1, d2] => { results := [.lit (.bool false)], args := [d1, d2] }
  | _ => none }
def RecordDealsWrongFalsely : Prop := recordDealsRow.holds Tryd.pinned (OpenSpec.ofChange recordDealsWrong)

/-- 'mangrovelaw22.RecordKnown': WHATEVER THE INPUT: true; the input reads as it did. -/
def recordKnownSpec : ChangeSpec := { name := "recordKnown", fn := fun _ => fun
  | [] => { results := [.lit (.bool true)], args := [] }
  | _ => none }
def recordKnownRow : OpenClaim := { program := "ytfjhmecmhchbdaadoor", sum := "377e94fcafb511b738f25cd42694f8df311361f842cfc40611052581f3ded0b5", func := "mangrove/mangrovelaw22.RecordKnown", spec := "recordKnown", unfollowed := true, recurses := true, named := ["mangrove/pack.forms"], plainKeys := false, apart := false, laid := [("mangrove/pack.forms", laid_mangrove_pack_forms)] }
def RecordKnownSaid : Prop := recordKnownRow.holds Tryd.pinned (OpenSpec.ofChange recordKnownSpec)

/-- ITS FALSE NEIGHBOUR: 'it returns false'. Refute it at one input. -/
def recordKnownWrong : ChangeSpec := { name := "recordKnown", fn := fun _ => fun
  | [] => { results := [.lit (.bool false)], args := [] }
  | _ => none }
def RecordKnownWrongFalsely : Prop := recordKnownRow.holds Tryd.pinned (OpenSpec.ofChange recordKnownWrong)

/- THE SECOND FORM. 'bulk': how many values and letters a reading holds, each counted each time it is reached (what is shared counts as often as it is met; a slice's spare places count too). A statement '..UptoSaid' is the law's where the arguments, and the package variables that the reading takes, are together of bulk at most 1048576: NARROWER than '..Said'. Prove '..Said' where nothing that the law and all that it calls make is longer than what came in: it says more and counts as full. Else prove '..UptoSaid'. A law counts once. -/
mutual
def uptoBulk {H : Type} : DataW H → Nat
  | .lit (.string bytes) => bytes.length + 1
  | .lit _ => 1
  | .nil => 1
  | .ptr d => uptoBulk d + 1
  | .slice elems spare => uptoBulkAll elems + uptoBulkAll spare + 1
  | .agg parts => uptoBulkAll parts + 1
  | .iface _ d => uptoBulk d + 1
  | .map entries => uptoBulkEntries entries + 1
  | .held _ => 1
def uptoBulkAll {H : Type} : List (DataW H) → Nat
  | [] => 0
  | d :: r => uptoBulk d + uptoBulkAll r
def uptoBulkEntries {H : Type} : List (Lit × DataW H) → Nat
  | [] => 0
  | x :: r => uptoBulkEntry x + uptoBulkEntries r
def uptoBulkEntry {H : Type} : Lit × DataW H → Nat
  | (.string bytes, d) => bytes.length + uptoBulk d + 1
  | (_, d) => uptoBulk d + 1
 end
def uptoSmall : (H : Type) → List (DataW H) → Bool := fun _ ds => decide (uptoBulkAll ds ≤ 1048576)
def OpenSpec.upto (s : _root_.Go.ChangeSpec) : _root_.Go.OpenSpec := { _root_.Go.OpenSpec.ofChange s with cond := some uptoSmall }

/-- 'mangrovelaw22.RecordBack', WHERE WHAT IT READS IS OF BULK AT MOST 1048576: true; the input reads as it did. -/
def recordBackUptoRow : OpenClaim := { program := "ytfjhmecmhchbdaadoor", sum := "377e94fcafb511b738f25cd42694f8df311361f842cfc40611052581f3ded0b5", func := "mangrove/mangrovelaw22.RecordBack", spec := "recordBack", unfollowed := true, recurses := true, named := ["mangrove/pack.forms"], plainKeys := false, apart := false, laid := [("mangrove/pack.forms", laid_mangrove_pack_forms)], narrowed := true }
def RecordBackUptoSaid : Prop := recordBackUptoRow.holds Tryd.pinned (OpenSpec.upto recordBackSpec)

/-- 'mangrovelaw22.RecordDeals', WHERE WHAT IT READS IS OF BULK AT MOST 1048576: true; the input reads as it did. -/
def recordDealsUptoRow : OpenClaim := { program := "ytfjhmecmhchbdaadoor", sum := "377e94fcafb511b738f25cd42694f8df311361f842cfc40611052581f3ded0b5", func := "mangrove/mangrovelaw22.RecordDeals", spec := "recordDeals", unfollowed := true, recurses := true, named := ["mangrove/pack.forms"], plainKeys := false, apart := false, laid := [("mangrove/pack.forms", laid_mangrove_pack_forms)], narrowed := true }
def RecordDealsUptoSaid : Prop := recordDealsUptoRow.holds Tryd.pinned (OpenSpec.upto recordDealsSpec)

/-- 'mangrovelaw22.RecordKnown', WHERE WHAT IT READS IS OF BULK AT MOST 1048576: true; the input reads as it did. -/
def recordKnownUptoRow : OpenClaim := { program := "ytfjhmecmhchbdaadoor", sum := "377e94fcafb511b738f25cd42694f8df311361f842cfc40611052581f3ded0b5", func := "mangrove/mangrovelaw22.RecordKnown", spec := "recordKnown", unfollowed := true, recurses := true, named := ["mangrove/pack.forms"], plainKeys := false, apart := false, laid := [("mangrove/pack.forms", laid_mangrove_pack_forms)], narrowed := true }
def RecordKnownUptoSaid : Prop := recordKnownUptoRow.holds Tryd.pinned (OpenSpec.upto recordKnownSpec)

end Rows
end Go.Proofs.YtfjhmecmhchbdaaDoor
