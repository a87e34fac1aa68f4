/-
  NARROWER THAN 'FOR EVERY INPUT', by the rows' own cells (each row's printed sentence says how): WatchShows: laid · WatchKnown: laid.
  DERIVED. THE GIVEN ROWS OF THIS SEAT. 2 by the template 'for every input the law returns true; each argument reads behind the call as it read before'; 0 by the template 'total and deterministic' (their statements: YtjjodibkmeefpaaGreatDoorTotals.lean).
  GIVEN WITH THE SEED: the statements are not yours to turn. If you find one false, say at which input.
  Laid BY PROGRAM, IN A SANDBOX (cutbox-rows.mjs): the forced cells as the released guide's own fill.sh prints them over the translation e0afd99713c8f36a… (all of the seat's roots in one cut). By AI agents, Wed Nov 11 2026. No macro, syntax, notation, axiom, sorry.
-/
import Derived.Test.YtjjodibkmeefpaaGreatDoorChecked
import GoSem.Claim
import GoSem.ClaimJoined
import GoSem.ClaimMapViews
import Derived.JoinedTies
import Derived.KernelRfl
namespace Go.Proofs.YtjjodibkmeefpaaGreatDoor
/- THE CELL 'sum', in the pinned program and in every row, IS THE sha256 OF THE DUMP (.gsa) THAT YtjjodibkmeefpaaGreatDoorProg.lean LOADS. Nothing in Lean hashes anything: it is a label: what it is worth is what the hold of that sum in a sandbox is worth. -/
noncomputable def Tryz.pinned : Pinned := { name := "ytjjodibkmeefpaagreatdoor", sum := "e0afd99713c8f36afcccecf013b1614e86b125074614cdb1601f7066e724be6e", checked := Tryz.checked }
namespace Rows
def none {H : Type} : Left H := { results := [], args := [] }

/- WHAT THE LISTED PACKAGE-LEVEL VARIABLES READ AS WHEN THE CALL BEGINS. Each datum BY PROGRAM (the guide's laid-datum.mjs) off the statement by which the dump's own 'gosem.cut.vars' lays the variable. In a bare row this is a premise. The card (YtjjodibkmeefpaaGreatDoorCards.lean) ties it to the program's text. -/
def laid_mangrove_blake_begins {H : Type} : DataW H := .agg [.lit (.int .u32 1779033703), .lit (.int .u32 3144134277), .lit (.int .u32 1013904242), .lit (.int .u32 2773480762), .lit (.int .u32 1359893119), .lit (.int .u32 2600822924), .lit (.int .u32 528734635), .lit (.int .u32 1541459225)]
def laid_mangrove_blake_orders {H : Type} : DataW H := .agg [.lit (.string [48, 49, 50, 51, 52, 53, 54, 55, 56, 57, 97, 98, 99, 100, 101, 102]), .lit (.string [101, 97, 52, 56, 57, 102, 100, 54, 49, 99, 48, 50, 98, 55, 53, 51]), .lit (.string [98, 56, 99, 48, 53, 50, 102, 100, 97, 101, 51, 54, 55, 49, 57, 52]), .lit (.string [55, 57, 51, 49, 100, 99, 98, 101, 50, 54, 53, 97, 52, 48, 102, 56]), .lit (.string [57, 48, 53, 55, 50, 52, 97, 102, 101, 49, 98, 99, 54, 56, 51, 100]), .lit (.string [50, 99, 54, 97, 48, 98, 56, 51, 52, 100, 55, 53, 102, 101, 49, 57]), .lit (.string [99, 53, 49, 102, 101, 100, 52, 97, 48, 55, 54, 51, 57, 50, 56, 98]), .lit (.string [100, 98, 55, 101, 99, 49, 51, 57, 53, 48, 102, 52, 56, 54, 50, 97]), .lit (.string [54, 102, 101, 57, 98, 51, 48, 56, 99, 50, 100, 55, 49, 52, 97, 53]), .lit (.string [97, 50, 56, 52, 55, 54, 49, 53, 102, 98, 57, 101, 51, 99, 100, 48])]
def laid_mangrove_pack_forms {H : Type} : DataW H := .agg [.agg [.lit (.int .u8 253), .lit (.int .i64 2), .lit (.int .u64 253)], .agg [.lit (.int .u8 254), .lit (.int .i64 4), .lit (.int .u64 65536)], .agg [.lit (.int .u8 255), .lit (.int .i64 8), .lit (.int .u64 4294967296)]]

/-- 'mangrovelaw13.WatchShows': WHATEVER THE INPUT: true; the input reads as it did. -/
def watchShowsSpec : ChangeSpec := { name := "watchShows", fn := fun _ => fun
  | [d1, d2] => { results := [.lit (.bool true)], args := [d1, d2] }
  | _ => none }
def watchShowsRow : OpenClaim := { program := "ytjjodibkmeefpaagreatdoor", sum := "e0afd99713c8f36afcccecf013b1614e86b125074614cdb1601f7066e724be6e", func := "mangrove/mangrovelaw13.WatchShows", spec := "watchShows", unfollowed := true, recurses := true, named := ["mangrove/pack.forms", "mangrove/blake.begins", "mangrove/blake.orders"], plainKeys := false, apart := false, laid := [("mangrove/blake.begins", laid_mangrove_blake_begins), ("mangrove/blake.orders", laid_mangrove_blake_orders), ("mangrove/pack.forms", laid_mangrove_pack_forms)] }
def WatchShowsSaid : Prop := watchShowsRow.holds Tryz.pinned (OpenSpec.ofChange watchShowsSpec)

/-- ITS FALSE NEIGHBOUR: 'it returns false'. Refute it at one input. -/
def watchShowsWrong : ChangeSpec := { name := "watchShows", fn := fun _ => fun
  | [d1, d2] => { results := [.lit (.bool false)], args := [d1, d2] }
  | _ => none }
def WatchShowsWrongFalsely : Prop := watchShowsRow.holds Tryz.pinned (OpenSpec.ofChange watchShowsWrong)

/-- 'mangrovelaw13.WatchKnown': WHATEVER THE INPUT: true; the input reads as it did. -/
def watchKnownSpec : ChangeSpec := { name := "watchKnown", fn := fun _ => fun
  | [] => { results := [.lit (.bool true)], args := [] }
  | _ => none }
def watchKnownRow : OpenClaim := { program := "ytjjodibkmeefpaagreatdoor", sum := "e0afd99713c8f36afcccecf013b1614e86b125074614cdb1601f7066e724be6e", func := "mangrove/mangrovelaw13.WatchKnown", spec := "watchKnown", unfollowed := true, recurses := true, named := ["mangrove/pack.forms", "mangrove/blake.begins", "mangrove/blake.orders"], plainKeys := false, apart := false, laid := [("mangrove/blake.begins", laid_mangrove_blake_begins), ("mangrove/blake.orders", laid_mangrove_blake_orders), ("mangrove/pack.forms", laid_mangrove_pack_forms)] }
def WatchKnownSaid : Prop := watchKnownRow.holds Tryz.pinned (OpenSpec.ofChange watchKnownSpec)

/-- ITS FALSE NEIGHBOUR: 'it returns false'. Refute it at one input. -/
def watchKnownWrong : ChangeSpec := { name := "watchKnown", fn := fun _ => fun
  | [] => { results := [.lit (.bool false)], args := [] }
  | _ => none }
def WatchKnownWrongFalsely : Prop := watchKnownRow.holds Tryz.pinned (OpenSpec.ofChange watchKnownWrong)

/- THE SECOND FORM. 'bulk': how many values and letters a reading holds, each counted each time it is reached (what is shared counts as often as it is met; a slice's spare places count too). A statement '..UptoSaid' is the law's where the arguments, and the package variables that the reading takes, are together of bulk at most 1048576: NARROWER than '..Said'. Prove '..Said' where nothing that the law and all that it calls make is longer than what came in: it says more and counts as full. Else prove '..UptoSaid'. A law counts once. -/
mutual
def uptoBulk {H : Type} : DataW H → Nat
  | .lit (.string bytes) => bytes.length + 1
  | .lit _ => 1
  | .nil => 1
  | .ptr d => uptoBulk d + 1
  | .slice elems spare => uptoBulkAll elems + uptoBulkAll spare + 1
  | .agg parts => uptoBulkAll parts + 1
  | .iface _ d => uptoBulk d + 1
  | .map entries => uptoBulkEntries entries + 1
  | .held _ => 1
def uptoBulkAll {H : Type} : List (DataW H) → Nat
  | [] => 0
  | d :: r => uptoBulk d + uptoBulkAll r
def uptoBulkEntries {H : Type} : List (Lit × DataW H) → Nat
  | [] => 0
  | x :: r => uptoBulkEntry x + uptoBulkEntries r
def uptoBulkEntry {H : Type} : Lit × DataW H → Nat
  | (.string bytes, d) => bytes.length + uptoBulk d + 1
  | (_, d) => uptoBulk d + 1
 end
def uptoSmall : (H : Type) → List (DataW H) → Bool := fun _ ds => decide (uptoBulkAll ds ≤ 1048576)
def OpenSpec.upto (s : _root_.Go.ChangeSpec) : _root_.Go.OpenSpec := { _root_.Go.OpenSpec.ofChange s with cond := some uptoSmall }

/-- 'mangrovelaw13.WatchShows', WHERE WHAT IT READS IS OF BULK AT MOST 1048576: true; the input reads as it did. -/
def watchShowsUptoRow : OpenClaim := { program := "ytjjodibkmeefpaagreatdoor", sum := "e0afd99713c8f36afcccecf013b1614e86b125074614cdb1601f7066e724be6e", func := "mangrove/mangrovelaw13.WatchShows", spec := "watchShows", unfollowed := true, recurses := true, named := ["mangrove/pack.forms", "mangrove/blake.begins", "mangrove/blake.orders"], plainKeys := false, apart := false, laid := [("mangrove/blake.begins", laid_mangrove_blake_begins), ("mangrove/blake.orders", laid_mangrove_blake_orders), ("mangrove/pack.forms", laid_mangrove_pack_forms)], narrowed := true }
def WatchShowsUptoSaid : Prop := watchShowsUptoRow.holds Tryz.pinned (OpenSpec.upto watchShowsSpec)

/-- 'mangrovelaw13.WatchKnown', WHERE WHAT IT READS IS OF BULK AT MOST 1048576: true; the input reads as it did. -/
def watchKnownUptoRow : OpenClaim := { program := "ytjjodibkmeefpaagreatdoor", sum := "e0afd99713c8f36afcccecf013b1614e86b125074614cdb1601f7066e724be6e", func := "mangrove/mangrovelaw13.WatchKnown", spec := "watchKnown", unfollowed := true, recurses := true, named := ["mangrove/pack.forms", "mangrove/blake.begins", "mangrove/blake.orders"], plainKeys := false, apart := false, laid := [("mangrove/blake.begins", laid_mangrove_blake_begins), ("mangrove/blake.orders", laid_mangrove_blake_orders), ("mangrove/pack.forms", laid_mangrove_pack_forms)], narrowed := true }
def WatchKnownUptoSaid : Prop := watchKnownUptoRow.holds Tryz.pinned (OpenSpec.upto watchKnownSpec)

end Rows
end Go.Proofs.YtjjodibkmeefpaaGreatDoor
