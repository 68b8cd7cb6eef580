/-
  NARROWER THAN 'FOR EVERY INPUT', by the rows' own cells (each row's printed sentence says how): SubsPlays: laid · SubsTells: laid · SubsKnown: laid · SubsTries: laid · SubsBest: laid · SubsTurn: laid.
  DERIVED. THE GIVEN ROWS OF THIS SEAT. 6 by the template 'for every input the law returns true; each argument reads behind the call as it read before'; 0 by the template 'total and deterministic' (their statements: YtbhmflkhcadaeaaDoorTotals.lean).
  GIVEN WITH THE SEED: the statements are not yours to turn. If you find one false, say at which input.
  Laid BY PROGRAM, IN A SANDBOX (cutbox-rows.mjs): the forced cells as the released guide's own fill.sh prints them over the translation 962f3cef6ca43703… (all of the seat's roots in one cut). By AI agents, Wed Nov 11 2026. No macro, syntax, notation, axiom, sorry.
-/
import Derived.Test.YtbhmflkhcadaeaaDoorChecked
import GoSem.PinnedTables
import GoSem.Claim
import GoSem.ClaimJoined
import GoSem.ClaimMapViews
import Derived.JoinedTies
import Derived.KernelRfl
namespace Go.Proofs.YtbhmflkhcadaeaaDoor
/- THE CELL 'sum', in the pinned program and in every row, IS THE sha256 OF THE DUMP (.gsa) THAT YtbhmflkhcadaeaaDoorProg.lean LOADS. Nothing in Lean hashes anything: it is a label: what it is worth is what the hold of that sum in a sandbox is worth. -/
noncomputable def Tryd.pinned : Pinned := { name := "ytbhmflkhcadaeaadoor", sum := "962f3cef6ca43703c5260501e713a29d5da06ed6bc06a85b509ed4889c16c2a2", checked := Tryd.checked }
namespace Rows
def none {H : Type} : Left H := { results := [], args := [] }

/- WHAT THE LISTED PACKAGE-LEVEL VARIABLES READ AS WHEN THE CALL BEGINS. Each datum BY PROGRAM (the guide's laid-datum.mjs) off the statement by which the dump's own 'gosem.cut.vars' lays the variable. In a bare row this is a premise. The card (YtbhmflkhcadaeaaDoorCards.lean) ties it to the program's text. -/
def laid_unicode_utf8_acceptRanges {H : Type} : DataW H := .agg [.agg [.lit (.int .u8 128), .lit (.int .u8 191)], .agg [.lit (.int .u8 160), .lit (.int .u8 191)], .agg [.lit (.int .u8 128), .lit (.int .u8 159)], .agg [.lit (.int .u8 144), .lit (.int .u8 191)], .agg [.lit (.int .u8 128), .lit (.int .u8 143)], .agg [.lit (.int .u8 0), .lit (.int .u8 0)], .agg [.lit (.int .u8 0), .lit (.int .u8 0)], .agg [.lit (.int .u8 0), .lit (.int .u8 0)], .agg [.lit (.int .u8 0), .lit (.int .u8 0)], .agg [.lit (.int .u8 0), .lit (.int .u8 0)], .agg [.lit (.int .u8 0), .lit (.int .u8 0)], .agg [.lit (.int .u8 0), .lit (.int .u8 0)], .agg [.lit (.int .u8 0), .lit (.int .u8 0)], .agg [.lit (.int .u8 0), .lit (.int .u8 0)], .agg [.lit (.int .u8 0), .lit (.int .u8 0)], .agg [.lit (.int .u8 0), .lit (.int .u8 0)]]
/-- One of Go's own tables, pinned by name: the form's constant. -/
def laid_unicode_utf8_first : DataW Unit := Go.Pinned.utf8First

/-- 'relayhouselaw15.SubsPlays': WHATEVER THE INPUT: true; the input reads as it did. -/
def subsPlaysSpec : ChangeSpec := { name := "subsPlays", fn := fun _ => fun
  | [d] => { results := [.lit (.bool true)], args := [d] }
  | _ => none }
def subsPlaysRow : OpenClaim := { program := "ytbhmflkhcadaeaadoor", sum := "962f3cef6ca43703c5260501e713a29d5da06ed6bc06a85b509ed4889c16c2a2", func := "relayhouse/relayhouselaw15.SubsPlays", spec := "subsPlays", inPlace := ["internal/bytealg.CountString", "internal/bytealg.IndexByteString", "internal/bytealg.IndexString", "internal/bytealg.abigen_runtime_cmpstring"], unfollowed := true, recurses := true, named := ["unicode/utf8.first", "unicode/utf8.acceptRanges", "internal/bytealg.MaxLen"], apart := false, laid := [("unicode/utf8.acceptRanges", laid_unicode_utf8_acceptRanges), ("unicode/utf8.first", laid_unicode_utf8_first)] }
def SubsPlaysSaid : Prop := subsPlaysRow.holds Tryd.pinned (OpenSpec.ofChange subsPlaysSpec)

/-- ITS FALSE NEIGHBOUR: 'it returns false'. Refute it at one input. -/
def subsPlaysWrong : ChangeSpec := { name := "subsPlays", fn := fun _ => fun
  | [d] => { results := [.lit (.bool false)], args := [d] }
  | _ => none }
def SubsPlaysWrongFalsely : Prop := subsPlaysRow.holds Tryd.pinned (OpenSpec.ofChange subsPlaysWrong)

/-- 'relayhouselaw15.SubsTells': WHATEVER THE INPUT: true; the input reads as it did. -/
def subsTellsSpec : ChangeSpec := { name := "subsTells", fn := fun _ => fun
  | [d1, d2] => { results := [.lit (.bool true)], args := [d1, d2] }
  | _ => none }
def subsTellsRow : OpenClaim := { program := "ytbhmflkhcadaeaadoor", sum := "962f3cef6ca43703c5260501e713a29d5da06ed6bc06a85b509ed4889c16c2a2", func := "relayhouse/relayhouselaw15.SubsTells", spec := "subsTells", inPlace := ["internal/bytealg.CountString", "internal/bytealg.IndexByteString", "internal/bytealg.IndexString", "internal/bytealg.abigen_runtime_cmpstring"], unfollowed := true, recurses := true, named := ["unicode/utf8.first", "unicode/utf8.acceptRanges", "internal/bytealg.MaxLen"], apart := false, laid := [("unicode/utf8.acceptRanges", laid_unicode_utf8_acceptRanges), ("unicode/utf8.first", laid_unicode_utf8_first)] }
def SubsTellsSaid : Prop := subsTellsRow.holds Tryd.pinned (OpenSpec.ofChange subsTellsSpec)

/-- ITS FALSE NEIGHBOUR: 'it returns false'. Refute it at one input. -/
def subsTellsWrong : ChangeSpec := { name := "subsTells", fn := fun _ => fun
  | [d1, d2] => { results := [.lit (.bool false)], args := [d1, d2] }
  | _ => none }
def SubsTellsWrongFalsely : Prop := subsTellsRow.holds Tryd.pinned (OpenSpec.ofChange subsTellsWrong)

/-- 'relayhouselaw15.SubsKnown': WHATEVER THE INPUT: true; the input reads as it did. -/
def subsKnownSpec : ChangeSpec := { name := "subsKnown", fn := fun _ => fun
  | [] => { results := [.lit (.bool true)], args := [] }
  | _ => none }
def subsKnownRow : OpenClaim := { program := "ytbhmflkhcadaeaadoor", sum := "962f3cef6ca43703c5260501e713a29d5da06ed6bc06a85b509ed4889c16c2a2", func := "relayhouse/relayhouselaw15.SubsKnown", spec := "subsKnown", inPlace := ["internal/bytealg.CountString", "internal/bytealg.IndexByteString", "internal/bytealg.IndexString", "internal/bytealg.abigen_runtime_cmpstring"], unfollowed := true, recurses := true, named := ["unicode/utf8.first", "unicode/utf8.acceptRanges", "internal/bytealg.MaxLen"], apart := false, laid := [("unicode/utf8.acceptRanges", laid_unicode_utf8_acceptRanges), ("unicode/utf8.first", laid_unicode_utf8_first)] }
def SubsKnownSaid : Prop := subsKnownRow.holds Tryd.pinned (OpenSpec.ofChange subsKnownSpec)

/-- ITS FALSE NEIGHBOUR: 'it returns false'. Refute it at one input. -/
def subsKnownWrong : ChangeSpec := { name := "subsKnown", fn := fun _ => fun
  | [] => { results := [.lit (.bool false)], args := [] }
  | _ => none }
def SubsKnownWrongFalsely : Prop := subsKnownRow.holds Tryd.pinned (OpenSpec.ofChange subsKnownWrong)

/-- 'relayhouselaw15.SubsTries': WHATEVER THE INPUT: true; the input reads as it did. -/
def subsTriesSpec : ChangeSpec := { name := "subsTries", fn := fun _ => fun
  | [d1, d2] => { results := [.lit (.bool true)], args := [d1, d2] }
  | _ => none }
def subsTriesRow : OpenClaim := { program := "ytbhmflkhcadaeaadoor", sum := "962f3cef6ca43703c5260501e713a29d5da06ed6bc06a85b509ed4889c16c2a2", func := "relayhouse/relayhouselaw15.SubsTries", spec := "subsTries", inPlace := ["internal/bytealg.CountString", "internal/bytealg.IndexByteString", "internal/bytealg.IndexString", "internal/bytealg.abigen_runtime_cmpstring"], unfollowed := true, recurses := true, named := ["unicode/utf8.first", "unicode/utf8.acceptRanges", "internal/bytealg.MaxLen"], apart := false, laid := [("unicode/utf8.acceptRanges", laid_unicode_utf8_acceptRanges), ("unicode/utf8.first", laid_unicode_utf8_first)] }
def SubsTriesSaid : Prop := subsTriesRow.holds Tryd.pinned (OpenSpec.ofChange subsTriesSpec)

/-- ITS FALSE NEIGHBOUR: 'it returns false'. Refute it at one input. -/
def subsTriesWrong : ChangeSpec := { name := "subsTries", fn := fun _ => fun
  | [d1, d2] => { results := [.lit (.bool false)], args := [d1, d2] }
  | _ => none }
def SubsTriesWrongFalsely : Prop := subsTriesRow.holds Tryd.pinned (OpenSpec.ofChange subsTriesWrong)

/-- 'relayhouselaw15.SubsBest': WHATEVER THE INPUT: true; the input reads as it did. -/
def subsBestSpec : ChangeSpec := { name := "subsBest", fn := fun _ => fun
  | [d1, d2, d3] => { results := [.lit (.bool true)], args := [d1, d2, d3] }
  | _ => none }
def subsBestRow : OpenClaim := { program := "ytbhmflkhcadaeaadoor", sum := "962f3cef6ca43703c5260501e713a29d5da06ed6bc06a85b509ed4889c16c2a2", func := "relayhouse/relayhouselaw15.SubsBest", spec := "subsBest", inPlace := ["internal/bytealg.CountString", "internal/bytealg.IndexByteString", "internal/bytealg.IndexString", "internal/bytealg.abigen_runtime_cmpstring"], unfollowed := true, recurses := true, named := ["unicode/utf8.first", "unicode/utf8.acceptRanges", "internal/bytealg.MaxLen"], apart := false, laid := [("unicode/utf8.acceptRanges", laid_unicode_utf8_acceptRanges), ("unicode/utf8.first", laid_unicode_utf8_first)] }
def SubsBestSaid : Prop := subsBestRow.holds Tryd.pinned (OpenSpec.ofChange subsBestSpec)

/-- ITS FALSE NEIGHBOUR: 'it returns false'. Refute it at one input. -/
def subsBestWrong : ChangeSpec := { name := "subsBest", fn := fun _ => fun
  | [d1, d2, d3] => { results := [.lit (.bool false)], args := [d1, d2, d3] }
  | _ => none }
def SubsBestWrongFalsely : Prop := subsBestRow.holds Tryd.pinned (OpenSpec.ofChange subsBestWrong)

/-- 'relayhouselaw15.SubsTurn': WHATEVER THE INPUT: true; the input reads as it did. -/
def subsTurnSpec : ChangeSpec := { name := "subsTurn", fn := fun _ => fun
  | [d1, d2] => { results := [.lit (.bool true)], args := [d1, d2] }
  | _ => none }
def subsTurnRow : OpenClaim := { program := "ytbhmflkhcadaeaadoor", sum := "962f3cef6ca43703c5260501e713a29d5da06ed6bc06a85b509ed4889c16c2a2", func := "relayhouse/relayhouselaw15.SubsTurn", spec := "subsTurn", inPlace := ["internal/bytealg.CountString", "internal/bytealg.IndexByteString", "internal/bytealg.IndexString", "internal/bytealg.abigen_runtime_cmpstring"], unfollowed := true, recurses := true, named := ["unicode/utf8.first", "unicode/utf8.acceptRanges", "internal/bytealg.MaxLen"], apart := false, laid := [("unicode/utf8.acceptRanges", laid_unicode_utf8_acceptRanges), ("unicode/utf8.first", laid_unicode_utf8_first)] }
def SubsTurnSaid : Prop := subsTurnRow.holds Tryd.pinned (OpenSpec.ofChange subsTurnSpec)

/-- ITS FALSE NEIGHBOUR: 'it returns false'. Refute it at one input. -/
def subsTurnWrong : ChangeSpec := { name := "subsTurn", fn := fun _ => fun
  | [d1, d2] => { results := [.lit (.bool false)], args := [d1, d2] }
  | _ => none }
def SubsTurnWrongFalsely : Prop := subsTurnRow.holds Tryd.pinned (OpenSpec.ofChange subsTurnWrong)

/- THE SECOND FORM. 'bulk': how many values and letters a reading holds, each counted each time it is reached (what is shared counts as often as it is met; a slice's spare places count too). A statement '..UptoSaid' is the law's where the arguments, and the package variables that the reading takes, are together of bulk at most 1048576: NARROWER than '..Said'. Prove '..Said' where nothing that the law and all that it calls make is longer than what came in: it says more and counts as full. Else prove '..UptoSaid'. A law counts once. -/
mutual
def uptoBulk {H : Type} : DataW H → Nat
  | .lit (.string bytes) => bytes.length + 1
  | .lit _ => 1
  | .nil => 1
  | .ptr d => uptoBulk d + 1
  | .slice elems spare => uptoBulkAll elems + uptoBulkAll spare + 1
  | .agg parts => uptoBulkAll parts + 1
  | .iface _ d => uptoBulk d + 1
  | .map entries => uptoBulkEntries entries + 1
  | .held _ => 1
def uptoBulkAll {H : Type} : List (DataW H) → Nat
  | [] => 0
  | d :: r => uptoBulk d + uptoBulkAll r
def uptoBulkEntries {H : Type} : List (Lit × DataW H) → Nat
  | [] => 0
  | x :: r => uptoBulkEntry x + uptoBulkEntries r
def uptoBulkEntry {H : Type} : Lit × DataW H → Nat
  | (.string bytes, d) => bytes.length + uptoBulk d + 1
  | (_, d) => uptoBulk d + 1
 end
def uptoSmall : (H : Type) → List (DataW H) → Bool := fun _ ds => decide (uptoBulkAll ds ≤ 1048576)
def OpenSpec.upto (s : _root_.Go.ChangeSpec) : _root_.Go.OpenSpec := { _root_.Go.OpenSpec.ofChange s with cond := some uptoSmall }

/-- 'relayhouselaw15.SubsPlays', WHERE WHAT IT READS IS OF BULK AT MOST 1048576: true; the input reads as it did. -/
def subsPlaysUptoRow : OpenClaim := { program := "ytbhmflkhcadaeaadoor", sum := "962f3cef6ca43703c5260501e713a29d5da06ed6bc06a85b509ed4889c16c2a2", func := "relayhouse/relayhouselaw15.SubsPlays", spec := "subsPlays", inPlace := ["internal/bytealg.CountString", "internal/bytealg.IndexByteString", "internal/bytealg.IndexString", "internal/bytealg.abigen_runtime_cmpstring"], unfollowed := true, recurses := true, named := ["unicode/utf8.first", "unicode/utf8.acceptRanges", "internal/bytealg.MaxLen"], apart := false, laid := [("unicode/utf8.acceptRanges", laid_unicode_utf8_acceptRanges), ("unicode/utf8.first", laid_unicode_utf8_first)], narrowed := true }
def SubsPlaysUptoSaid : Prop := subsPlaysUptoRow.holds Tryd.pinned (OpenSpec.upto subsPlaysSpec)

/-- 'relayhouselaw15.SubsTells', WHERE WHAT IT READS IS OF BULK AT MOST 1048576: true; the input reads as it did. -/
def subsTellsUptoRow : OpenClaim := { program := "ytbhmflkhcadaeaadoor", sum := "962f3cef6ca43703c5260501e713a29d5da06ed6bc06a85b509ed4889c16c2a2", func := "relayhouse/relayhouselaw15.SubsTells", spec := "subsTells", inPlace := ["internal/bytealg.CountString", "internal/bytealg.IndexByteString", "internal/bytealg.IndexString", "internal/bytealg.abigen_runtime_cmpstring"], unfollowed := true, recurses := true, named := ["unicode/utf8.first", "unicode/utf8.acceptRanges", "internal/bytealg.MaxLen"], apart := false, laid := [("unicode/utf8.acceptRanges", laid_unicode_utf8_acceptRanges), ("unicode/utf8.first", laid_unicode_utf8_first)], narrowed := true }
def SubsTellsUptoSaid : Prop := subsTellsUptoRow.holds Tryd.pinned (OpenSpec.upto subsTellsSpec)

/-- 'relayhouselaw15.SubsKnown', WHERE WHAT IT READS IS OF BULK AT MOST 1048576: true; the input reads as it did. -/
def subsKnownUptoRow : OpenClaim := { program := "ytbhmflkhcadaeaadoor", sum := "962f3cef6ca43703c5260501e713a29d5da06ed6bc06a85b509ed4889c16c2a2", func := "relayhouse/relayhouselaw15.SubsKnown", spec := "subsKnown", inPlace := ["internal/bytealg.CountString", "internal/bytealg.IndexByteString", "internal/bytealg.IndexString", "internal/bytealg.abigen_runtime_cmpstring"], unfollowed := true, recurses := true, named := ["unicode/utf8.first", "unicode/utf8.acceptRanges", "internal/bytealg.MaxLen"], apart := false, laid := [("unicode/utf8.acceptRanges", laid_unicode_utf8_acceptRanges), ("unicode/utf8.first", laid_unicode_utf8_first)], narrowed := true }
def SubsKnownUptoSaid : Prop := subsKnownUptoRow.holds Tryd.pinned (OpenSpec.upto subsKnownSpec)

/-- 'relayhouselaw15.SubsTries', WHERE WHAT IT READS IS OF BULK AT MOST 1048576: true; the input reads as it did. -/
def subsTriesUptoRow : OpenClaim := { program := "ytbhmflkhcadaeaadoor", sum := "962f3cef6ca43703c5260501e713a29d5da06ed6bc06a85b509ed4889c16c2a2", func := "relayhouse/relayhouselaw15.SubsTries", spec := "subsTries", inPlace := ["internal/bytealg.CountString", "internal/bytealg.IndexByteString", "internal/bytealg.IndexString", "internal/bytealg.abigen_runtime_cmpstring"], unfollowed := true, recurses := true, named := ["unicode/utf8.first", "unicode/utf8.acceptRanges", "internal/bytealg.MaxLen"], apart := false, laid := [("unicode/utf8.acceptRanges", laid_unicode_utf8_acceptRanges), ("unicode/utf8.first", laid_unicode_utf8_first)], narrowed := true }
def SubsTriesUptoSaid : Prop := subsTriesUptoRow.holds Tryd.pinned (OpenSpec.upto subsTriesSpec)

/-- 'relayhouselaw15.SubsBest', WHERE WHAT IT READS IS OF BULK AT MOST 1048576: true; the input reads as it did. -/
def subsBestUptoRow : OpenClaim := { program := "ytbhmflkhcadaeaadoor", sum := "962f3cef6ca43703c5260501e713a29d5da06ed6bc06a85b509ed4889c16c2a2", func := "relayhouse/relayhouselaw15.SubsBest", spec := "subsBest", inPlace := ["internal/bytealg.CountString", "internal/bytealg.IndexByteString", "internal/bytealg.IndexString", "internal/bytealg.abigen_runtime_cmpstring"], unfollowed := true, recurses := true, named := ["unicode/utf8.first", "unicode/utf8.acceptRanges", "internal/bytealg.MaxLen"], apart := false, laid := [("unicode/utf8.acceptRanges", laid_unicode_utf8_acceptRanges), ("unicode/utf8.first", laid_unicode_utf8_first)], narrowed := true }
def SubsBestUptoSaid : Prop := subsBestUptoRow.holds Tryd.pinned (OpenSpec.upto subsBestSpec)

/-- 'relayhouselaw15.SubsTurn', WHERE WHAT IT READS IS OF BULK AT MOST 1048576: true; the input reads as it did. -/
def subsTurnUptoRow : OpenClaim := { program := "ytbhmflkhcadaeaadoor", sum := "962f3cef6ca43703c5260501e713a29d5da06ed6bc06a85b509ed4889c16c2a2", func := "relayhouse/relayhouselaw15.SubsTurn", spec := "subsTurn", inPlace := ["internal/bytealg.CountString", "internal/bytealg.IndexByteString", "internal/bytealg.IndexString", "internal/bytealg.abigen_runtime_cmpstring"], unfollowed := true, recurses := true, named := ["unicode/utf8.first", "unicode/utf8.acceptRanges", "internal/bytealg.MaxLen"], apart := false, laid := [("unicode/utf8.acceptRanges", laid_unicode_utf8_acceptRanges), ("unicode/utf8.first", laid_unicode_utf8_first)], narrowed := true }
def SubsTurnUptoSaid : Prop := subsTurnUptoRow.holds Tryd.pinned (OpenSpec.upto subsTurnSpec)

end Rows
end Go.Proofs.YtbhmflkhcadaeaaDoor
