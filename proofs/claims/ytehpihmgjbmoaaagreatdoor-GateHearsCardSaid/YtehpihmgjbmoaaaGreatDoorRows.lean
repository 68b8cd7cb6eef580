/-
  NARROWER THAN 'FOR EVERY INPUT', by the rows' own cells (each row's printed sentence says how): GateChunks: laid · GateOne: laid · GateHears: laid · GateKnown: laid · GateDrains: laid · GatePlays: laid.
  DERIVED. THE GIVEN ROWS OF THIS SEAT. 6 by the template 'for every input the law returns true; each argument reads behind the call as it read before'; 0 by the template 'total and deterministic' (their statements: YtehpihmgjbmoaaaGreatDoorTotals.lean).
  GIVEN WITH THE SEED: the statements are not yours to turn. If you find one false, say at which input.
  Laid BY PROGRAM, IN A SANDBOX (cutbox-rows.mjs): the forced cells as the released guide's own fill.sh prints them over the translation d22aa2175800d8d6… (all of the seat's roots in one cut). By AI agents, Wed Nov 11 2026. No macro, syntax, notation, axiom, sorry.
-/
import Derived.Test.YtehpihmgjbmoaaaGreatDoorChecked
import GoSem.PinnedTables
import GoSem.Claim
import GoSem.ClaimJoined
import GoSem.ClaimMapViews
import Derived.JoinedTies
import Derived.KernelRfl
namespace Go.Proofs.YtehpihmgjbmoaaaGreatDoor
/- THE CELL 'sum', in the pinned program and in every row, IS THE sha256 OF THE DUMP (.gsa) THAT YtehpihmgjbmoaaaGreatDoorProg.lean LOADS. Nothing in Lean hashes anything: it is a label: what it is worth is what the hold of that sum in a sandbox is worth. -/
noncomputable def Tryz.pinned : Pinned := { name := "ytehpihmgjbmoaaagreatdoor", sum := "d22aa2175800d8d69ee4b2d1911e769e72529b3d07f5f243382c825f210ee8d7", checked := Tryz.checked }
namespace Rows
def none {H : Type} : Left H := { results := [], args := [] }

/- WHAT THE LISTED PACKAGE-LEVEL VARIABLES READ AS WHEN THE CALL BEGINS. Each datum BY PROGRAM (the guide's laid-datum.mjs) off the statement by which the dump's own 'gosem.cut.vars' lays the variable. In a bare row this is a premise. The card (YtehpihmgjbmoaaaGreatDoorCards.lean) ties it to the program's text. -/
def laid_unicode_utf8_acceptRanges {H : Type} : DataW H := .agg [.agg [.lit (.int .u8 128), .lit (.int .u8 191)], .agg [.lit (.int .u8 160), .lit (.int .u8 191)], .agg [.lit (.int .u8 128), .lit (.int .u8 159)], .agg [.lit (.int .u8 144), .lit (.int .u8 191)], .agg [.lit (.int .u8 128), .lit (.int .u8 143)], .agg [.lit (.int .u8 0), .lit (.int .u8 0)], .agg [.lit (.int .u8 0), .lit (.int .u8 0)], .agg [.lit (.int .u8 0), .lit (.int .u8 0)], .agg [.lit (.int .u8 0), .lit (.int .u8 0)], .agg [.lit (.int .u8 0), .lit (.int .u8 0)], .agg [.lit (.int .u8 0), .lit (.int .u8 0)], .agg [.lit (.int .u8 0), .lit (.int .u8 0)], .agg [.lit (.int .u8 0), .lit (.int .u8 0)], .agg [.lit (.int .u8 0), .lit (.int .u8 0)], .agg [.lit (.int .u8 0), .lit (.int .u8 0)], .agg [.lit (.int .u8 0), .lit (.int .u8 0)]]
/-- One of Go's own tables, pinned by name: the form's constant. -/
def laid_unicode_utf8_first : DataW Unit := Go.Pinned.utf8First

/-- 'relayhouselaw20.GateChunks': WHATEVER THE INPUT: true; the input reads as it did. -/
def gateChunksSpec : ChangeSpec := { name := "gateChunks", fn := fun _ => fun
  | [d1, d2, d3, d4] => { results := [.lit (.bool true)], args := [d1, d2, d3, d4] }
  | _ => none }
def gateChunksRow : OpenClaim := { program := "ytehpihmgjbmoaaagreatdoor", sum := "d22aa2175800d8d69ee4b2d1911e769e72529b3d07f5f243382c825f210ee8d7", func := "relayhouse/relayhouselaw20.GateChunks", spec := "gateChunks", inPlace := ["internal/bytealg.IndexByteString", "internal/bytealg.IndexString", "internal/bytealg.CountString"], unfollowed := true, recurses := true, named := ["unicode/utf8.first", "unicode/utf8.acceptRanges", "internal/bytealg.MaxLen"], apart := false, laid := [("unicode/utf8.acceptRanges", laid_unicode_utf8_acceptRanges), ("unicode/utf8.first", laid_unicode_utf8_first)] }
def GateChunksSaid : Prop := gateChunksRow.holds Tryz.pinned (OpenSpec.ofChange gateChunksSpec)

/-- ITS FALSE NEIGHBOUR: 'it returns false'. Refute it at one input. -/
def gateChunksWrong : ChangeSpec := { name := "gateChunks", fn := fun _ => fun
  | [d1, d2, d3, d4] => { results := [.lit (.bool false)], args := [d1, d2, d3, d4] }
  | _ => none }
def GateChunksWrongFalsely : Prop := gateChunksRow.holds Tryz.pinned (OpenSpec.ofChange gateChunksWrong)

/-- 'relayhouselaw20.GateOne': WHATEVER THE INPUT: true; the input reads as it did. -/
def gateOneSpec : ChangeSpec := { name := "gateOne", fn := fun _ => fun
  | [d1, d2, d3, d4] => { results := [.lit (.bool true)], args := [d1, d2, d3, d4] }
  | _ => none }
def gateOneRow : OpenClaim := { program := "ytehpihmgjbmoaaagreatdoor", sum := "d22aa2175800d8d69ee4b2d1911e769e72529b3d07f5f243382c825f210ee8d7", func := "relayhouse/relayhouselaw20.GateOne", spec := "gateOne", inPlace := ["internal/bytealg.IndexByteString", "internal/bytealg.IndexString", "internal/bytealg.CountString"], unfollowed := true, recurses := true, named := ["unicode/utf8.first", "unicode/utf8.acceptRanges", "internal/bytealg.MaxLen"], apart := false, laid := [("unicode/utf8.acceptRanges", laid_unicode_utf8_acceptRanges), ("unicode/utf8.first", laid_unicode_utf8_first)] }
def GateOneSaid : Prop := gateOneRow.holds Tryz.pinned (OpenSpec.ofChange gateOneSpec)

/-- ITS FALSE NEIGHBOUR: 'it returns false'. Refute it at one input. -/
def gateOneWrong : ChangeSpec := { name := "gateOne", fn := fun _ => fun
  | [d1, d2, d3, d4] => { results := [.lit (.bool false)], args := [d1, d2, d3, d4] }
  | _ => none }
def GateOneWrongFalsely : Prop := gateOneRow.holds Tryz.pinned (OpenSpec.ofChange gateOneWrong)

/-- 'relayhouselaw20.GateHears': WHATEVER THE INPUT: true; the input reads as it did. -/
def gateHearsSpec : ChangeSpec := { name := "gateHears", fn := fun _ => fun
  | [d1, d2, d3, d4] => { results := [.lit (.bool true)], args := [d1, d2, d3, d4] }
  | _ => none }
def gateHearsRow : OpenClaim := { program := "ytehpihmgjbmoaaagreatdoor", sum := "d22aa2175800d8d69ee4b2d1911e769e72529b3d07f5f243382c825f210ee8d7", func := "relayhouse/relayhouselaw20.GateHears", spec := "gateHears", inPlace := ["internal/bytealg.IndexByteString", "internal/bytealg.IndexString", "internal/bytealg.CountString"], unfollowed := true, recurses := true, named := ["unicode/utf8.first", "unicode/utf8.acceptRanges", "internal/bytealg.MaxLen"], apart := false, laid := [("unicode/utf8.acceptRanges", laid_unicode_utf8_acceptRanges), ("unicode/utf8.first", laid_unicode_utf8_first)] }
def GateHearsSaid : Prop := gateHearsRow.holds Tryz.pinned (OpenSpec.ofChange gateHearsSpec)

/-- ITS FALSE NEIGHBOUR: 'it returns false'. Refute it at one input. -/
def gateHearsWrong : ChangeSpec := { name := "gateHears", fn := fun _ => fun
  | [d1, d2, d3, d4] => { results := [.lit (.bool false)], args := [d1, d2, d3, d4] }
  | _ => none }
def GateHearsWrongFalsely : Prop := gateHearsRow.holds Tryz.pinned (OpenSpec.ofChange gateHearsWrong)

/-- 'relayhouselaw20.GateKnown': WHATEVER THE INPUT: true; the input reads as it did. -/
def gateKnownSpec : ChangeSpec := { name := "gateKnown", fn := fun _ => fun
  | [] => { results := [.lit (.bool true)], args := [] }
  | _ => none }
def gateKnownRow : OpenClaim := { program := "ytehpihmgjbmoaaagreatdoor", sum := "d22aa2175800d8d69ee4b2d1911e769e72529b3d07f5f243382c825f210ee8d7", func := "relayhouse/relayhouselaw20.GateKnown", spec := "gateKnown", inPlace := ["internal/bytealg.IndexByteString", "internal/bytealg.IndexString", "internal/bytealg.CountString"], unfollowed := true, recurses := true, named := ["unicode/utf8.first", "unicode/utf8.acceptRanges", "internal/bytealg.MaxLen"], apart := false, laid := [("unicode/utf8.acceptRanges", laid_unicode_utf8_acceptRanges), ("unicode/utf8.first", laid_unicode_utf8_first)] }
def GateKnownSaid : Prop := gateKnownRow.holds Tryz.pinned (OpenSpec.ofChange gateKnownSpec)

/-- ITS FALSE NEIGHBOUR: 'it returns false'. Refute it at one input. -/
def gateKnownWrong : ChangeSpec := { name := "gateKnown", fn := fun _ => fun
  | [] => { results := [.lit (.bool false)], args := [] }
  | _ => none }
def GateKnownWrongFalsely : Prop := gateKnownRow.holds Tryz.pinned (OpenSpec.ofChange gateKnownWrong)

/-- 'relayhouselaw20.GateDrains': WHATEVER THE INPUT: true; the input reads as it did. -/
def gateDrainsSpec : ChangeSpec := { name := "gateDrains", fn := fun _ => fun
  | [d1, d2, d3, d4, d5] => { results := [.lit (.bool true)], args := [d1, d2, d3, d4, d5] }
  | _ => none }
def gateDrainsRow : OpenClaim := { program := "ytehpihmgjbmoaaagreatdoor", sum := "d22aa2175800d8d69ee4b2d1911e769e72529b3d07f5f243382c825f210ee8d7", func := "relayhouse/relayhouselaw20.GateDrains", spec := "gateDrains", inPlace := ["internal/bytealg.IndexByteString", "internal/bytealg.IndexString", "internal/bytealg.CountString"], unfollowed := true, recurses := true, named := ["unicode/utf8.first", "unicode/utf8.acceptRanges", "internal/bytealg.MaxLen"], apart := false, laid := [("unicode/utf8.acceptRanges", laid_unicode_utf8_acceptRanges), ("unicode/utf8.first", laid_unicode_utf8_first)] }
def GateDrainsSaid : Prop := gateDrainsRow.holds Tryz.pinned (OpenSpec.ofChange gateDrainsSpec)

/-- ITS FALSE NEIGHBOUR: 'it returns false'. Refute it at one input. -/
def gateDrainsWrong : ChangeSpec := { name := "gateDrains", fn := fun _ => fun
  | [d1, d2, d3, d4, d5] => { results := [.lit (.bool false)], args := [d1, d2, d3, d4, d5] }
  | _ => none }
def GateDrainsWrongFalsely : Prop := gateDrainsRow.holds Tryz.pinned (OpenSpec.ofChange gateDrainsWrong)

/-- 'relayhouselaw20.GatePlays': WHATEVER THE INPUT: true; the input reads as it did. -/
def gatePlaysSpec : ChangeSpec := { name := "gatePlays", fn := fun _ => fun
  | [d1, d2, d3, d4] => { results := [.lit (.bool true)], args := [d1, d2, d3, d4] }
  | _ => none }
def gatePlaysRow : OpenClaim := { program := "ytehpihmgjbmoaaagreatdoor", sum := "d22aa2175800d8d69ee4b2d1911e769e72529b3d07f5f243382c825f210ee8d7", func := "relayhouse/relayhouselaw20.GatePlays", spec := "gatePlays", inPlace := ["internal/bytealg.IndexByteString", "internal/bytealg.IndexString", "internal/bytealg.CountString"], unfollowed := true, recurses := true, named := ["unicode/utf8.first", "unicode/utf8.acceptRanges", "internal/bytealg.MaxLen"], apart := false, laid := [("unicode/utf8.acceptRanges", laid_unicode_utf8_acceptRanges), ("unicode/utf8.first", laid_unicode_utf8_first)] }
def GatePlaysSaid : Prop := gatePlaysRow.holds Tryz.pinned (OpenSpec.ofChange gatePlaysSpec)

/-- ITS FALSE NEIGHBOUR: 'it returns false'. Refute it at one input. -/
def gatePlaysWrong : ChangeSpec := { name := "gatePlays", fn := fun _ => fun
  | [d1, d2, d3, d4] => { results := [.lit (.bool false)], args := [d1, d2, d3, d4] }
  | _ => none }
def GatePlaysWrongFalsely : Prop := gatePlaysRow.holds Tryz.pinned (OpenSpec.ofChange gatePlaysWrong)

/- THE SECOND FORM. 'bulk': how many values and letters a reading holds, each counted each time it is reached (what is shared counts as often as it is met; a slice's spare places count too). A statement '..UptoSaid' is the law's where the arguments, and the package variables that the reading takes, are together of bulk at most 1048576: NARROWER than '..Said'. Prove '..Said' where nothing that the law and all that it calls make is longer than what came in: it says more and counts as full. Else prove '..UptoSaid'. A law counts once. -/
mutual
def uptoBulk {H : Type} : DataW H → Nat
  | .lit (.string bytes) => bytes.length + 1
  | .lit _ => 1
  | .nil => 1
  | .ptr d => uptoBulk d + 1
  | .slice elems spare => uptoBulkAll elems + uptoBulkAll spare + 1
  | .agg parts => uptoBulkAll parts + 1
  | .iface _ d => uptoBulk d + 1
  | .map entries => uptoBulkEntries entries + 1
  | .held _ => 1
def uptoBulkAll {H : Type} : List (DataW H) → Nat
  | [] => 0
  | d :: r => uptoBulk d + uptoBulkAll r
def uptoBulkEntries {H : Type} : List (Lit × DataW H) → Nat
  | [] => 0
  | x :: r => uptoBulkEntry x + uptoBulkEntries r
def uptoBulkEntry {H : Type} : Lit × DataW H → Nat
  | (.string bytes, d) => bytes.length + uptoBulk d + 1
  | (_, d) => uptoBulk d + 1
 end
def uptoSmall : (H : Type) → List (DataW H) → Bool := fun _ ds => decide (uptoBulkAll ds ≤ 1048576)
def OpenSpec.upto (s : _root_.Go.ChangeSpec) : _root_.Go.OpenSpec := { _root_.Go.OpenSpec.ofChange s with cond := some uptoSmall }

/-- 'relayhouselaw20.GateChunks', WHERE WHAT IT READS IS OF BULK AT MOST 1048576: true; the input reads as it did. -/
def gateChunksUptoRow : OpenClaim := { program := "ytehpihmgjbmoaaagreatdoor", sum := "d22aa2175800d8d69ee4b2d1911e769e72529b3d07f5f243382c825f210ee8d7", func := "relayhouse/relayhouselaw20.GateChunks", spec := "gateChunks", inPlace := ["internal/bytealg.IndexByteString", "internal/bytealg.IndexString", "internal/bytealg.CountString"], unfollowed := true, recurses := true, named := ["unicode/utf8.first", "unicode/utf8.acceptRanges", "internal/bytealg.MaxLen"], apart := false, laid := [("unicode/utf8.acceptRanges", laid_unicode_utf8_acceptRanges), ("unicode/utf8.first", laid_unicode_utf8_first)], narrowed := true }
def GateChunksUptoSaid : Prop := gateChunksUptoRow.holds Tryz.pinned (OpenSpec.upto gateChunksSpec)

/-- 'relayhouselaw20.GateOne', WHERE WHAT IT READS IS OF BULK AT MOST 1048576: true; the input reads as it did. -/
def gateOneUptoRow : OpenClaim := { program := "ytehpihmgjbmoaaagreatdoor", sum := "d22aa2175800d8d69ee4b2d1911e769e72529b3d07f5f243382c825f210ee8d7", func := "relayhouse/relayhouselaw20.GateOne", spec := "gateOne", inPlace := ["internal/bytealg.IndexByteString", "internal/bytealg.IndexString", "internal/bytealg.CountString"], unfollowed := true, recurses := true, named := ["unicode/utf8.first", "unicode/utf8.acceptRanges", "internal/bytealg.MaxLen"], apart := false, laid := [("unicode/utf8.acceptRanges", laid_unicode_utf8_acceptRanges), ("unicode/utf8.first", laid_unicode_utf8_first)], narrowed := true }
def GateOneUptoSaid : Prop := gateOneUptoRow.holds Tryz.pinned (OpenSpec.upto gateOneSpec)

/-- 'relayhouselaw20.GateHears', WHERE WHAT IT READS IS OF BULK AT MOST 1048576: true; the input reads as it did. -/
def gateHearsUptoRow : OpenClaim := { program := "ytehpihmgjbmoaaagreatdoor", sum := "d22aa2175800d8d69ee4b2d1911e769e72529b3d07f5f243382c825f210ee8d7", func := "relayhouse/relayhouselaw20.GateHears", spec := "gateHears", inPlace := ["internal/bytealg.IndexByteString", "internal/bytealg.IndexString", "internal/bytealg.CountString"], unfollowed := true, recurses := true, named := ["unicode/utf8.first", "unicode/utf8.acceptRanges", "internal/bytealg.MaxLen"], apart := false, laid := [("unicode/utf8.acceptRanges", laid_unicode_utf8_acceptRanges), ("unicode/utf8.first", laid_unicode_utf8_first)], narrowed := true }
def GateHearsUptoSaid : Prop := gateHearsUptoRow.holds Tryz.pinned (OpenSpec.upto gateHearsSpec)

/-- 'relayhouselaw20.GateKnown', WHERE WHAT IT READS IS OF BULK AT MOST 1048576: true; the input reads as it did. -/
def gateKnownUptoRow : OpenClaim := { program := "ytehpihmgjbmoaaagreatdoor", sum := "d22aa2175800d8d69ee4b2d1911e769e72529b3d07f5f243382c825f210ee8d7", func := "relayhouse/relayhouselaw20.GateKnown", spec := "gateKnown", inPlace := ["internal/bytealg.IndexByteString", "internal/bytealg.IndexString", "internal/bytealg.CountString"], unfollowed := true, recurses := true, named := ["unicode/utf8.first", "unicode/utf8.acceptRanges", "internal/bytealg.MaxLen"], apart := false, laid := [("unicode/utf8.acceptRanges", laid_unicode_utf8_acceptRanges), ("unicode/utf8.first", laid_unicode_utf8_first)], narrowed := true }
def GateKnownUptoSaid : Prop := gateKnownUptoRow.holds Tryz.pinned (OpenSpec.upto gateKnownSpec)

/-- 'relayhouselaw20.GateDrains', WHERE WHAT IT READS IS OF BULK AT MOST 1048576: true; the input reads as it did. -/
def gateDrainsUptoRow : OpenClaim := { program := "ytehpihmgjbmoaaagreatdoor", sum := "d22aa2175800d8d69ee4b2d1911e769e72529b3d07f5f243382c825f210ee8d7", func := "relayhouse/relayhouselaw20.GateDrains", spec := "gateDrains", inPlace := ["internal/bytealg.IndexByteString", "internal/bytealg.IndexString", "internal/bytealg.CountString"], unfollowed := true, recurses := true, named := ["unicode/utf8.first", "unicode/utf8.acceptRanges", "internal/bytealg.MaxLen"], apart := false, laid := [("unicode/utf8.acceptRanges", laid_unicode_utf8_acceptRanges), ("unicode/utf8.first", laid_unicode_utf8_first)], narrowed := true }
def GateDrainsUptoSaid : Prop := gateDrainsUptoRow.holds Tryz.pinned (OpenSpec.upto gateDrainsSpec)

/-- 'relayhouselaw20.GatePlays', WHERE WHAT IT READS IS OF BULK AT MOST 1048576: true; the input reads as it did. -/
def gatePlaysUptoRow : OpenClaim := { program := "ytehpihmgjbmoaaagreatdoor", sum := "d22aa2175800d8d69ee4b2d1911e769e72529b3d07f5f243382c825f210ee8d7", func := "relayhouse/relayhouselaw20.GatePlays", spec := "gatePlays", inPlace := ["internal/bytealg.IndexByteString", "internal/bytealg.IndexString", "internal/bytealg.CountString"], unfollowed := true, recurses := true, named := ["unicode/utf8.first", "unicode/utf8.acceptRanges", "internal/bytealg.MaxLen"], apart := false, laid := [("unicode/utf8.acceptRanges", laid_unicode_utf8_acceptRanges), ("unicode/utf8.first", laid_unicode_utf8_first)], narrowed := true }
def GatePlaysUptoSaid : Prop := gatePlaysUptoRow.holds Tryz.pinned (OpenSpec.upto gatePlaysSpec)

end Rows
end Go.Proofs.YtehpihmgjbmoaaaGreatDoor
