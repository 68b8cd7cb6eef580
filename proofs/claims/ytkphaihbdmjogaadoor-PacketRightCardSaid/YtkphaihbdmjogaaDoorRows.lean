/-
  NARROWER THAN 'FOR EVERY INPUT', by the rows' own cells (each row's printed sentence says how): PacketKnown: laid · PacketRight: laid · PacketSame: laid · PacketFields: laid · PacketTopics: laid · PacketRests: laid · WriteKnown: laid · WriteEncodes: laid · WriteAll: laid · WriteRow: laid · WriteApart: laid · WriteSizes: laid.
  DERIVED. THE GIVEN ROWS OF THIS SEAT. 12 by the template 'for every input the law returns true; each argument reads behind the call as it read before'; 0 by the template 'total and deterministic' (their statements: YtkphaihbdmjogaaDoorTotals.lean).
  GIVEN WITH THE SEED: the statements are not yours to turn. If you find one false, say at which input.
  Laid BY PROGRAM, IN A SANDBOX (cutbox-rows.mjs): the forced cells as the released guide's own fill.sh prints them over the translation a732c696126998b7… (all of the seat's roots in one cut). By AI agents, Wed Nov 11 2026. No macro, syntax, notation, axiom, sorry.
-/
import Derived.Test.YtkphaihbdmjogaaDoorChecked
import GoSem.PinnedTables
import GoSem.Claim
import GoSem.ClaimJoined
import GoSem.ClaimMapViews
import Derived.JoinedTies
import Derived.KernelRfl
namespace Go.Proofs.YtkphaihbdmjogaaDoor
/- THE CELL 'sum', in the pinned program and in every row, IS THE sha256 OF THE DUMP (.gsa) THAT YtkphaihbdmjogaaDoorProg.lean LOADS. Nothing in Lean hashes anything: it is a label: what it is worth is what the hold of that sum in a sandbox is worth. -/
noncomputable def Tryd.pinned : Pinned := { name := "ytkphaihbdmjogaadoor", sum := "a732c696126998b730ec79d47f6961d9d32f1f3565da7cad0171def89f753892", checked := Tryd.checked }
namespace Rows
def none {H : Type} : Left H := { results := [], args := [] }

/- WHAT THE LISTED PACKAGE-LEVEL VARIABLES READ AS WHEN THE CALL BEGINS. Each datum BY PROGRAM (the guide's laid-datum.mjs) off the statement by which the dump's own 'gosem.cut.vars' lays the variable. In a bare row this is a premise. The card (YtkphaihbdmjogaaDoorCards.lean) ties it to the program's text. -/
def laid_unicode_utf8_acceptRanges {H : Type} : DataW H := .agg [.agg [.lit (.int .u8 128), .lit (.int .u8 191)], .agg [.lit (.int .u8 160), .lit (.int .u8 191)], .agg [.lit (.int .u8 128), .lit (.int .u8 159)], .agg [.lit (.int .u8 144), .lit (.int .u8 191)], .agg [.lit (.int .u8 128), .lit (.int .u8 143)], .agg [.lit (.int .u8 0), .lit (.int .u8 0)], .agg [.lit (.int .u8 0), .lit (.int .u8 0)], .agg [.lit (.int .u8 0), .lit (.int .u8 0)], .agg [.lit (.int .u8 0), .lit (.int .u8 0)], .agg [.lit (.int .u8 0), .lit (.int .u8 0)], .agg [.lit (.int .u8 0), .lit (.int .u8 0)], .agg [.lit (.int .u8 0), .lit (.int .u8 0)], .agg [.lit (.int .u8 0), .lit (.int .u8 0)], .agg [.lit (.int .u8 0), .lit (.int .u8 0)], .agg [.lit (.int .u8 0), .lit (.int .u8 0)], .agg [.lit (.int .u8 0), .lit (.int .u8 0)]]
/-- One of Go's own tables, pinned by name: the form's constant. -/
def laid_unicode_utf8_first : DataW Unit := Go.Pinned.utf8First

/-- 'relayhouselaw03.PacketKnown': WHATEVER THE INPUT: true; the input reads as it did. -/
def packetKnownSpec : ChangeSpec := { name := "packetKnown", fn := fun _ => fun
  | [] => { results := [.lit (.bool true)], args := [] }
  | _ => none }
def packetKnownRow : OpenClaim := { program := "ytkphaihbdmjogaadoor", sum := "a732c696126998b730ec79d47f6961d9d32f1f3565da7cad0171def89f753892", func := "relayhouse/relayhouselaw03.PacketKnown", spec := "packetKnown", inPlace := ["internal/bytealg.IndexByteString", "internal/bytealg.IndexString", "internal/bytealg.CountString"], named := ["unicode/utf8.first", "unicode/utf8.acceptRanges", "internal/bytealg.MaxLen"], apart := false, laid := [("unicode/utf8.acceptRanges", laid_unicode_utf8_acceptRanges), ("unicode/utf8.first", laid_unicode_utf8_first)] }
def PacketKnownSaid : Prop := packetKnownRow.holds Tryd.pinned (OpenSpec.ofChange packetKnownSpec)

/-- ITS FALSE NEIGHBOUR: 'it returns false'. Refute it at one input. -/
def packetKnownWrong : ChangeSpec := { name := "packetKnown", fn := fun _ => fun
  | [] => { results := [.lit (.bool false)], args := [] }
  | _ => none }
def PacketKnownWrongFalsely : Prop := packetKnownRow.holds Tryd.pinned (OpenSpec.ofChange packetKnownWrong)

/-- 'relayhouselaw03.PacketRight': WHATEVER THE INPUT: true; the input reads as it did. -/
def packetRightSpec : ChangeSpec := { name := "packetRight", fn := fun _ => fun
  | [d] => { results := [.lit (.bool true)], args := [d] }
  | _ => none }
def packetRightRow : OpenClaim := { program := "ytkphaihbdmjogaadoor", sum := "a732c696126998b730ec79d47f6961d9d32f1f3565da7cad0171def89f753892", func := "relayhouse/relayhouselaw03.PacketRight", spec := "packetRight", inPlace := ["internal/bytealg.IndexByteString", "internal/bytealg.IndexString", "internal/bytealg.CountString"], named := ["unicode/utf8.first", "unicode/utf8.acceptRanges", "internal/bytealg.MaxLen"], apart := false, laid := [("unicode/utf8.acceptRanges", laid_unicode_utf8_acceptRanges), ("unicode/utf8.first", laid_unicode_utf8_first)] }
def PacketRightSaid : Prop := packetRightRow.holds Tryd.pinned (OpenSpec.ofChange packetRightSpec)

/-- ITS FALSE NEIGHBOUR: 'it returns false'. Refute it at one input. -/
def packetRightWrong : ChangeSpec := { name := "packetRight", fn := fun _ => fun
  | [d] => { results := [.lit (.bool false)], args := [d] }
  | _ => none }
def PacketRightWrongFalsely : Prop := packetRightRow.holds Tryd.pinned (OpenSpec.ofChange packetRightWrong)

/-- 'relayhouselaw03.PacketSame': WHATEVER THE INPUT: true; the input reads as it did. -/
def packetSameSpec : ChangeSpec := { name := "packetSame", fn := fun _ => fun
  | [d1, d2, d3] => { results := [.lit (.bool true)], args := [d1, d2, d3] }
  | _ => none }
def packetSameRow : OpenClaim := { program := "ytkphaihbdmjogaadoor", sum := "a732c696126998b730ec79d47f6961d9d32f1f3565da7cad0171def89f753892", func := "relayhouse/relayhouselaw03.PacketSame", spec := "packetSame", inPlace := ["internal/bytealg.IndexByteString", "internal/bytealg.IndexString", "internal/bytealg.CountString"], named := ["unicode/utf8.first", "unicode/utf8.acceptRanges", "internal/bytealg.MaxLen"], apart := false, laid := [("unicode/utf8.acceptRanges", laid_unicode_utf8_acceptRanges), ("unicode/utf8.first", laid_unicode_utf8_first)] }
def PacketSameSaid : Prop := packetSameRow.holds Tryd.pinned (OpenSpec.ofChange packetSameSpec)

/-- ITS FALSE NEIGHBOUR: 'it returns false'. Refute it at one input. -/
def packetSameWrong : ChangeSpec := { name := "packetSame", fn := fun _ => fun
  | [d1, d2, d3] => { results := [.lit (.bool false)], args := [d1, d2, d3] }
  | _ => none }
def PacketSameWrongFalsely : Prop := packetSameRow.holds Tryd.pinned (OpenSpec.ofChange packetSameWrong)

/-- 'relayhouselaw03.PacketFields': WHATEVER THE INPUT: true; the input reads as it did. -/
def packetFieldsSpec : ChangeSpec := { name := "packetFields", fn := fun _ => fun
  | [d1, d2] => { results := [.lit (.bool true)], args := [d1, d2] }
  | _ => none }
def packetFieldsRow : OpenClaim := { program := "ytkphaihbdmjogaadoor", sum := "a732c696126998b730ec79d47f6961d9d32f1f3565da7cad0171def89f753892", func := "relayhouse/relayhouselaw03.PacketFields", spec := "packetFields", inPlace := ["internal/bytealg.IndexByteString", "internal/bytealg.IndexString", "internal/bytealg.CountString"], named := ["unicode/utf8.first", "unicode/utf8.acceptRanges", "internal/bytealg.MaxLen"], apart := false, laid := [("unicode/utf8.acceptRanges", laid_unicode_utf8_acceptRanges), ("unicode/utf8.first", laid_unicode_utf8_first)] }
def PacketFieldsSaid : Prop := packetFieldsRow.holds Tryd.pinned (OpenSpec.ofChange packetFieldsSpec)

/-- ITS FALSE NEIGHBOUR: 'it returns false'. Refute it at one input. -/
def packetFieldsWrong : ChangeSpec := { name := "packetFields", fn := fun _ => fun
  | [d1, d2] => { results := [.lit (.bool false)], args := [d1, d2] }
  | _ => none }
def PacketFieldsWrongFalsely : Prop := packetFieldsRow.holds Tryd.pinned (OpenSpec.ofChange packetFieldsWrong)

/-- 'relayhouselaw03.PacketTopics': WHATEVER THE INPUT: true; the input reads as it did. -/
def packetTopicsSpec : ChangeSpec := { name := "packetTopics", fn := fun _ => fun
  | [d1, d2] => { results := [.lit (.bool true)], args := [d1, d2] }
  | _ => none }
def packetTopicsRow : OpenClaim := { program := "ytkphaihbdmjogaadoor", sum := "a732c696126998b730ec79d47f6961d9d32f1f3565da7cad0171def89f753892", func := "relayhouse/relayhouselaw03.PacketTopics", spec := "packetTopics", inPlace := ["internal/bytealg.IndexByteString", "internal/bytealg.IndexString", "internal/bytealg.CountString"], named := ["unicode/utf8.first", "unicode/utf8.acceptRanges", "internal/bytealg.MaxLen"], apart := false, laid := [("unicode/utf8.acceptRanges", laid_unicode_utf8_acceptRanges), ("unicode/utf8.first", laid_unicode_utf8_first)] }
def PacketTopicsSaid : Prop := packetTopicsRow.holds Tryd.pinned (OpenSpec.ofChange packetTopicsSpec)

/-- ITS FALSE NEIGHBOUR: 'it returns false'. Refute it at one input. -/
def packetTopicsWrong : ChangeSpec := { name := "packetTopics", fn := fun _ => fun
  | [d1, d2] => { results := [.lit (.bool false)], args := [d1, d2] }
  | _ => none }
def PacketTopicsWrongFalsely : Prop := packetTopicsRow.holds Tryd.pinned (OpenSpec.ofChange packetTopicsWrong)

/-- 'relayhouselaw03.PacketRests': WHATEVER THE INPUT: true; the input reads as it did. -/
def packetRestsSpec : ChangeSpec := { name := "packetRests", fn := fun _ => fun
  | [d1, d2] => { results := [.lit (.bool true)], args := [d1, d2] }
  | _ => none }
def packetRestsRow : OpenClaim := { program := "ytkphaihbdmjogaadoor", sum := "a732c696126998b730ec79d47f6961d9d32f1f3565da7cad0171def89f753892", func := "relayhouse/relayhouselaw03.PacketRests", spec := "packetRests", inPlace := ["internal/bytealg.IndexByteString", "internal/bytealg.IndexString", "internal/bytealg.CountString"], named := ["unicode/utf8.first", "unicode/utf8.acceptRanges", "internal/bytealg.MaxLen"], apart := false, laid := [("unicode/utf8.acceptRanges", laid_unicode_utf8_acceptRanges), ("unicode/utf8.first", laid_unicode_utf8_first)] }
def PacketRestsSaid : Prop := packetRestsRow.holds Tryd.pinned (OpenSpec.ofChange packetRestsSpec)

/-- ITS FALSE NEIGHBOUR: 'it returns false'. Refute it at one input. -/
def packetRestsWrong : ChangeSpec := { name := "packetRests", fn := fun _ => fun
  | [d1, d2] => { results := [.lit (.bool false)], args := [d1, d2] }
  | _ => none }
def PacketRestsWrongFalsely : Prop := packetRestsRow.holds Tryd.pinned (OpenSpec.ofChange packetRestsWrong)

/-- 'relayhouselaw04.WriteKnown': WHATEVER THE INPUT: true; the input reads as it did. -/
def writeKnownSpec : ChangeSpec := { name := "writeKnown", fn := fun _ => fun
  | [] => { results := [.lit (.bool true)], args := [] }
  | _ => none }
def writeKnownRow : OpenClaim := { program := "ytkphaihbdmjogaadoor", sum := "a732c696126998b730ec79d47f6961d9d32f1f3565da7cad0171def89f753892", func := "relayhouse/relayhouselaw04.WriteKnown", spec := "writeKnown", inPlace := ["internal/bytealg.IndexByteString", "internal/bytealg.IndexString", "internal/bytealg.CountString"], named := ["unicode/utf8.first", "unicode/utf8.acceptRanges", "internal/bytealg.MaxLen"], apart := false, laid := [("unicode/utf8.acceptRanges", laid_unicode_utf8_acceptRanges), ("unicode/utf8.first", laid_unicode_utf8_first)] }
def WriteKnownSaid : Prop := writeKnownRow.holds Tryd.pinned (OpenSpec.ofChange writeKnownSpec)

/-- ITS FALSE NEIGHBOUR: 'it returns false'. Refute it at one input. -/
def writeKnownWrong : ChangeSpec := { name := "writeKnown", fn := fun _ => fun
  | [] => { results := [.lit (.bool false)], args := [] }
  | _ => none }
def WriteKnownWrongFalsely : Prop := writeKnownRow.holds Tryd.pinned (OpenSpec.ofChange writeKnownWrong)

/-- 'relayhouselaw04.WriteEncodes': WHATEVER THE INPUT: true; the input reads as it did. -/
def writeEncodesSpec : ChangeSpec := { name := "writeEncodes", fn := fun _ => fun
  | [d] => { results := [.lit (.bool true)], args := [d] }
  | _ => none }
def writeEncodesRow : OpenClaim := { program := "ytkphaihbdmjogaadoor", sum := "a732c696126998b730ec79d47f6961d9d32f1f3565da7cad0171def89f753892", func := "relayhouse/relayhouselaw04.WriteEncodes", spec := "writeEncodes", inPlace := ["internal/bytealg.IndexByteString", "internal/bytealg.IndexString", "internal/bytealg.CountString"], named := ["unicode/utf8.first", "unicode/utf8.acceptRanges", "internal/bytealg.MaxLen"], apart := false, laid := [("unicode/utf8.acceptRanges", laid_unicode_utf8_acceptRanges), ("unicode/utf8.first", laid_unicode_utf8_first)] }
def WriteEncodesSaid : Prop := writeEncodesRow.holds Tryd.pinned (OpenSpec.ofChange writeEncodesSpec)

/-- ITS FALSE NEIGHBOUR: 'it returns false'. Refute it at one input. -/
def writeEncodesWrong : ChangeSpec := { name := "writeEncodes", fn := fun _ => fun
  | [d] => { results := [.lit (.bool false)], args := [d] }
  | _ => none }
def WriteEncodesWrongFalsely : Prop := writeEncodesRow.holds Tryd.pinned (OpenSpec.ofChange writeEncodesWrong)

/-- 'relayhouselaw04.WriteAll': WHATEVER THE INPUT: true; the input reads as it did. -/
def writeAllSpec : ChangeSpec := { name := "writeAll", fn := fun _ => fun
  | [d] => { results := [.lit (.bool true)], args := [d] }
  | _ => none }
def writeAllRow : OpenClaim := { program := "ytkphaihbdmjogaadoor", sum := "a732c696126998b730ec79d47f6961d9d32f1f3565da7cad0171def89f753892", func := "relayhouse/relayhouselaw04.WriteAll", spec := "writeAll", inPlace := ["internal/bytealg.IndexByteString", "internal/bytealg.IndexString", "internal/bytealg.CountString"], named := ["unicode/utf8.first", "unicode/utf8.acceptRanges", "internal/bytealg.MaxLen"], apart := false, laid := [("unicode/utf8.acceptRanges", laid_unicode_utf8_acceptRanges), ("unicode/utf8.first", laid_unicode_utf8_first)] }
def WriteAllSaid : Prop := writeAllRow.holds Tryd.pinned (OpenSpec.ofChange writeAllSpec)

/-- ITS FALSE NEIGHBOUR: 'it returns false'. Refute it at one input. -/
def writeAllWrong : ChangeSpec := { name := "writeAll", fn := fun _ => fun
  | [d] => { results := [.lit (.bool false)], args := [d] }
  | _ => none }
def WriteAllWrongFalsely : Prop := writeAllRow.holds Tryd.pinned (OpenSpec.ofChange writeAllWrong)

/-- 'relayhouselaw04.WriteRow': WHATEVER THE INPUT: true; the input reads as it did. -/
def writeRowSpec : ChangeSpec := { name := "writeRow", fn := fun _ => fun
  | [d1, d2] => { results := [.lit (.bool true)], args := [d1, d2] }
  | _ => none }
def writeRowRow : OpenClaim := { program := "ytkphaihbdmjogaadoor", sum := "a732c696126998b730ec79d47f6961d9d32f1f3565da7cad0171def89f753892", func := "relayhouse/relayhouselaw04.WriteRow", spec := "writeRow", inPlace := ["internal/bytealg.IndexByteString", "internal/bytealg.IndexString", "internal/bytealg.CountString"], named := ["unicode/utf8.first", "unicode/utf8.acceptRanges", "internal/bytealg.MaxLen"], apart := false, laid := [("unicode/utf8.acceptRanges", laid_unicode_utf8_acceptRanges), ("unicode/utf8.first", laid_unicode_utf8_first)] }
def WriteRowSaid : Prop := writeRowRow.holds Tryd.pinned (OpenSpec.ofChange writeRowSpec)

/-- ITS FALSE NEIGHBOUR: 'it returns false'. Refute it at one input. -/
def writeRowWrong : ChangeSpec := { name := "writeRow", fn := fun _ => fun
  | [d1, d2] => { results := [.lit (.bool false)], args := [d1, d2] }
  | _ => none }
def WriteRowWrongFalsely : Prop := writeRowRow.holds Tryd.pinned (OpenSpec.ofChange writeRowWrong)

/-- 'relayhouselaw04.WriteApart': WHATEVER THE INPUT: true; the input reads as it did. -/
def writeApartSpec : ChangeSpec := { name := "writeApart", fn := fun _ => fun
  | [d1, d2] => { results := [.lit (.bool true)], args := [d1, d2] }
  | _ => none }
def writeApartRow : OpenClaim := { program := "ytkphaihbdmjogaadoor", sum := "a732c696126998b730ec79d47f6961d9d32f1f3565da7cad0171def89f753892", func := "relayhouse/relayhouselaw04.WriteApart", spec := "writeApart", inPlace := ["internal/bytealg.IndexByteString", "internal/bytealg.IndexString", "internal/bytealg.CountString"], named := ["unicode/utf8.first", "unicode/utf8.acceptRanges", "internal/bytealg.MaxLen"], apart := false, laid := [("unicode/utf8.acceptRanges", laid_unicode_utf8_acceptRanges), ("unicode/utf8.first", laid_unicode_utf8_first)] }
def WriteApartSaid : Prop := writeApartRow.holds Tryd.pinned (OpenSpec.ofChange writeApartSpec)

/-- ITS FALSE NEIGHBOUR: 'it returns false'. Refute it at one input. -/
def writeApartWrong : ChangeSpec := { name := "writeApart", fn := fun _ => fun
  | [d1, d2] => { results := [.lit (.bool false)], args := [d1, d2] }
  | _ => none }
def WriteApartWrongFalsely : Prop := writeApartRow.holds Tryd.pinned (OpenSpec.ofChange writeApartWrong)

/-- 'relayhouselaw04.WriteSizes': WHATEVER THE INPUT: true; the input reads as it did. -/
def writeSizesSpec : ChangeSpec := { name := "writeSizes", fn := fun _ => fun
  | [d] => { results := [.lit (.bool true)], args := [d] }
  | _ => none }
def writeSizesRow : OpenClaim := { program := "ytkphaihbdmjogaadoor", sum := "a732c696126998b730ec79d47f6961d9d32f1f3565da7cad0171def89f753892", func := "relayhouse/relayhouselaw04.WriteSizes", spec := "writeSizes", inPlace := ["internal/bytealg.IndexByteString", "internal/bytealg.IndexString", "internal/bytealg.CountString"], named := ["unicode/utf8.first", "unicode/utf8.acceptRanges", "internal/bytealg.MaxLen"], apart := false, laid := [("unicode/utf8.acceptRanges", laid_unicode_utf8_acceptRanges), ("unicode/utf8.first", laid_unicode_utf8_first)] }
def WriteSizesSaid : Prop := writeSizesRow.holds Tryd.pinned (OpenSpec.ofChange writeSizesSpec)

/-- ITS FALSE NEIGHBOUR: 'it returns false'. Refute it at one input. -/
def writeSizesWrong : ChangeSpec := { name := "writeSizes", fn := fun _ => fun
  | [d] => { results := [.lit (.bool false)], args := [d] }
  | _ => none }
def WriteSizesWrongFalsely : Prop := writeSizesRow.holds Tryd.pinned (OpenSpec.ofChange writeSizesWrong)

/- THE SECOND FORM. 'bulk': how many values and letters a reading holds, each counted each time it is reached (what is shared counts as often as it is met; a slice's spare places count too). A statement '..UptoSaid' is the law's where the arguments, and the package variables that the reading takes, are together of bulk at most 1048576: NARROWER than '..Said'. Prove '..Said' where nothing that the law and all that it calls make is longer than what came in: it says more and counts as full. Else prove '..UptoSaid'. A law counts once. -/
mutual
def uptoBulk {H : Type} : DataW H → Nat
  | .lit (.string bytes) => bytes.length + 1
  | .lit _ => 1
  | .nil => 1
  | .ptr d => uptoBulk d + 1
  | .slice elems spare => uptoBulkAll elems + uptoBulkAll spare + 1
  | .agg parts => uptoBulkAll parts + 1
  | .iface _ d => uptoBulk d + 1
  | .map entries => uptoBulkEntries entries + 1
  | .held _ => 1
def uptoBulkAll {H : Type} : List (DataW H) → Nat
  | [] => 0
  | d :: r => uptoBulk d + uptoBulkAll r
def uptoBulkEntries {H : Type} : List (Lit × DataW H) → Nat
  | [] => 0
  | x :: r => uptoBulkEntry x + uptoBulkEntries r
def uptoBulkEntry {H : Type} : Lit × DataW H → Nat
  | (.string bytes, d) => bytes.length + uptoBulk d + 1
  | (_, d) => uptoBulk d + 1
 end
def uptoSmall : (H : Type) → List (DataW H) → Bool := fun _ ds => decide (uptoBulkAll ds ≤ 1048576)
def OpenSpec.upto (s : _root_.Go.ChangeSpec) : _root_.Go.OpenSpec := { _root_.Go.OpenSpec.ofChange s with cond := some uptoSmall }

/-- 'relayhouselaw03.PacketKnown', WHERE WHAT IT READS IS OF BULK AT MOST 1048576: true; the input reads as it did. -/
def packetKnownUptoRow : OpenClaim := { program := "ytkphaihbdmjogaadoor", sum := "a732c696126998b730ec79d47f6961d9d32f1f3565da7cad0171def89f753892", func := "relayhouse/relayhouselaw03.PacketKnown", spec := "packetKnown", inPlace := ["internal/bytealg.IndexByteString", "internal/bytealg.IndexString", "internal/bytealg.CountString"], named := ["unicode/utf8.first", "unicode/utf8.acceptRanges", "internal/bytealg.MaxLen"], apart := false, laid := [("unicode/utf8.acceptRanges", laid_unicode_utf8_acceptRanges), ("unicode/utf8.first", laid_unicode_utf8_first)], narrowed := true }
def PacketKnownUptoSaid : Prop := packetKnownUptoRow.holds Tryd.pinned (OpenSpec.upto packetKnownSpec)

/-- 'relayhouselaw03.PacketRight', WHERE WHAT IT READS IS OF BULK AT MOST 1048576: true; the input reads as it did. -/
def packetRightUptoRow : OpenClaim := { program := "ytkphaihbdmjogaadoor", sum := "a732c696126998b730ec79d47f6961d9d32f1f3565da7cad0171def89f753892", func := "relayhouse/relayhouselaw03.PacketRight", spec := "packetRight", inPlace := ["internal/bytealg.IndexByteString", "internal/bytealg.IndexString", "internal/bytealg.CountString"], named := ["unicode/utf8.first", "unicode/utf8.acceptRanges", "internal/bytealg.MaxLen"], apart := false, laid := [("unicode/utf8.acceptRanges", laid_unicode_utf8_acceptRanges), ("unicode/utf8.first", laid_unicode_utf8_first)], narrowed := true }
def PacketRightUptoSaid : Prop := packetRightUptoRow.holds Tryd.pinned (OpenSpec.upto packetRightSpec)

/-- 'relayhouselaw03.PacketSame', WHERE WHAT IT READS IS OF BULK AT MOST 1048576: true; the input reads as it did. -/
def packetSameUptoRow : OpenClaim := { program := "ytkphaihbdmjogaadoor", sum := "a732c696126998b730ec79d47f6961d9d32f1f3565da7cad0171def89f753892", func := "relayhouse/relayhouselaw03.PacketSame", spec := "packetSame", inPlace := ["internal/bytealg.IndexByteString", "internal/bytealg.IndexString", "internal/bytealg.CountString"], named := ["unicode/utf8.first", "unicode/utf8.acceptRanges", "internal/bytealg.MaxLen"], apart := false, laid := [("unicode/utf8.acceptRanges", laid_unicode_utf8_acceptRanges), ("unicode/utf8.first", laid_unicode_utf8_first)], narrowed := true }
def PacketSameUptoSaid : Prop := packetSameUptoRow.holds Tryd.pinned (OpenSpec.upto packetSameSpec)

/-- 'relayhouselaw03.PacketFields', WHERE WHAT IT READS IS OF BULK AT MOST 1048576: true; the input reads as it did. -/
def packetFieldsUptoRow : OpenClaim := { program := "ytkphaihbdmjogaadoor", sum := "a732c696126998b730ec79d47f6961d9d32f1f3565da7cad0171def89f753892", func := "relayhouse/relayhouselaw03.PacketFields", spec := "packetFields", inPlace := ["internal/bytealg.IndexByteString", "internal/bytealg.IndexString", "internal/bytealg.CountString"], named := ["unicode/utf8.first", "unicode/utf8.acceptRanges", "internal/bytealg.MaxLen"], apart := false, laid := [("unicode/utf8.acceptRanges", laid_unicode_utf8_acceptRanges), ("unicode/utf8.first", laid_unicode_utf8_first)], narrowed := true }
def PacketFieldsUptoSaid : Prop := packetFieldsUptoRow.holds Tryd.pinned (OpenSpec.upto packetFieldsSpec)

/-- 'relayhouselaw03.PacketTopics', WHERE WHAT IT READS IS OF BULK AT MOST 1048576: true; the input reads as it did. -/
def packetTopicsUptoRow : OpenClaim := { program := "ytkphaihbdmjogaadoor", sum := "a732c696126998b730ec79d47f6961d9d32f1f3565da7cad0171def89f753892", func := "relayhouse/relayhouselaw03.PacketTopics", spec := "packetTopics", inPlace := ["internal/bytealg.IndexByteString", "internal/bytealg.IndexString", "internal/bytealg.CountString"], named := ["unicode/utf8.first", "unicode/utf8.acceptRanges", "internal/bytealg.MaxLen"], apart := false, laid := [("unicode/utf8.acceptRanges", laid_unicode_utf8_acceptRanges), ("unicode/utf8.first", laid_unicode_utf8_first)], narrowed := true }
def PacketTopicsUptoSaid : Prop := packetTopicsUptoRow.holds Tryd.pinned (OpenSpec.upto packetTopicsSpec)

/-- 'relayhouselaw03.PacketRests', WHERE WHAT IT READS IS OF BULK AT MOST 1048576: true; the input reads as it did. -/
def packetRestsUptoRow : OpenClaim := { program := "ytkphaihbdmjogaadoor", sum := "a732c696126998b730ec79d47f6961d9d32f1f3565da7cad0171def89f753892", func := "relayhouse/relayhouselaw03.PacketRests", spec := "packetRests", inPlace := ["internal/bytealg.IndexByteString", "internal/bytealg.IndexString", "internal/bytealg.CountString"], named := ["unicode/utf8.first", "unicode/utf8.acceptRanges", "internal/bytealg.MaxLen"], apart := false, laid := [("unicode/utf8.acceptRanges", laid_unicode_utf8_acceptRanges), ("unicode/utf8.first", laid_unicode_utf8_first)], narrowed := true }
def PacketRestsUptoSaid : Prop := packetRestsUptoRow.holds Tryd.pinned (OpenSpec.upto packetRestsSpec)

/-- 'relayhouselaw04.WriteKnown', WHERE WHAT IT READS IS OF BULK AT MOST 1048576: true; the input reads as it did. -/
def writeKnownUptoRow : OpenClaim := { program := "ytkphaihbdmjogaadoor", sum := "a732c696126998b730ec79d47f6961d9d32f1f3565da7cad0171def89f753892", func := "relayhouse/relayhouselaw04.WriteKnown", spec := "writeKnown", inPlace := ["internal/bytealg.IndexByteString", "internal/bytealg.IndexString", "internal/bytealg.CountString"], named := ["unicode/utf8.first", "unicode/utf8.acceptRanges", "internal/bytealg.MaxLen"], apart := false, laid := [("unicode/utf8.acceptRanges", laid_unicode_utf8_acceptRanges), ("unicode/utf8.first", laid_unicode_utf8_first)], narrowed := true }
def WriteKnownUptoSaid : Prop := writeKnownUptoRow.holds Tryd.pinned (OpenSpec.upto writeKnownSpec)

/-- 'relayhouselaw04.WriteEncodes', WHERE WHAT IT READS IS OF BULK AT MOST 1048576: true; the input reads as it did. -/
def writeEncodesUptoRow : OpenClaim := { program := "ytkphaihbdmjogaadoor", sum := "a732c696126998b730ec79d47f6961d9d32f1f3565da7cad0171def89f753892", func := "relayhouse/relayhouselaw04.WriteEncodes", spec := "writeEncodes", inPlace := ["internal/bytealg.IndexByteString", "internal/bytealg.IndexString", "internal/bytealg.CountString"], named := ["unicode/utf8.first", "unicode/utf8.acceptRanges", "internal/bytealg.MaxLen"], apart := false, laid := [("unicode/utf8.acceptRanges", laid_unicode_utf8_acceptRanges), ("unicode/utf8.first", laid_unicode_utf8_first)], narrowed := true }
def WriteEncodesUptoSaid : Prop := writeEncodesUptoRow.holds Tryd.pinned (OpenSpec.upto writeEncodesSpec)

/-- 'relayhouselaw04.WriteAll', WHERE WHAT IT READS IS OF BULK AT MOST 1048576: true; the input reads as it did. -/
def writeAllUptoRow : OpenClaim := { program := "ytkphaihbdmjogaadoor", sum := "a732c696126998b730ec79d47f6961d9d32f1f3565da7cad0171def89f753892", func := "relayhouse/relayhouselaw04.WriteAll", spec := "writeAll", inPlace := ["internal/bytealg.IndexByteString", "internal/bytealg.IndexString", "internal/bytealg.CountString"], named := ["unicode/utf8.first", "unicode/utf8.acceptRanges", "internal/bytealg.MaxLen"], apart := false, laid := [("unicode/utf8.acceptRanges", laid_unicode_utf8_acceptRanges), ("unicode/utf8.first", laid_unicode_utf8_first)], narrowed := true }
def WriteAllUptoSaid : Prop := writeAllUptoRow.holds Tryd.pinned (OpenSpec.upto writeAllSpec)

/-- 'relayhouselaw04.WriteRow', WHERE WHAT IT READS IS OF BULK AT MOST 1048576: true; the input reads as it did. -/
def writeRowUptoRow : OpenClaim := { program := "ytkphaihbdmjogaadoor", sum := "a732c696126998b730ec79d47f6961d9d32f1f3565da7cad0171def89f753892", func := "relayhouse/relayhouselaw04.WriteRow", spec := "writeRow", inPlace := ["internal/bytealg.IndexByteString", "internal/bytealg.IndexString", "internal/bytealg.CountString"], named := ["unicode/utf8.first", "unicode/utf8.acceptRanges", "internal/bytealg.MaxLen"], apart := false, laid := [("unicode/utf8.acceptRanges", laid_unicode_utf8_acceptRanges), ("unicode/utf8.first", laid_unicode_utf8_first)], narrowed := true }
def WriteRowUptoSaid : Prop := writeRowUptoRow.holds Tryd.pinned (OpenSpec.upto writeRowSpec)

/-- 'relayhouselaw04.WriteApart', WHERE WHAT IT READS IS OF BULK AT MOST 1048576: true; the input reads as it did. -/
def writeApartUptoRow : OpenClaim := { program := "ytkphaihbdmjogaadoor", sum := "a732c696126998b730ec79d47f6961d9d32f1f3565da7cad0171def89f753892", func := "relayhouse/relayhouselaw04.WriteApart", spec := "writeApart", inPlace := ["internal/bytealg.IndexByteString", "internal/bytealg.IndexString", "internal/bytealg.CountString"], named := ["unicode/utf8.first", "unicode/utf8.acceptRanges", "internal/bytealg.MaxLen"], apart := false, laid := [("unicode/utf8.acceptRanges", laid_unicode_utf8_acceptRanges), ("unicode/utf8.first", laid_unicode_utf8_first)], narrowed := true }
def WriteApartUptoSaid : Prop := writeApartUptoRow.holds Tryd.pinned (OpenSpec.upto writeApartSpec)

/-- 'relayhouselaw04.WriteSizes', WHERE WHAT IT READS IS OF BULK AT MOST 1048576: true; the input reads as it did. -/
def writeSizesUptoRow : OpenClaim := { program := "ytkphaihbdmjogaadoor", sum := "a732c696126998b730ec79d47f6961d9d32f1f3565da7cad0171def89f753892", func := "relayhouse/relayhouselaw04.WriteSizes", spec := "writeSizes", inPlace := ["internal/bytealg.IndexByteString", "internal/bytealg.IndexString", "internal/bytealg.CountString"], named := ["unicode/utf8.first", "unicode/utf8.acceptRanges", "internal/bytealg.MaxLen"], apart := false, laid := [("unicode/utf8.acceptRanges", laid_unicode_utf8_acceptRanges), ("unicode/utf8.first", laid_unicode_utf8_first)], narrowed := true }
def WriteSizesUptoSaid : Prop := writeSizesUptoRow.holds Tryd.pinned (OpenSpec.upto writeSizesSpec)

end Rows
end Go.Proofs.YtkphaihbdmjogaaDoor
