/-
  NARROWER THAN 'FOR EVERY INPUT', by the rows' own cells (each row's printed sentence says how): TopicMatches: laid · TopicOrder: laid · TopicForms: laid · ShardHash: laid · ShardParts: laid · ShardSpots: laid · ShardKnown: laid · ShardOne: laid · ShardTakes: laid · TopicJoins: laid · TopicLevels: laid · TopicKnown: laid.
  DERIVED. THE GIVEN ROWS OF THIS SEAT. 12 by the template 'for every input the law returns true; each argument reads behind the call as it read before'; 0 by the template 'total and deterministic' (their statements: YtnnggcaifbinbaaDoorTotals.lean).
  GIVEN WITH THE SEED: the statements are not yours to turn. If you find one false, say at which input.
  Laid BY PROGRAM, IN A SANDBOX (cutbox-rows.mjs): the forced cells as the released guide's own fill.sh prints them over the translation 9b79aad58160a72d… (all of the seat's roots in one cut). By AI agents, Wed Nov 11 2026. No macro, syntax, notation, axiom, sorry.
-/
import Derived.Test.YtnnggcaifbinbaaDoorChecked
import GoSem.PinnedTables
import GoSem.Claim
import GoSem.ClaimJoined
import GoSem.ClaimMapViews
import Derived.JoinedTies
import Derived.KernelRfl
namespace Go.Proofs.YtnnggcaifbinbaaDoor
/- THE CELL 'sum', in the pinned program and in every row, IS THE sha256 OF THE DUMP (.gsa) THAT YtnnggcaifbinbaaDoorProg.lean LOADS. Nothing in Lean hashes anything: it is a label: what it is worth is what the hold of that sum in a sandbox is worth. -/
noncomputable def Tryd.pinned : Pinned := { name := "ytnnggcaifbinbaadoor", sum := "9b79aad58160a72de3134949069ef1b60d224720731b3bcf394501690c7d07de", checked := Tryd.checked }
namespace Rows
def none {H : Type} : Left H := { results := [], args := [] }

/- WHAT THE LISTED PACKAGE-LEVEL VARIABLES READ AS WHEN THE CALL BEGINS. Each datum BY PROGRAM (the guide's laid-datum.mjs) off the statement by which the dump's own 'gosem.cut.vars' lays the variable. In a bare row this is a premise. The card (YtnnggcaifbinbaaDoorCards.lean) ties it to the program's text. -/
def laid_unicode_utf8_acceptRanges {H : Type} : DataW H := .agg [.agg [.lit (.int .u8 128), .lit (.int .u8 191)], .agg [.lit (.int .u8 160), .lit (.int .u8 191)], .agg [.lit (.int .u8 128), .lit (.int .u8 159)], .agg [.lit (.int .u8 144), .lit (.int .u8 191)], .agg [.lit (.int .u8 128), .lit (.int .u8 143)], .agg [.lit (.int .u8 0), .lit (.int .u8 0)], .agg [.lit (.int .u8 0), .lit (.int .u8 0)], .agg [.lit (.int .u8 0), .lit (.int .u8 0)], .agg [.lit (.int .u8 0), .lit (.int .u8 0)], .agg [.lit (.int .u8 0), .lit (.int .u8 0)], .agg [.lit (.int .u8 0), .lit (.int .u8 0)], .agg [.lit (.int .u8 0), .lit (.int .u8 0)], .agg [.lit (.int .u8 0), .lit (.int .u8 0)], .agg [.lit (.int .u8 0), .lit (.int .u8 0)], .agg [.lit (.int .u8 0), .lit (.int .u8 0)], .agg [.lit (.int .u8 0), .lit (.int .u8 0)]]
/-- One of Go's own tables, pinned by name: the form's constant. -/
def laid_unicode_utf8_first : DataW Unit := Go.Pinned.utf8First

/-- 'relayhouselaw07.TopicMatches': WHATEVER THE INPUT: true; the input reads as it did. -/
def topicMatchesSpec : ChangeSpec := { name := "topicMatches", fn := fun _ => fun
  | [d1, d2] => { results := [.lit (.bool true)], args := [d1, d2] }
  | _ => none }
def topicMatchesRow : OpenClaim := { program := "ytnnggcaifbinbaadoor", sum := "9b79aad58160a72de3134949069ef1b60d224720731b3bcf394501690c7d07de", func := "relayhouse/relayhouselaw07.TopicMatches", spec := "topicMatches", inPlace := ["internal/bytealg.IndexByteString", "internal/bytealg.IndexString", "internal/bytealg.CountString"], unfollowed := true, recurses := true, named := ["unicode/utf8.first", "unicode/utf8.acceptRanges", "internal/bytealg.MaxLen"], apart := false, laid := [("unicode/utf8.acceptRanges", laid_unicode_utf8_acceptRanges), ("unicode/utf8.first", laid_unicode_utf8_first)] }
def TopicMatchesSaid : Prop := topicMatchesRow.holds Tryd.pinned (OpenSpec.ofChange topicMatchesSpec)

/-- ITS FALSE NEIGHBOUR: 'it returns false'. Refute it at one input. -/
def topicMatchesWrong : ChangeSpec := { name := "topicMatches", fn := fun _ => fun
  | [d1, d2] => { results := [.lit (.bool false)], args := [d1, d2] }
  | _ => none }
def TopicMatchesWrongFalsely : Prop := topicMatchesRow.holds Tryd.pinned (OpenSpec.ofChange topicMatchesWrong)

/-- 'relayhouselaw07.TopicOrder': WHATEVER THE INPUT: true; the input reads as it did. -/
def topicOrderSpec : ChangeSpec := { name := "topicOrder", fn := fun _ => fun
  | [d1, d2, d3] => { results := [.lit (.bool true)], args := [d1, d2, d3] }
  | _ => none }
def topicOrderRow : OpenClaim := { program := "ytnnggcaifbinbaadoor", sum := "9b79aad58160a72de3134949069ef1b60d224720731b3bcf394501690c7d07de", func := "relayhouse/relayhouselaw07.TopicOrder", spec := "topicOrder", inPlace := ["internal/bytealg.IndexByteString", "internal/bytealg.IndexString", "internal/bytealg.CountString"], unfollowed := true, recurses := true, named := ["unicode/utf8.first", "unicode/utf8.acceptRanges", "internal/bytealg.MaxLen"], apart := false, laid := [("unicode/utf8.acceptRanges", laid_unicode_utf8_acceptRanges), ("unicode/utf8.first", laid_unicode_utf8_first)] }
def TopicOrderSaid : Prop := topicOrderRow.holds Tryd.pinned (OpenSpec.ofChange topicOrderSpec)

/-- ITS FALSE NEIGHBOUR: 'it returns false'. Refute it at one input. -/
def topicOrderWrong : ChangeSpec := { name := "topicOrder", fn := fun _ => fun
  | [d1, d2, d3] => { results := [.lit (.bool false)], args := [d1, d2, d3] }
  | _ => none }
def TopicOrderWrongFalsely : Prop := topicOrderRow.holds Tryd.pinned (OpenSpec.ofChange topicOrderWrong)

/-- 'relayhouselaw07.TopicForms': WHATEVER THE INPUT: true; the input reads as it did. -/
def topicFormsSpec : ChangeSpec := { name := "topicForms", fn := fun _ => fun
  | [d] => { results := [.lit (.bool true)], args := [d] }
  | _ => none }
def topicFormsRow : OpenClaim := { program := "ytnnggcaifbinbaadoor", sum := "9b79aad58160a72de3134949069ef1b60d224720731b3bcf394501690c7d07de", func := "relayhouse/relayhouselaw07.TopicForms", spec := "topicForms", inPlace := ["internal/bytealg.IndexByteString", "internal/bytealg.IndexString", "internal/bytealg.CountString"], unfollowed := true, recurses := true, named := ["unicode/utf8.first", "unicode/utf8.acceptRanges", "internal/bytealg.MaxLen"], apart := false, laid := [("unicode/utf8.acceptRanges", laid_unicode_utf8_acceptRanges), ("unicode/utf8.first", laid_unicode_utf8_first)] }
def TopicFormsSaid : Prop := topicFormsRow.holds Tryd.pinned (OpenSpec.ofChange topicFormsSpec)

/-- ITS FALSE NEIGHBOUR: 'it returns false'. Refute it at one input. -/
def topicFormsWrong : ChangeSpec := { name := "topicForms", fn := fun _ => fun
  | [d] => { results := [.lit (.bool false)], args := [d] }
  | _ => none }
def TopicFormsWrongFalsely : Prop := topicFormsRow.holds Tryd.pinned (OpenSpec.ofChange topicFormsWrong)

/-- 'relayhouselaw08.ShardHash': WHATEVER THE INPUT: true; the input reads as it did. -/
def shardHashSpec : ChangeSpec := { name := "shardHash", fn := fun _ => fun
  | [d] => { results := [.lit (.bool true)], args := [d] }
  | _ => none }
def shardHashRow : OpenClaim := { program := "ytnnggcaifbinbaadoor", sum := "9b79aad58160a72de3134949069ef1b60d224720731b3bcf394501690c7d07de", func := "relayhouse/relayhouselaw08.ShardHash", spec := "shardHash", inPlace := ["internal/bytealg.IndexByteString", "internal/bytealg.IndexString", "internal/bytealg.CountString"], named := ["unicode/utf8.first", "unicode/utf8.acceptRanges", "internal/bytealg.MaxLen"], apart := false, laid := [("unicode/utf8.acceptRanges", laid_unicode_utf8_acceptRanges), ("unicode/utf8.first", laid_unicode_utf8_first)] }
def ShardHashSaid : Prop := shardHashRow.holds Tryd.pinned (OpenSpec.ofChange shardHashSpec)

/-- ITS FALSE NEIGHBOUR: 'it returns false'. Refute it at one input. -/
def shardHashWrong : ChangeSpec := { name := "shardHash", fn := fun _ => fun
  | [d] => { results := [.lit (.bool false)], args := [d] }
  | _ => none }
def ShardHashWrongFalsely : Prop := shardHashRow.holds Tryd.pinned (OpenSpec.ofChange shardHashWrong)

/-- 'relayhouselaw08.ShardParts': WHATEVER THE INPUT: true; the input reads as it did. -/
def shardPartsSpec : ChangeSpec := { name := "shardParts", fn := fun _ => fun
  | [d1, d2, d3] => { results := [.lit (.bool true)], args := [d1, d2, d3] }
  | _ => none }
def shardPartsRow : OpenClaim := { program := "ytnnggcaifbinbaadoor", sum := "9b79aad58160a72de3134949069ef1b60d224720731b3bcf394501690c7d07de", func := "relayhouse/relayhouselaw08.ShardParts", spec := "shardParts", inPlace := ["internal/bytealg.IndexByteString", "internal/bytealg.IndexString", "internal/bytealg.CountString"], named := ["unicode/utf8.first", "unicode/utf8.acceptRanges", "internal/bytealg.MaxLen"], apart := false, laid := [("unicode/utf8.acceptRanges", laid_unicode_utf8_acceptRanges), ("unicode/utf8.first", laid_unicode_utf8_first)] }
def ShardPartsSaid : Prop := shardPartsRow.holds Tryd.pinned (OpenSpec.ofChange shardPartsSpec)

/-- ITS FALSE NEIGHBOUR: 'it returns false'. Refute it at one input. -/
def shardPartsWrong : ChangeSpec := { name := "shardParts", fn := fun _ => fun
  | [d1, d2, d3] => { results := [.lit (.bool false)], args := [d1, d2, d3] }
  | _ => none }
def ShardPartsWrongFalsely : Prop := shardPartsRow.holds Tryd.pinned (OpenSpec.ofChange shardPartsWrong)

/-- 'relayhouselaw08.ShardSpots': WHATEVER THE INPUT: true; the input reads as it did. -/
def shardSpotsSpec : ChangeSpec := { name := "shardSpots", fn := fun _ => fun
  | [d1, d2, d3] => { results := [.lit (.bool true)], args := [d1, d2, d3] }
  | _ => none }
def shardSpotsRow : OpenClaim := { program := "ytnnggcaifbinbaadoor", sum := "9b79aad58160a72de3134949069ef1b60d224720731b3bcf394501690c7d07de", func := "relayhouse/relayhouselaw08.ShardSpots", spec := "shardSpots", inPlace := ["internal/bytealg.IndexByteString", "internal/bytealg.IndexString", "internal/bytealg.CountString"], named := ["unicode/utf8.first", "unicode/utf8.acceptRanges", "internal/bytealg.MaxLen"], apart := false, laid := [("unicode/utf8.acceptRanges", laid_unicode_utf8_acceptRanges), ("unicode/utf8.first", laid_unicode_utf8_first)] }
def ShardSpotsSaid : Prop := shardSpotsRow.holds Tryd.pinned (OpenSpec.ofChange shardSpotsSpec)

/-- ITS FALSE NEIGHBOUR: 'it returns false'. Refute it at one input. -/
def shardSpotsWrong : ChangeSpec := { name := "shardSpots", fn := fun _ => fun
  | [d1, d2, d3] => { results := [.lit (.bool false)], args := [d1, d2, d3] }
  | _ => none }
def ShardSpotsWrongFalsely : Prop := shardSpotsRow.holds Tryd.pinned (OpenSpec.ofChange shardSpotsWrong)

/-- 'relayhouselaw08.ShardKnown': WHATEVER THE INPUT: true; the input reads as it did. -/
def shardKnownSpec : ChangeSpec := { name := "shardKnown", fn := fun _ => fun
  | [] => { results := [.lit (.bool true)], args := [] }
  | _ => none }
def shardKnownRow : OpenClaim := { program := "ytnnggcaifbinbaadoor", sum := "9b79aad58160a72de3134949069ef1b60d224720731b3bcf394501690c7d07de", func := "relayhouse/relayhouselaw08.ShardKnown", spec := "shardKnown", inPlace := ["internal/bytealg.IndexByteString", "internal/bytealg.IndexString", "internal/bytealg.CountString"], named := ["unicode/utf8.first", "unicode/utf8.acceptRanges", "internal/bytealg.MaxLen"], apart := false, laid := [("unicode/utf8.acceptRanges", laid_unicode_utf8_acceptRanges), ("unicode/utf8.first", laid_unicode_utf8_first)] }
def ShardKnownSaid : Prop := shardKnownRow.holds Tryd.pinned (OpenSpec.ofChange shardKnownSpec)

/-- ITS FALSE NEIGHBOUR: 'it returns false'. Refute it at one input. -/
def shardKnownWrong : ChangeSpec := { name := "shardKnown", fn := fun _ => fun
  | [] => { results := [.lit (.bool false)], args := [] }
  | _ => none }
def ShardKnownWrongFalsely : Prop := shardKnownRow.holds Tryd.pinned (OpenSpec.ofChange shardKnownWrong)

/-- 'relayhouselaw08.ShardOne': WHATEVER THE INPUT: true; the input reads as it did. -/
def shardOneSpec : ChangeSpec := { name := "shardOne", fn := fun _ => fun
  | [d1, d2, d3] => { results := [.lit (.bool true)], args := [d1, d2, d3] }
  | _ => none }
def shardOneRow : OpenClaim := { program := "ytnnggcaifbinbaadoor", sum := "9b79aad58160a72de3134949069ef1b60d224720731b3bcf394501690c7d07de", func := "relayhouse/relayhouselaw08.ShardOne", spec := "shardOne", inPlace := ["internal/bytealg.IndexByteString", "internal/bytealg.IndexString", "internal/bytealg.CountString"], named := ["unicode/utf8.first", "unicode/utf8.acceptRanges", "internal/bytealg.MaxLen"], apart := false, laid := [("unicode/utf8.acceptRanges", laid_unicode_utf8_acceptRanges), ("unicode/utf8.first", laid_unicode_utf8_first)] }
def ShardOneSaid : Prop := shardOneRow.holds Tryd.pinned (OpenSpec.ofChange shardOneSpec)

/-- ITS FALSE NEIGHBOUR: 'it returns false'. Refute it at one input. -/
def shardOneWrong : ChangeSpec := { name := "shardOne", fn := fun _ => fun
  | [d1, d2, d3] => { results := [.lit (.bool false)], args := [d1, d2, d3] }
  | _ => none }
def ShardOneWrongFalsely : Prop := shardOneRow.holds Tryd.pinned (OpenSpec.ofChange shardOneWrong)

/-- 'relayhouselaw08.ShardTakes': WHATEVER THE INPUT: true; the input reads as it did. -/
def shardTakesSpec : ChangeSpec := { name := "shardTakes", fn := fun _ => fun
  | [d1, d2, d3] => { results := [.lit (.bool true)], args := [d1, d2, d3] }
  | _ => none }
def shardTakesRow : OpenClaim := { program := "ytnnggcaifbinbaadoor", sum := "9b79aad58160a72de3134949069ef1b60d224720731b3bcf394501690c7d07de", func := "relayhouse/relayhouselaw08.ShardTakes", spec := "shardTakes", inPlace := ["internal/bytealg.IndexByteString", "internal/bytealg.IndexString", "internal/bytealg.CountString"], unfollowed := true, recurses := true, named := ["unicode/utf8.first", "unicode/utf8.acceptRanges", "internal/bytealg.MaxLen"], apart := false, laid := [("unicode/utf8.acceptRanges", laid_unicode_utf8_acceptRanges), ("unicode/utf8.first", laid_unicode_utf8_first)] }
def ShardTakesSaid : Prop := shardTakesRow.holds Tryd.pinned (OpenSpec.ofChange shardTakesSpec)

/-- ITS FALSE NEIGHBOUR: 'it returns false'. Refute it at one input. -/
def shardTakesWrong : ChangeSpec := { name := "shardTakes", fn := fun _ => fun
  | [d1, d2, d3] => { results := [.lit (.bool false)], args := [d1, d2, d3] }
  | _ => none }
def ShardTakesWrongFalsely : Prop := shardTakesRow.holds Tryd.pinned (OpenSpec.ofChange shardTakesWrong)

/-- 'relayhouselaw07.TopicJoins': WHATEVER THE INPUT: true; the input reads as it did. -/
def topicJoinsSpec : ChangeSpec := { name := "topicJoins", fn := fun _ => fun
  | [d] => { results := [.lit (.bool true)], args := [d] }
  | _ => none }
def topicJoinsRow : OpenClaim := { program := "ytnnggcaifbinbaadoor", sum := "9b79aad58160a72de3134949069ef1b60d224720731b3bcf394501690c7d07de", func := "relayhouse/relayhouselaw07.TopicJoins", spec := "topicJoins", inPlace := ["internal/bytealg.IndexByteString", "internal/bytealg.IndexString", "internal/bytealg.CountString", "internal/abi.NoEscape", "internal/bytealg.MakeNoZero"], unfollowed := true, recurses := true, named := ["unicode/utf8.first", "unicode/utf8.acceptRanges", "internal/bytealg.MaxLen"], apart := false, laid := [("unicode/utf8.acceptRanges", laid_unicode_utf8_acceptRanges), ("unicode/utf8.first", laid_unicode_utf8_first)] }
def TopicJoinsSaid : Prop := topicJoinsRow.holds Tryd.pinned (OpenSpec.ofChange topicJoinsSpec)

/-- ITS FALSE NEIGHBOUR: 'it returns false'. Refute it at one input. -/
def topicJoinsWrong : ChangeSpec := { name := "topicJoins", fn := fun _ => fun
  | [d] => { results := [.lit (.bool false)], args := [d] }
  | _ => none }
def TopicJoinsWrongFalsely : Prop := topicJoinsRow.holds Tryd.pinned (OpenSpec.ofChange topicJoinsWrong)

/-- 'relayhouselaw07.TopicLevels': WHATEVER THE INPUT: true; the input reads as it did. -/
def topicLevelsSpec : ChangeSpec := { name := "topicLevels", fn := fun _ => fun
  | [d1, d2, d3] => { results := [.lit (.bool true)], args := [d1, d2, d3] }
  | _ => none }
def topicLevelsRow : OpenClaim := { program := "ytnnggcaifbinbaadoor", sum := "9b79aad58160a72de3134949069ef1b60d224720731b3bcf394501690c7d07de", func := "relayhouse/relayhouselaw07.TopicLevels", spec := "topicLevels", inPlace := ["internal/bytealg.IndexByteString", "internal/bytealg.IndexString", "internal/bytealg.CountString", "internal/abi.NoEscape", "internal/bytealg.MakeNoZero"], unfollowed := true, recurses := true, named := ["unicode/utf8.first", "unicode/utf8.acceptRanges", "internal/bytealg.MaxLen"], apart := false, laid := [("unicode/utf8.acceptRanges", laid_unicode_utf8_acceptRanges), ("unicode/utf8.first", laid_unicode_utf8_first)] }
def TopicLevelsSaid : Prop := topicLevelsRow.holds Tryd.pinned (OpenSpec.ofChange topicLevelsSpec)

/-- ITS FALSE NEIGHBOUR: 'it returns false'. Refute it at one input. -/
def topicLevelsWrong : ChangeSpec := { name := "topicLevels", fn := fun _ => fun
  | [d1, d2, d3] => { results := [.lit (.bool false)], args := [d1, d2, d3] }
  | _ => none }
def TopicLevelsWrongFalsely : Prop := topicLevelsRow.holds Tryd.pinned (OpenSpec.ofChange topicLevelsWrong)

/-- 'relayhouselaw07.TopicKnown': WHATEVER THE INPUT: true; the input reads as it did. -/
def topicKnownSpec : ChangeSpec := { name := "topicKnown", fn := fun _ => fun
  | [] => { results := [.lit (.bool true)], args := [] }
  | _ => none }
def topicKnownRow : OpenClaim := { program := "ytnnggcaifbinbaadoor", sum := "9b79aad58160a72de3134949069ef1b60d224720731b3bcf394501690c7d07de", func := "relayhouse/relayhouselaw07.TopicKnown", spec := "topicKnown", inPlace := ["internal/bytealg.CountString", "internal/bytealg.IndexByteString", "internal/bytealg.IndexString", "internal/abi.NoEscape", "internal/bytealg.MakeNoZero"], unfollowed := true, recurses := true, named := ["unicode/utf8.first", "unicode/utf8.acceptRanges", "internal/bytealg.MaxLen"], apart := false, laid := [("unicode/utf8.acceptRanges", laid_unicode_utf8_acceptRanges), ("unicode/utf8.first", laid_unicode_utf8_first)] }
def TopicKnownSaid : Prop := topicKnownRow.holds Tryd.pinned (OpenSpec.ofChange topicKnownSpec)

/-- ITS FALSE NEIGHBOUR: 'it returns false'. Refute it at one input. -/
def topicKnownWrong : ChangeSpec := { name := "topicKnown", fn := fun _ => fun
  | [] => { results := [.lit (.bool false)], args := [] }
  | _ => none }
def TopicKnownWrongFalsely : Prop := topicKnownRow.holds Tryd.pinned (OpenSpec.ofChange topicKnownWrong)

/- THE SECOND FORM. 'bulk': how many values and letters a reading holds, each counted each time it is reached (what is shared counts as often as it is met; a slice's spare places count too). A statement '..UptoSaid' is the law's where the arguments, and the package variables that the reading takes, are together of bulk at most 1048576: NARROWER than '..Said'. Prove '..Said' where nothing that the law and all that it calls make is longer than what came in: it says more and counts as full. Else prove '..UptoSaid'. A law counts once. -/
mutual
def uptoBulk {H : Type} : DataW H → Nat
  | .lit (.string bytes) => bytes.length + 1
  | .lit _ => 1
  | .nil => 1
  | .ptr d => uptoBulk d + 1
  | .slice elems spare => uptoBulkAll elems + uptoBulkAll spare + 1
  | .agg parts => uptoBulkAll parts + 1
  | .iface _ d => uptoBulk d + 1
  | .map entries => uptoBulkEntries entries + 1
  | .held _ => 1
def uptoBulkAll {H : Type} : List (DataW H) → Nat
  | [] => 0
  | d :: r => uptoBulk d + uptoBulkAll r
def uptoBulkEntries {H : Type} : List (Lit × DataW H) → Nat
  | [] => 0
  | x :: r => uptoBulkEntry x + uptoBulkEntries r
def uptoBulkEntry {H : Type} : Lit × DataW H → Nat
  | (.string bytes, d) => bytes.length + uptoBulk d + 1
  | (_, d) => uptoBulk d + 1
 end
def uptoSmall : (H : Type) → List (DataW H) → Bool := fun _ ds => decide (uptoBulkAll ds ≤ 1048576)
def OpenSpec.upto (s : _root_.Go.ChangeSpec) : _root_.Go.OpenSpec := { _root_.Go.OpenSpec.ofChange s with cond := some uptoSmall }

/-- 'relayhouselaw07.TopicMatches', WHERE WHAT IT READS IS OF BULK AT MOST 1048576: true; the input reads as it did. -/
def topicMatchesUptoRow : OpenClaim := { program := "ytnnggcaifbinbaadoor", sum := "9b79aad58160a72de3134949069ef1b60d224720731b3bcf394501690c7d07de", func := "relayhouse/relayhouselaw07.TopicMatches", spec := "topicMatches", inPlace := ["internal/bytealg.IndexByteString", "internal/bytealg.IndexString", "internal/bytealg.CountString"], unfollowed := true, recurses := true, named := ["unicode/utf8.first", "unicode/utf8.acceptRanges", "internal/bytealg.MaxLen"], apart := false, laid := [("unicode/utf8.acceptRanges", laid_unicode_utf8_acceptRanges), ("unicode/utf8.first", laid_unicode_utf8_first)], narrowed := true }
def TopicMatchesUptoSaid : Prop := topicMatchesUptoRow.holds Tryd.pinned (OpenSpec.upto topicMatchesSpec)

/-- 'relayhouselaw07.TopicOrder', WHERE WHAT IT READS IS OF BULK AT MOST 1048576: true; the input reads as it did. -/
def topicOrderUptoRow : OpenClaim := { program := "ytnnggcaifbinbaadoor", sum := "9b79aad58160a72de3134949069ef1b60d224720731b3bcf394501690c7d07de", func := "relayhouse/relayhouselaw07.TopicOrder", spec := "topicOrder", inPlace := ["internal/bytealg.IndexByteString", "internal/bytealg.IndexString", "internal/bytealg.CountString"], unfollowed := true, recurses := true, named := ["unicode/utf8.first", "unicode/utf8.acceptRanges", "internal/bytealg.MaxLen"], apart := false, laid := [("unicode/utf8.acceptRanges", laid_unicode_utf8_acceptRanges), ("unicode/utf8.first", laid_unicode_utf8_first)], narrowed := true }
def TopicOrderUptoSaid : Prop := topicOrderUptoRow.holds Tryd.pinned (OpenSpec.upto topicOrderSpec)

/-- 'relayhouselaw07.TopicForms', WHERE WHAT IT READS IS OF BULK AT MOST 1048576: true; the input reads as it did. -/
def topicFormsUptoRow : OpenClaim := { program := "ytnnggcaifbinbaadoor", sum := "9b79aad58160a72de3134949069ef1b60d224720731b3bcf394501690c7d07de", func := "relayhouse/relayhouselaw07.TopicForms", spec := "topicForms", inPlace := ["internal/bytealg.IndexByteString", "internal/bytealg.IndexString", "internal/bytealg.CountString"], unfollowed := true, recurses := true, named := ["unicode/utf8.first", "unicode/utf8.acceptRanges", "internal/bytealg.MaxLen"], apart := false, laid := [("unicode/utf8.acceptRanges", laid_unicode_utf8_acceptRanges), ("unicode/utf8.first", laid_unicode_utf8_first)], narrowed := true }
def TopicFormsUptoSaid : Prop := topicFormsUptoRow.holds Tryd.pinned (OpenSpec.upto topicFormsSpec)

/-- 'relayhouselaw08.ShardHash', WHERE WHAT IT READS IS OF BULK AT MOST 1048576: true; the input reads as it did. -/
def shardHashUptoRow : OpenClaim := { program := "ytnnggcaifbinbaadoor", sum := "9b79aad58160a72de3134949069ef1b60d224720731b3bcf394501690c7d07de", func := "relayhouse/relayhouselaw08.ShardHash", spec := "shardHash", inPlace := ["internal/bytealg.IndexByteString", "internal/bytealg.IndexString", "internal/bytealg.CountString"], named := ["unicode/utf8.first", "unicode/utf8.acceptRanges", "internal/bytealg.MaxLen"], apart := false, laid := [("unicode/utf8.acceptRanges", laid_unicode_utf8_acceptRanges), ("unicode/utf8.first", laid_unicode_utf8_first)], narrowed := true }
def ShardHashUptoSaid : Prop := shardHashUptoRow.holds Tryd.pinned (OpenSpec.upto shardHashSpec)

/-- 'relayhouselaw08.ShardParts', WHERE WHAT IT READS IS OF BULK AT MOST 1048576: true; the input reads as it did. -/
def shardPartsUptoRow : OpenClaim := { program := "ytnnggcaifbinbaadoor", sum := "9b79aad58160a72de3134949069ef1b60d224720731b3bcf394501690c7d07de", func := "relayhouse/relayhouselaw08.ShardParts", spec := "shardParts", inPlace := ["internal/bytealg.IndexByteString", "internal/bytealg.IndexString", "internal/bytealg.CountString"], named := ["unicode/utf8.first", "unicode/utf8.acceptRanges", "internal/bytealg.MaxLen"], apart := false, laid := [("unicode/utf8.acceptRanges", laid_unicode_utf8_acceptRanges), ("unicode/utf8.first", laid_unicode_utf8_first)], narrowed := true }
def ShardPartsUptoSaid : Prop := shardPartsUptoRow.holds Tryd.pinned (OpenSpec.upto shardPartsSpec)

/-- 'relayhouselaw08.ShardSpots', WHERE WHAT IT READS IS OF BULK AT MOST 1048576: true; the input reads as it did. -/
def shardSpotsUptoRow : OpenClaim := { program := "ytnnggcaifbinbaadoor", sum := "9b79aad58160a72de3134949069ef1b60d224720731b3bcf394501690c7d07de", func := "relayhouse/relayhouselaw08.ShardSpots", spec := "shardSpots", inPlace := ["internal/bytealg.IndexByteString", "internal/bytealg.IndexString", "internal/bytealg.CountString"], named := ["unicode/utf8.first", "unicode/utf8.acceptRanges", "internal/bytealg.MaxLen"], apart := false, laid := [("unicode/utf8.acceptRanges", laid_unicode_utf8_acceptRanges), ("unicode/utf8.first", laid_unicode_utf8_first)], narrowed := true }
def ShardSpotsUptoSaid : Prop := shardSpotsUptoRow.holds Tryd.pinned (OpenSpec.upto shardSpotsSpec)

/-- 'relayhouselaw08.ShardKnown', WHERE WHAT IT READS IS OF BULK AT MOST 1048576: true; the input reads as it did. -/
def shardKnownUptoRow : OpenClaim := { program := "ytnnggcaifbinbaadoor", sum := "9b79aad58160a72de3134949069ef1b60d224720731b3bcf394501690c7d07de", func := "relayhouse/relayhouselaw08.ShardKnown", spec := "shardKnown", inPlace := ["internal/bytealg.IndexByteString", "internal/bytealg.IndexString", "internal/bytealg.CountString"], named := ["unicode/utf8.first", "unicode/utf8.acceptRanges", "internal/bytealg.MaxLen"], apart := false, laid := [("unicode/utf8.acceptRanges", laid_unicode_utf8_acceptRanges), ("unicode/utf8.first", laid_unicode_utf8_first)], narrowed := true }
def ShardKnownUptoSaid : Prop := shardKnownUptoRow.holds Tryd.pinned (OpenSpec.upto shardKnownSpec)

/-- 'relayhouselaw08.ShardOne', WHERE WHAT IT READS IS OF BULK AT MOST 1048576: true; the input reads as it did. -/
def shardOneUptoRow : OpenClaim := { program := "ytnnggcaifbinbaadoor", sum := "9b79aad58160a72de3134949069ef1b60d224720731b3bcf394501690c7d07de", func := "relayhouse/relayhouselaw08.ShardOne", spec := "shardOne", inPlace := ["internal/bytealg.IndexByteString", "internal/bytealg.IndexString", "internal/bytealg.CountString"], named := ["unicode/utf8.first", "unicode/utf8.acceptRanges", "internal/bytealg.MaxLen"], apart := false, laid := [("unicode/utf8.acceptRanges", laid_unicode_utf8_acceptRanges), ("unicode/utf8.first", laid_unicode_utf8_first)], narrowed := true }
def ShardOneUptoSaid : Prop := shardOneUptoRow.holds Tryd.pinned (OpenSpec.upto shardOneSpec)

/-- 'relayhouselaw08.ShardTakes', WHERE WHAT IT READS IS OF BULK AT MOST 1048576: true; the input reads as it did. -/
def shardTakesUptoRow : OpenClaim := { program := "ytnnggcaifbinbaadoor", sum := "9b79aad58160a72de3134949069ef1b60d224720731b3bcf394501690c7d07de", func := "relayhouse/relayhouselaw08.ShardTakes", spec := "shardTakes", inPlace := ["internal/bytealg.IndexByteString", "internal/bytealg.IndexString", "internal/bytealg.CountString"], unfollowed := true, recurses := true, named := ["unicode/utf8.first", "unicode/utf8.acceptRanges", "internal/bytealg.MaxLen"], apart := false, laid := [("unicode/utf8.acceptRanges", laid_unicode_utf8_acceptRanges), ("unicode/utf8.first", laid_unicode_utf8_first)], narrowed := true }
def ShardTakesUptoSaid : Prop := shardTakesUptoRow.holds Tryd.pinned (OpenSpec.upto shardTakesSpec)

/-- 'relayhouselaw07.TopicJoins', WHERE WHAT IT READS IS OF BULK AT MOST 1048576: true; the input reads as it did. -/
def topicJoinsUptoRow : OpenClaim := { program := "ytnnggcaifbinbaadoor", sum := "9b79aad58160a72de3134949069ef1b60d224720731b3bcf394501690c7d07de", func := "relayhouse/relayhouselaw07.TopicJoins", spec := "topicJoins", inPlace := ["internal/bytealg.IndexByteString", "internal/bytealg.IndexString", "internal/bytealg.CountString", "internal/abi.NoEscape", "internal/bytealg.MakeNoZero"], unfollowed := true, recurses := true, named := ["unicode/utf8.first", "unicode/utf8.acceptRanges", "internal/bytealg.MaxLen"], apart := false, laid := [("unicode/utf8.acceptRanges", laid_unicode_utf8_acceptRanges), ("unicode/utf8.first", laid_unicode_utf8_first)], narrowed := true }
def TopicJoinsUptoSaid : Prop := topicJoinsUptoRow.holds Tryd.pinned (OpenSpec.upto topicJoinsSpec)

/-- 'relayhouselaw07.TopicLevels', WHERE WHAT IT READS IS OF BULK AT MOST 1048576: true; the input reads as it did. -/
def topicLevelsUptoRow : OpenClaim := { program := "ytnnggcaifbinbaadoor", sum := "9b79aad58160a72de3134949069ef1b60d224720731b3bcf394501690c7d07de", func := "relayhouse/relayhouselaw07.TopicLevels", spec := "topicLevels", inPlace := ["internal/bytealg.IndexByteString", "internal/bytealg.IndexString", "internal/bytealg.CountString", "internal/abi.NoEscape", "internal/bytealg.MakeNoZero"], unfollowed := true, recurses := true, named := ["unicode/utf8.first", "unicode/utf8.acceptRanges", "internal/bytealg.MaxLen"], apart := false, laid := [("unicode/utf8.acceptRanges", laid_unicode_utf8_acceptRanges), ("unicode/utf8.first", laid_unicode_utf8_first)], narrowed := true }
def TopicLevelsUptoSaid : Prop := topicLevelsUptoRow.holds Tryd.pinned (OpenSpec.upto topicLevelsSpec)

/-- 'relayhouselaw07.TopicKnown', WHERE WHAT IT READS IS OF BULK AT MOST 1048576: true; the input reads as it did. -/
def topicKnownUptoRow : OpenClaim := { program := "ytnnggcaifbinbaadoor", sum := "9b79aad58160a72de3134949069ef1b60d224720731b3bcf394501690c7d07de", func := "relayhouse/relayhouselaw07.TopicKnown", spec := "topicKnown", inPlace := ["internal/bytealg.CountString", "internal/bytealg.IndexByteString", "internal/bytealg.IndexString", "internal/abi.NoEscape", "internal/bytealg.MakeNoZero"], unfollowed := true, recurses := true, named := ["unicode/utf8.first", "unicode/utf8.acceptRanges", "internal/bytealg.MaxLen"], apart := false, laid := [("unicode/utf8.acceptRanges", laid_unicode_utf8_acceptRanges), ("unicode/utf8.first", laid_unicode_utf8_first)], narrowed := true }
def TopicKnownUptoSaid : Prop := topicKnownUptoRow.holds Tryd.pinned (OpenSpec.upto topicKnownSpec)

end Rows
end Go.Proofs.YtnnggcaifbinbaaDoor
