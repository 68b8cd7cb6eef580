/-
  DERIVED. GIVEN WITH THE SEED: THE CARDS: each row of YtkphaihbdmjogaaDoorRows.lean that lists a variable, with what it lists TIED to the program's text (the seventh form; the later family's looks); each row that meets fmt, with fmt's text TOLD by the authors' own Lean function (tested against real Go, not proved from fmt's source: count such statements apart). THE CARD IS WHAT COUNTS. Prove the row's statement (the work); the ties are given (YtkphaihbdmjogaaDoorTie.lean); close each card by the builder's one call (the guide's Derived/Test/ToyasCard.lean, 'card_holds'). Laid BY PROGRAM, IN A SANDBOX (cutbox-door.mjs). By AI agents, Wed Nov 11 2026. No macro, syntax, notation, axiom, sorry.
-/
import Derived.Test.YtkphaihbdmjogaaDoorRows
import GoSem.ClaimSeven
namespace Go.Proofs.YtkphaihbdmjogaaDoor
namespace Rows

/-- THE TIED CARD OF 'relayhouselaw03.PacketKnown'. -/
def packetKnownCard : Claim7 := { stood := { row := packetKnownRow, standIns := [], harness := (true, "ef271868ac7b91ee2891826366aef96e1f7f4dd7e5b9dfa9442321737eff278f"), looks := false }, kinds := [], alts := [], laidByText := true, laidKinds := [.data, .pinned], laidTests := true, laidLooks := .later }
def PacketKnownCardSaid : Prop := Claim7.holds Tryd.pinned (.plain (OpenSpec.ofChange packetKnownSpec)) packetKnownCard

/-- THE TIED CARD OF 'relayhouselaw03.PacketRight'. -/
def packetRightCard : Claim7 := { stood := { row := packetRightRow, standIns := [], harness := (true, "ef271868ac7b91ee2891826366aef96e1f7f4dd7e5b9dfa9442321737eff278f"), looks := false }, kinds := [], alts := [], laidByText := true, laidKinds := [.data, .pinned], laidTests := true, laidLooks := .later }
def PacketRightCardSaid : Prop := Claim7.holds Tryd.pinned (.plain (OpenSpec.ofChange packetRightSpec)) packetRightCard

/-- THE TIED CARD OF 'relayhouselaw03.PacketSame'. -/
def packetSameCard : Claim7 := { stood := { row := packetSameRow, standIns := [], harness := (true, "ef271868ac7b91ee2891826366aef96e1f7f4dd7e5b9dfa9442321737eff278f"), looks := false }, kinds := [], alts := [], laidByText := true, laidKinds := [.data, .pinned], laidTests := true, laidLooks := .later }
def PacketSameCardSaid : Prop := Claim7.holds Tryd.pinned (.plain (OpenSpec.ofChange packetSameSpec)) packetSameCard

/-- THE TIED CARD OF 'relayhouselaw03.PacketFields'. -/
def packetFieldsCard : Claim7 := { stood := { row := packetFieldsRow, standIns := [], harness := (true, "ef271868ac7b91ee2891826366aef96e1f7f4dd7e5b9dfa9442321737eff278f"), looks := false }, kinds := [], alts := [], laidByText := true, laidKinds := [.data, .pinned], laidTests := true, laidLooks := .later }
def PacketFieldsCardSaid : Prop := Claim7.holds Tryd.pinned (.plain (OpenSpec.ofChange packetFieldsSpec)) packetFieldsCard

/-- THE TIED CARD OF 'relayhouselaw03.PacketTopics'. -/
def packetTopicsCard : Claim7 := { stood := { row := packetTopicsRow, standIns := [], harness := (true, "ef271868ac7b91ee2891826366aef96e1f7f4dd7e5b9dfa9442321737eff278f"), looks := false }, kinds := [], alts := [], laidByText := true, laidKinds := [.data, .pinned], laidTests := true, laidLooks := .later }
def PacketTopicsCardSaid : Prop := Claim7.holds Tryd.pinned (.plain (OpenSpec.ofChange packetTopicsSpec)) packetTopicsCard

/-- THE TIED CARD OF 'relayhouselaw03.PacketRests'. -/
def packetRestsCard : Claim7 := { stood := { row := packetRestsRow, standIns := [], harness := (true, "ef271868ac7b91ee2891826366aef96e1f7f4dd7e5b9dfa9442321737eff278f"), looks := false }, kinds := [], alts := [], laidByText := true, laidKinds := [.data, .pinned], laidTests := true, laidLooks := .later }
def PacketRestsCardSaid : Prop := Claim7.holds Tryd.pinned (.plain (OpenSpec.ofChange packetRestsSpec)) packetRestsCard

/-- THE TIED CARD OF 'relayhouselaw04.WriteKnown'. -/
def writeKnownCard : Claim7 := { stood := { row := writeKnownRow, standIns := [], harness := (true, "ef271868ac7b91ee2891826366aef96e1f7f4dd7e5b9dfa9442321737eff278f"), looks := false }, kinds := [], alts := [], laidByText := true, laidKinds := [.data, .pinned], laidTests := true, laidLooks := .later }
def WriteKnownCardSaid : Prop := Claim7.holds Tryd.pinned (.plain (OpenSpec.ofChange writeKnownSpec)) writeKnownCard

/-- THE TIED CARD OF 'relayhouselaw04.WriteEncodes'. -/
def writeEncodesCard : Claim7 := { stood := { row := writeEncodesRow, standIns := [], harness := (true, "ef271868ac7b91ee2891826366aef96e1f7f4dd7e5b9dfa9442321737eff278f"), looks := false }, kinds := [], alts := [], laidByText := true, laidKinds := [.data, .pinned], laidTests := true, laidLooks := .later }
def WriteEncodesCardSaid : Prop := Claim7.holds Tryd.pinned (.plain (OpenSpec.ofChange writeEncodesSpec)) writeEncodesCard

/-- THE TIED CARD OF 'relayhouselaw04.WriteAll'. -/
def writeAllCard : Claim7 := { stood := { row := writeAllRow, standIns := [], harness := (true, "ef271868ac7b91ee2891826366aef96e1f7f4dd7e5b9dfa9442321737eff278f"), looks := false }, kinds := [], alts := [], laidByText := true, laidKinds := [.data, .pinned], laidTests := true, laidLooks := .later }
def WriteAllCardSaid : Prop := Claim7.holds Tryd.pinned (.plain (OpenSpec.ofChange writeAllSpec)) writeAllCard

/-- THE TIED CARD OF 'relayhouselaw04.WriteRow'. -/
def writeRowCard : Claim7 := { stood := { row := writeRowRow, standIns := [], harness := (true, "ef271868ac7b91ee2891826366aef96e1f7f4dd7e5b9dfa9442321737eff278f"), looks := false }, kinds := [], alts := [], laidByText := true, laidKinds := [.data, .pinned], laidTests := true, laidLooks := .later }
def WriteRowCardSaid : Prop := Claim7.holds Tryd.pinned (.plain (OpenSpec.ofChange writeRowSpec)) writeRowCard

/-- THE TIED CARD OF 'relayhouselaw04.WriteApart'. -/
def writeApartCard : Claim7 := { stood := { row := writeApartRow, standIns := [], harness := (true, "ef271868ac7b91ee2891826366aef96e1f7f4dd7e5b9dfa9442321737eff278f"), looks := false }, kinds := [], alts := [], laidByText := true, laidKinds := [.data, .pinned], laidTests := true, laidLooks := .later }
def WriteApartCardSaid : Prop := Claim7.holds Tryd.pinned (.plain (OpenSpec.ofChange writeApartSpec)) writeApartCard

/-- THE TIED CARD OF 'relayhouselaw04.WriteSizes'. -/
def writeSizesCard : Claim7 := { stood := { row := writeSizesRow, standIns := [], harness := (true, "ef271868ac7b91ee2891826366aef96e1f7f4dd7e5b9dfa9442321737eff278f"), looks := false }, kinds := [], alts := [], laidByText := true, laidKinds := [.data, .pinned], laidTests := true, laidLooks := .later }
def WriteSizesCardSaid : Prop := Claim7.holds Tryd.pinned (.plain (OpenSpec.ofChange writeSizesSpec)) writeSizesCard

/-- THE SECOND FORM's CARD OF 'relayhouselaw03.PacketKnown'. -/
def packetKnownUptoCard : Claim7 := { stood := { row := packetKnownUptoRow, standIns := [], harness := (true, "ef271868ac7b91ee2891826366aef96e1f7f4dd7e5b9dfa9442321737eff278f"), looks := false }, kinds := [], alts := [], laidByText := true, laidKinds := [.data, .pinned], laidTests := true, laidLooks := .later }
def PacketKnownUptoCardSaid : Prop := Claim7.holds Tryd.pinned (.plain (OpenSpec.upto packetKnownSpec)) packetKnownUptoCard

/-- THE SECOND FORM's CARD OF 'relayhouselaw03.PacketRight'. -/
def packetRightUptoCard : Claim7 := { stood := { row := packetRightUptoRow, standIns := [], harness := (true, "ef271868ac7b91ee2891826366aef96e1f7f4dd7e5b9dfa9442321737eff278f"), looks := false }, kinds := [], alts := [], laidByText := true, laidKinds := [.data, .pinned], laidTests := true, laidLooks := .later }
def PacketRightUptoCardSaid : Prop := Claim7.holds Tryd.pinned (.plain (OpenSpec.upto packetRightSpec)) packetRightUptoCard

/-- THE SECOND FORM's CARD OF 'relayhouselaw03.PacketSame'. -/
def packetSameUptoCard : Claim7 := { stood := { row := packetSameUptoRow, standIns := [], harness := (true, "ef271868ac7b91ee2891826366aef96e1f7f4dd7e5b9dfa9442321737eff278f"), looks := false }, kinds := [], alts := [], laidByText := true, laidKinds := [.data, .pinned], laidTests := true, laidLooks := .later }
def PacketSameUptoCardSaid : Prop := Claim7.holds Tryd.pinned (.plain (OpenSpec.upto packetSameSpec)) packetSameUptoCard

/-- THE SECOND FORM's CARD OF 'relayhouselaw03.PacketFields'. -/
def packetFieldsUptoCard : Claim7 := { stood := { row := packetFieldsUptoRow, standIns := [], harness := (true, "ef271868ac7b91ee2891826366aef96e1f7f4dd7e5b9dfa9442321737eff278f"), looks := false }, kinds := [], alts := [], laidByText := true, laidKinds := [.data, .pinned], laidTests := true, laidLooks := .later }
def PacketFieldsUptoCardSaid : Prop := Claim7.holds Tryd.pinned (.plain (OpenSpec.upto packetFieldsSpec)) packetFieldsUptoCard

/-- THE SECOND FORM's CARD OF 'relayhouselaw03.PacketTopics'. -/
def packetTopicsUptoCard : Claim7 := { stood := { row := packetTopicsUptoRow, standIns := [], harness := (true, "ef271868ac7b91ee2891826366aef96e1f7f4dd7e5b9dfa9442321737eff278f"), looks := false }, kinds := [], alts := [], laidByText := true, laidKinds := [.data, .pinned], laidTests := true, laidLooks := .later }
def PacketTopicsUptoCardSaid : Prop := Claim7.holds Tryd.pinned (.plain (OpenSpec.upto packetTopicsSpec)) packetTopicsUptoCard

/-- THE SECOND FORM's CARD OF 'relayhouselaw03.PacketRests'. -/
def packetRestsUptoCard : Claim7 := { stood := { row := packetRestsUptoRow, standIns := [], harness := (true, "ef271868ac7b91ee2891826366aef96e1f7f4dd7e5b9dfa9442321737eff278f"), looks := false }, kinds := [], alts := [], laidByText := true, laidKinds := [.data, .pinned], laidTests := true, laidLooks := .later }
def PacketRestsUptoCardSaid : Prop := Claim7.holds Tryd.pinned (.plain (OpenSpec.upto packetRestsSpec)) packetRestsUptoCard

/-- THE SECOND FORM's CARD OF 'relayhouselaw04.WriteKnown'. -/
def writeKnownUptoCard : Claim7 := { stood := { row := writeKnownUptoRow, standIns := [], harness := (true, "ef271868ac7b91ee2891826366aef96e1f7f4dd7e5b9dfa9442321737eff278f"), looks := false }, kinds := [], alts := [], laidByText := true, laidKinds := [.data, .pinned], laidTests := true, laidLooks := .later }
def WriteKnownUptoCardSaid : Prop := Claim7.holds Tryd.pinned (.plain (OpenSpec.upto writeKnownSpec)) writeKnownUptoCard

/-- THE SECOND FORM's CARD OF 'relayhouselaw04.WriteEncodes'. -/
def writeEncodesUptoCard : Claim7 := { stood := { row := writeEncodesUptoRow, standIns := [], harness := (true, "ef271868ac7b91ee2891826366aef96e1f7f4dd7e5b9dfa9442321737eff278f"), looks := false }, kinds := [], alts := [], laidByText := true, laidKinds := [.data, .pinned], laidTests := true, laidLooks := .later }
def WriteEncodesUptoCardSaid : Prop := Claim7.holds Tryd.pinned (.plain (OpenSpec.upto writeEncodesSpec)) writeEncodesUptoCard

/-- THE SECOND FORM's CARD OF 'relayhouselaw04.WriteAll'. -/
def writeAllUptoCard : Claim7 := { stood := { row := writeAllUptoRow, standIns := [], harness := (true, "ef271868ac7b91ee2891826366aef96e1f7f4dd7e5b9dfa9442321737eff278f"), looks := false }, kinds := [], alts := [], laidByText := true, laidKinds := [.data, .pinned], laidTests := true, laidLooks := .later }
def WriteAllUptoCardSaid : Prop := Claim7.holds Tryd.pinned (.plain (OpenSpec.upto writeAllSpec)) writeAllUptoCard

/-- THE SECOND FORM's CARD OF 'relayhouselaw04.WriteRow'. -/
def writeRowUptoCard : Claim7 := { stood := { row := writeRowUptoRow, standIns := [], harness := (true, "ef271868ac7b91ee2891826366aef96e1f7f4dd7e5b9dfa9442321737eff278f"), looks := false }, kinds := [], alts := [], laidByText := true, laidKinds := [.data, .pinned], laidTests := true, laidLooks := .later }
def WriteRowUptoCardSaid : Prop := Claim7.holds Tryd.pinned (.plain (OpenSpec.upto writeRowSpec)) writeRowUptoCard

/-- THE SECOND FORM's CARD OF 'relayhouselaw04.WriteApart'. -/
def writeApartUptoCard : Claim7 := { stood := { row := writeApartUptoRow, standIns := [], harness := (true, "ef271868ac7b91ee2891826366aef96e1f7f4dd7e5b9dfa9442321737eff278f"), looks := false }, kinds := [], alts := [], laidByText := true, laidKinds := [.data, .pinned], laidTests := true, laidLooks := .later }
def WriteApartUptoCardSaid : Prop := Claim7.holds Tryd.pinned (.plain (OpenSpec.upto writeApartSpec)) writeApartUptoCard

/-- THE SECOND FORM's CARD OF 'relayhouselaw04.WriteSizes'. -/
def writeSizesUptoCard : Claim7 := { stood := { row := writeSizesUptoRow, standIns := [], harness := (true, "ef271868ac7b91ee2891826366aef96e1f7f4dd7e5b9dfa9442321737eff278f"), looks := false }, kinds := [], alts := [], laidByText := true, laidKinds := [.data, .pinned], laidTests := true, laidLooks := .later }
def WriteSizesUptoCardSaid : Prop := Claim7.holds Tryd.pinned (.plain (OpenSpec.upto writeSizesSpec)) writeSizesUptoCard
end Rows
end Go.Proofs.YtkphaihbdmjogaaDoor
