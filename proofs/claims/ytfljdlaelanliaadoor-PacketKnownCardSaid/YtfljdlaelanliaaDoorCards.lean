/-
  DERIVED. GIVEN WITH THE SEED: THE CARDS: each row of YtfljdlaelanliaaDoorRows.lean that lists a variable, with what it lists TIED to the program's text (the seventh form; the later family's looks); each row that meets fmt, with fmt's text TOLD by the authors' own Lean function (tested against real Go, not proved from fmt's source: count such statements apart). THE CARD IS WHAT COUNTS. Prove the row's statement (the work); the ties are given (YtfljdlaelanliaaDoorTie.lean); close each card by the builder's one call (the guide's Derived/Test/ToyasCard.lean, 'card_holds'). Laid BY PROGRAM, IN A SANDBOX (cutbox-door.mjs). By AI agents, Wed Nov 11 2026. No macro, syntax, notation, axiom, sorry.
-/
import Derived.Test.YtfljdlaelanliaaDoorRows
import GoSem.ClaimSeven
namespace Go.Proofs.YtfljdlaelanliaaDoor
namespace Rows

/-- THE TIED CARD OF 'relayhouselaw03.PacketKnown'. -/
def packetKnownCard : Claim7 := { stood := { row := packetKnownRow, standIns := [], harness := (true, "185eb28581a46703801c1571c234f673ac3b8244fe55ccce60c3a6d3506ba498"), looks := false }, kinds := [], alts := [], laidByText := true, laidKinds := [.data, .pinned], laidTests := true, laidLooks := .later }
def PacketKnownCardSaid : Prop := Claim7.holds Tryd.pinned (.plain (OpenSpec.ofChange packetKnownSpec)) packetKnownCard

/-- THE TIED CARD OF 'relayhouselaw04.WriteAll'. -/
def writeAllCard : Claim7 := { stood := { row := writeAllRow, standIns := [], harness := (true, "185eb28581a46703801c1571c234f673ac3b8244fe55ccce60c3a6d3506ba498"), looks := false }, kinds := [], alts := [], laidByText := true, laidKinds := [.data, .pinned], laidTests := true, laidLooks := .later }
def WriteAllCardSaid : Prop := Claim7.holds Tryd.pinned (.plain (OpenSpec.ofChange writeAllSpec)) writeAllCard

/-- THE TIED CARD OF 'relayhouselaw06.FrameKnown'. -/
def frameKnownCard : Claim7 := { stood := { row := frameKnownRow, standIns := [], harness := (true, "185eb28581a46703801c1571c234f673ac3b8244fe55ccce60c3a6d3506ba498"), looks := false }, kinds := [], alts := [], laidByText := true, laidKinds := [.data, .pinned], laidTests := true, laidLooks := .later }
def FrameKnownCardSaid : Prop := Claim7.holds Tryd.pinned (.plain (OpenSpec.ofChange frameKnownSpec)) frameKnownCard

/-- THE TIED CARD OF 'relayhouselaw06.FramePlays'. -/
def framePlaysCard : Claim7 := { stood := { row := framePlaysRow, standIns := [], harness := (true, "185eb28581a46703801c1571c234f673ac3b8244fe55ccce60c3a6d3506ba498"), looks := false }, kinds := [], alts := [], laidByText := true, laidKinds := [.data, .pinned], laidTests := true, laidLooks := .later }
def FramePlaysCardSaid : Prop := Claim7.holds Tryd.pinned (.plain (OpenSpec.ofChange framePlaysSpec)) framePlaysCard

/-- THE TIED CARD OF 'relayhouselaw06.FrameChunks'. -/
def frameChunksCard : Claim7 := { stood := { row := frameChunksRow, standIns := [], harness := (true, "185eb28581a46703801c1571c234f673ac3b8244fe55ccce60c3a6d3506ba498"), looks := false }, kinds := [], alts := [], laidByText := true, laidKinds := [.data, .pinned], laidTests := true, laidLooks := .later }
def FrameChunksCardSaid : Prop := Claim7.holds Tryd.pinned (.plain (OpenSpec.ofChange frameChunksSpec)) frameChunksCard

/-- THE TIED CARD OF 'relayhouselaw06.FrameStuck'. -/
def frameStuckCard : Claim7 := { stood := { row := frameStuckRow, standIns := [], harness := (true, "185eb28581a46703801c1571c234f673ac3b8244fe55ccce60c3a6d3506ba498"), looks := false }, kinds := [], alts := [], laidByText := true, laidKinds := [.data, .pinned], laidTests := true, laidLooks := .later }
def FrameStuckCardSaid : Prop := Claim7.holds Tryd.pinned (.plain (OpenSpec.ofChange frameStuckSpec)) frameStuckCard

/-- THE TIED CARD OF 'relayhouselaw06.FrameRow'. -/
def frameRowCard : Claim7 := { stood := { row := frameRowRow, standIns := [], harness := (true, "185eb28581a46703801c1571c234f673ac3b8244fe55ccce60c3a6d3506ba498"), looks := false }, kinds := [], alts := [], laidByText := true, laidKinds := [.data, .pinned], laidTests := true, laidLooks := .later }
def FrameRowCardSaid : Prop := Claim7.holds Tryd.pinned (.plain (OpenSpec.ofChange frameRowSpec)) frameRowCard

/-- THE SECOND FORM's CARD OF 'relayhouselaw03.PacketKnown'. -/
def packetKnownUptoCard : Claim7 := { stood := { row := packetKnownUptoRow, standIns := [], harness := (true, "185eb28581a46703801c1571c234f673ac3b8244fe55ccce60c3a6d3506ba498"), looks := false }, kinds := [], alts := [], laidByText := true, laidKinds := [.data, .pinned], laidTests := true, laidLooks := .later }
def PacketKnownUptoCardSaid : Prop := Claim7.holds Tryd.pinned (.plain (OpenSpec.upto packetKnownSpec)) packetKnownUptoCard

/-- THE SECOND FORM's CARD OF 'relayhouselaw04.WriteAll'. -/
def writeAllUptoCard : Claim7 := { stood := { row := writeAllUptoRow, standIns := [], harness := (true, "185eb28581a46703801c1571c234f673ac3b8244fe55ccce60c3a6d3506ba498"), looks := false }, kinds := [], alts := [], laidByText := true, laidKinds := [.data, .pinned], laidTests := true, laidLooks := .later }
def WriteAllUptoCardSaid : Prop := Claim7.holds Tryd.pinned (.plain (OpenSpec.upto writeAllSpec)) writeAllUptoCard

/-- THE SECOND FORM's CARD OF 'relayhouselaw06.FrameKnown'. -/
def frameKnownUptoCard : Claim7 := { stood := { row := frameKnownUptoRow, standIns := [], harness := (true, "185eb28581a46703801c1571c234f673ac3b8244fe55ccce60c3a6d3506ba498"), looks := false }, kinds := [], alts := [], laidByText := true, laidKinds := [.data, .pinned], laidTests := true, laidLooks := .later }
def FrameKnownUptoCardSaid : Prop := Claim7.holds Tryd.pinned (.plain (OpenSpec.upto frameKnownSpec)) frameKnownUptoCard

/-- THE SECOND FORM's CARD OF 'relayhouselaw06.FramePlays'. -/
def framePlaysUptoCard : Claim7 := { stood := { row := framePlaysUptoRow, standIns := [], harness := (true, "185eb28581a46703801c1571c234f673ac3b8244fe55ccce60c3a6d3506ba498"), looks := false }, kinds := [], alts := [], laidByText := true, laidKinds := [.data, .pinned], laidTests := true, laidLooks := .later }
def FramePlaysUptoCardSaid : Prop := Claim7.holds Tryd.pinned (.plain (OpenSpec.upto framePlaysSpec)) framePlaysUptoCard

/-- THE SECOND FORM's CARD OF 'relayhouselaw06.FrameChunks'. -/
def frameChunksUptoCard : Claim7 := { stood := { row := frameChunksUptoRow, standIns := [], harness := (true, "185eb28581a46703801c1571c234f673ac3b8244fe55ccce60c3a6d3506ba498"), looks := false }, kinds := [], alts := [], laidByText := true, laidKinds := [.data, .pinned], laidTests := true, laidLooks := .later }
def FrameChunksUptoCardSaid : Prop := Claim7.holds Tryd.pinned (.plain (OpenSpec.upto frameChunksSpec)) frameChunksUptoCard

/-- THE SECOND FORM's CARD OF 'relayhouselaw06.FrameStuck'. -/
def frameStuckUptoCard : Claim7 := { stood := { row := frameStuckUptoRow, standIns := [], harness := (true, "185eb28581a46703801c1571c234f673ac3b8244fe55ccce60c3a6d3506ba498"), looks := false }, kinds := [], alts := [], laidByText := true, laidKinds := [.data, .pinned], laidTests := true, laidLooks := .later }
def FrameStuckUptoCardSaid : Prop := Claim7.holds Tryd.pinned (.plain (OpenSpec.upto frameStuckSpec)) frameStuckUptoCard

/-- THE SECOND FORM's CARD OF 'relayhouselaw06.FrameRow'. -/
def frameRowUptoCard : Claim7 := { stood := { row := frameRowUptoRow, standIns := [], harness := (true, "185eb28581a46703801c1571c234f673ac3b8244fe55ccce60c3a6d3506ba498"), looks := false }, kinds := [], alts := [], laidByText := true, laidKinds := [.data, .pinned], laidTests := true, laidLooks := .later }
def FrameRowUptoCardSaid : Prop := Claim7.holds Tryd.pinned (.plain (OpenSpec.upto frameRowSpec)) frameRowUptoCard
end Rows
end Go.Proofs.YtfljdlaelanliaaDoor
