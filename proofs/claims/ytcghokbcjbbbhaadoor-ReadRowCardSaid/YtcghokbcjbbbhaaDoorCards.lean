/-
  DERIVED. GIVEN WITH THE SEED: THE CARDS: each row of YtcghokbcjbbbhaaDoorRows.lean that lists a variable, with what it lists TIED to the program's text (the seventh form; the later family's looks); each row that meets fmt, with fmt's text TOLD by the authors' own Lean function (tested against real Go, not proved from fmt's source: count such statements apart). THE CARD IS WHAT COUNTS. Prove the row's statement (the work); the ties are given (YtcghokbcjbbbhaaDoorTie.lean); close each card by the builder's one call (the guide's Derived/Test/ToyasCard.lean, 'card_holds'). Laid BY PROGRAM, IN A SANDBOX (cutbox-door.mjs). By AI agents, Wed Nov 11 2026. No macro, syntax, notation, axiom, sorry.
-/
import Derived.Test.YtcghokbcjbbbhaaDoorRows
import GoSem.ClaimSeven
namespace Go.Proofs.YtcghokbcjbbbhaaDoor
namespace Rows

/-- THE TIED CARD OF 'relayhouselaw03.PacketKnown'. -/
def packetKnownCard : Claim7 := { stood := { row := packetKnownRow, standIns := [], harness := (true, "0618f6a461f7b754dbb46c8d3dce93e0b21ebd8a13e18938a423704ac66bab3b"), looks := false }, kinds := [], alts := [], laidByText := true, laidKinds := [.data, .pinned], laidTests := true, laidLooks := .later }
def PacketKnownCardSaid : Prop := Claim7.holds Tryd.pinned (.plain (OpenSpec.ofChange packetKnownSpec)) packetKnownCard

/-- THE TIED CARD OF 'relayhouselaw04.WriteEncodes'. -/
def writeEncodesCard : Claim7 := { stood := { row := writeEncodesRow, standIns := [], harness := (true, "0618f6a461f7b754dbb46c8d3dce93e0b21ebd8a13e18938a423704ac66bab3b"), looks := false }, kinds := [], alts := [], laidByText := true, laidKinds := [.data, .pinned], laidTests := true, laidLooks := .later }
def WriteEncodesCardSaid : Prop := Claim7.holds Tryd.pinned (.plain (OpenSpec.ofChange writeEncodesSpec)) writeEncodesCard

/-- THE TIED CARD OF 'relayhouselaw04.WriteAll'. -/
def writeAllCard : Claim7 := { stood := { row := writeAllRow, standIns := [], harness := (true, "0618f6a461f7b754dbb46c8d3dce93e0b21ebd8a13e18938a423704ac66bab3b"), looks := false }, kinds := [], alts := [], laidByText := true, laidKinds := [.data, .pinned], laidTests := true, laidLooks := .later }
def WriteAllCardSaid : Prop := Claim7.holds Tryd.pinned (.plain (OpenSpec.ofChange writeAllSpec)) writeAllCard

/-- THE TIED CARD OF 'relayhouselaw05.ReadBack'. -/
def readBackCard : Claim7 := { stood := { row := readBackRow, standIns := [], harness := (true, "0618f6a461f7b754dbb46c8d3dce93e0b21ebd8a13e18938a423704ac66bab3b"), looks := false }, kinds := [], alts := [], laidByText := true, laidKinds := [.data, .pinned], laidTests := true, laidLooks := .later }
def ReadBackCardSaid : Prop := Claim7.holds Tryd.pinned (.plain (OpenSpec.ofChange readBackSpec)) readBackCard

/-- THE TIED CARD OF 'relayhouselaw05.ReadAgain'. -/
def readAgainCard : Claim7 := { stood := { row := readAgainRow, standIns := [], harness := (true, "0618f6a461f7b754dbb46c8d3dce93e0b21ebd8a13e18938a423704ac66bab3b"), looks := false }, kinds := [], alts := [], laidByText := true, laidKinds := [.data, .pinned], laidTests := true, laidLooks := .later }
def ReadAgainCardSaid : Prop := Claim7.holds Tryd.pinned (.plain (OpenSpec.ofChange readAgainSpec)) readAgainCard

/-- THE TIED CARD OF 'relayhouselaw05.ReadRow'. -/
def readRowCard : Claim7 := { stood := { row := readRowRow, standIns := [], harness := (true, "0618f6a461f7b754dbb46c8d3dce93e0b21ebd8a13e18938a423704ac66bab3b"), looks := false }, kinds := [], alts := [], laidByText := true, laidKinds := [.data, .pinned], laidTests := true, laidLooks := .later }
def ReadRowCardSaid : Prop := Claim7.holds Tryd.pinned (.plain (OpenSpec.ofChange readRowSpec)) readRowCard

/-- THE TIED CARD OF 'relayhouselaw05.ReadLevels'. -/
def readLevelsCard : Claim7 := { stood := { row := readLevelsRow, standIns := [], harness := (true, "0618f6a461f7b754dbb46c8d3dce93e0b21ebd8a13e18938a423704ac66bab3b"), looks := false }, kinds := [], alts := [], laidByText := true, laidKinds := [.data, .pinned], laidTests := true, laidLooks := .later }
def ReadLevelsCardSaid : Prop := Claim7.holds Tryd.pinned (.plain (OpenSpec.ofChange readLevelsSpec)) readLevelsCard

/-- THE TIED CARD OF 'relayhouselaw06.FrameKnown'. -/
def frameKnownCard : Claim7 := { stood := { row := frameKnownRow, standIns := [], harness := (true, "0618f6a461f7b754dbb46c8d3dce93e0b21ebd8a13e18938a423704ac66bab3b"), looks := false }, kinds := [], alts := [], laidByText := true, laidKinds := [.data, .pinned], laidTests := true, laidLooks := .later }
def FrameKnownCardSaid : Prop := Claim7.holds Tryd.pinned (.plain (OpenSpec.ofChange frameKnownSpec)) frameKnownCard

/-- THE TIED CARD OF 'relayhouselaw06.FramePlays'. -/
def framePlaysCard : Claim7 := { stood := { row := framePlaysRow, standIns := [], harness := (true, "0618f6a461f7b754dbb46c8d3dce93e0b21ebd8a13e18938a423704ac66bab3b"), looks := false }, kinds := [], alts := [], laidByText := true, laidKinds := [.data, .pinned], laidTests := true, laidLooks := .later }
def FramePlaysCardSaid : Prop := Claim7.holds Tryd.pinned (.plain (OpenSpec.ofChange framePlaysSpec)) framePlaysCard

/-- THE TIED CARD OF 'relayhouselaw06.FrameChunks'. -/
def frameChunksCard : Claim7 := { stood := { row := frameChunksRow, standIns := [], harness := (true, "0618f6a461f7b754dbb46c8d3dce93e0b21ebd8a13e18938a423704ac66bab3b"), looks := false }, kinds := [], alts := [], laidByText := true, laidKinds := [.data, .pinned], laidTests := true, laidLooks := .later }
def FrameChunksCardSaid : Prop := Claim7.holds Tryd.pinned (.plain (OpenSpec.ofChange frameChunksSpec)) frameChunksCard

/-- THE TIED CARD OF 'relayhouselaw06.FrameStuck'. -/
def frameStuckCard : Claim7 := { stood := { row := frameStuckRow, standIns := [], harness := (true, "0618f6a461f7b754dbb46c8d3dce93e0b21ebd8a13e18938a423704ac66bab3b"), looks := false }, kinds := [], alts := [], laidByText := true, laidKinds := [.data, .pinned], laidTests := true, laidLooks := .later }
def FrameStuckCardSaid : Prop := Claim7.holds Tryd.pinned (.plain (OpenSpec.ofChange frameStuckSpec)) frameStuckCard

/-- THE TIED CARD OF 'relayhouselaw06.FrameRow'. -/
def frameRowCard : Claim7 := { stood := { row := frameRowRow, standIns := [], harness := (true, "0618f6a461f7b754dbb46c8d3dce93e0b21ebd8a13e18938a423704ac66bab3b"), looks := false }, kinds := [], alts := [], laidByText := true, laidKinds := [.data, .pinned], laidTests := true, laidLooks := .later }
def FrameRowCardSaid : Prop := Claim7.holds Tryd.pinned (.plain (OpenSpec.ofChange frameRowSpec)) frameRowCard

/-- THE SECOND FORM's CARD OF 'relayhouselaw03.PacketKnown'. -/
def packetKnownUptoCard : Claim7 := { stood := { row := packetKnownUptoRow, standIns := [], harness := (true, "0618f6a461f7b754dbb46c8d3dce93e0b21ebd8a13e18938a423704ac66bab3b"), looks := false }, kinds := [], alts := [], laidByText := true, laidKinds := [.data, .pinned], laidTests := true, laidLooks := .later }
def PacketKnownUptoCardSaid : Prop := Claim7.holds Tryd.pinned (.plain (OpenSpec.upto packetKnownSpec)) packetKnownUptoCard

/-- THE SECOND FORM's CARD OF 'relayhouselaw04.WriteEncodes'. -/
def writeEncodesUptoCard : Claim7 := { stood := { row := writeEncodesUptoRow, standIns := [], harness := (true, "0618f6a461f7b754dbb46c8d3dce93e0b21ebd8a13e18938a423704ac66bab3b"), looks := false }, kinds := [], alts := [], laidByText := true, laidKinds := [.data, .pinned], laidTests := true, laidLooks := .later }
def WriteEncodesUptoCardSaid : Prop := Claim7.holds Tryd.pinned (.plain (OpenSpec.upto writeEncodesSpec)) writeEncodesUptoCard

/-- THE SECOND FORM's CARD OF 'relayhouselaw04.WriteAll'. -/
def writeAllUptoCard : Claim7 := { stood := { row := writeAllUptoRow, standIns := [], harness := (true, "0618f6a461f7b754dbb46c8d3dce93e0b21ebd8a13e18938a423704ac66bab3b"), looks := false }, kinds := [], alts := [], laidByText := true, laidKinds := [.data, .pinned], laidTests := true, laidLooks := .later }
def WriteAllUptoCardSaid : Prop := Claim7.holds Tryd.pinned (.plain (OpenSpec.upto writeAllSpec)) writeAllUptoCard

/-- THE SECOND FORM's CARD OF 'relayhouselaw05.ReadBack'. -/
def readBackUptoCard : Claim7 := { stood := { row := readBackUptoRow, standIns := [], harness := (true, "0618f6a461f7b754dbb46c8d3dce93e0b21ebd8a13e18938a423704ac66bab3b"), looks := false }, kinds := [], alts := [], laidByText := true, laidKinds := [.data, .pinned], laidTests := true, laidLooks := .later }
def ReadBackUptoCardSaid : Prop := Claim7.holds Tryd.pinned (.plain (OpenSpec.upto readBackSpec)) readBackUptoCard

/-- THE SECOND FORM's CARD OF 'relayhouselaw05.ReadAgain'. -/
def readAgainUptoCard : Claim7 := { stood := { row := readAgainUptoRow, standIns := [], harness := (true, "0618f6a461f7b754dbb46c8d3dce93e0b21ebd8a13e18938a423704ac66bab3b"), looks := false }, kinds := [], alts := [], laidByText := true, laidKinds := [.data, .pinned], laidTests := true, laidLooks := .later }
def ReadAgainUptoCardSaid : Prop := Claim7.holds Tryd.pinned (.plain (OpenSpec.upto readAgainSpec)) readAgainUptoCard

/-- THE SECOND FORM's CARD OF 'relayhouselaw05.ReadRow'. -/
def readRowUptoCard : Claim7 := { stood := { row := readRowUptoRow, standIns := [], harness := (true, "0618f6a461f7b754dbb46c8d3dce93e0b21ebd8a13e18938a423704ac66bab3b"), looks := false }, kinds := [], alts := [], laidByText := true, laidKinds := [.data, .pinned], laidTests := true, laidLooks := .later }
def ReadRowUptoCardSaid : Prop := Claim7.holds Tryd.pinned (.plain (OpenSpec.upto readRowSpec)) readRowUptoCard

/-- THE SECOND FORM's CARD OF 'relayhouselaw05.ReadLevels'. -/
def readLevelsUptoCard : Claim7 := { stood := { row := readLevelsUptoRow, standIns := [], harness := (true, "0618f6a461f7b754dbb46c8d3dce93e0b21ebd8a13e18938a423704ac66bab3b"), looks := false }, kinds := [], alts := [], laidByText := true, laidKinds := [.data, .pinned], laidTests := true, laidLooks := .later }
def ReadLevelsUptoCardSaid : Prop := Claim7.holds Tryd.pinned (.plain (OpenSpec.upto readLevelsSpec)) readLevelsUptoCard

/-- THE SECOND FORM's CARD OF 'relayhouselaw06.FrameKnown'. -/
def frameKnownUptoCard : Claim7 := { stood := { row := frameKnownUptoRow, standIns := [], harness := (true, "0618f6a461f7b754dbb46c8d3dce93e0b21ebd8a13e18938a423704ac66bab3b"), looks := false }, kinds := [], alts := [], laidByText := true, laidKinds := [.data, .pinned], laidTests := true, laidLooks := .later }
def FrameKnownUptoCardSaid : Prop := Claim7.holds Tryd.pinned (.plain (OpenSpec.upto frameKnownSpec)) frameKnownUptoCard

/-- THE SECOND FORM's CARD OF 'relayhouselaw06.FramePlays'. -/
def framePlaysUptoCard : Claim7 := { stood := { row := framePlaysUptoRow, standIns := [], harness := (true, "0618f6a461f7b754dbb46c8d3dce93e0b21ebd8a13e18938a423704ac66bab3b"), looks := false }, kinds := [], alts := [], laidByText := true, laidKinds := [.data, .pinned], laidTests := true, laidLooks := .later }
def FramePlaysUptoCardSaid : Prop := Claim7.holds Tryd.pinned (.plain (OpenSpec.upto framePlaysSpec)) framePlaysUptoCard

/-- THE SECOND FORM's CARD OF 'relayhouselaw06.FrameChunks'. -/
def frameChunksUptoCard : Claim7 := { stood := { row := frameChunksUptoRow, standIns := [], harness := (true, "0618f6a461f7b754dbb46c8d3dce93e0b21ebd8a13e18938a423704ac66bab3b"), looks := false }, kinds := [], alts := [], laidByText := true, laidKinds := [.data, .pinned], laidTests := true, laidLooks := .later }
def FrameChunksUptoCardSaid : Prop := Claim7.holds Tryd.pinned (.plain (OpenSpec.upto frameChunksSpec)) frameChunksUptoCard

/-- THE SECOND FORM's CARD OF 'relayhouselaw06.FrameStuck'. -/
def frameStuckUptoCard : Claim7 := { stood := { row := frameStuckUptoRow, standIns := [], harness := (true, "0618f6a461f7b754dbb46c8d3dce93e0b21ebd8a13e18938a423704ac66bab3b"), looks := false }, kinds := [], alts := [], laidByText := true, laidKinds := [.data, .pinned], laidTests := true, laidLooks := .later }
def FrameStuckUptoCardSaid : Prop := Claim7.holds Tryd.pinned (.plain (OpenSpec.upto frameStuckSpec)) frameStuckUptoCard

/-- THE SECOND FORM's CARD OF 'relayhouselaw06.FrameRow'. -/
def frameRowUptoCard : Claim7 := { stood := { row := frameRowUptoRow, standIns := [], harness := (true, "0618f6a461f7b754dbb46c8d3dce93e0b21ebd8a13e18938a423704ac66bab3b"), looks := false }, kinds := [], alts := [], laidByText := true, laidKinds := [.data, .pinned], laidTests := true, laidLooks := .later }
def FrameRowUptoCardSaid : Prop := Claim7.holds Tryd.pinned (.plain (OpenSpec.upto frameRowSpec)) frameRowUptoCard
end Rows
end Go.Proofs.YtcghokbcjbbbhaaDoor
