/-
  DERIVED. GIVEN WITH THE SEED: THE CARDS: each row of YtehpihmgjbmoaaaGreatDoorRows.lean that lists a variable, with what it lists TIED to the program's text (the seventh form; the later family's looks); each row that meets fmt, with fmt's text TOLD by the authors' own Lean function (tested against real Go, not proved from fmt's source: count such statements apart). THE CARD IS WHAT COUNTS. Prove the row's statement (the work); the ties are given (YtehpihmgjbmoaaaGreatDoorTie.lean); close each card by the builder's one call (the guide's Derived/Test/ToyasCard.lean, 'card_holds'). Laid BY PROGRAM, IN A SANDBOX (cutbox-door.mjs). By AI agents, Wed Nov 11 2026. No macro, syntax, notation, axiom, sorry.
-/
import Derived.Test.YtehpihmgjbmoaaaGreatDoorRows
import GoSem.ClaimSeven
namespace Go.Proofs.YtehpihmgjbmoaaaGreatDoor
namespace Rows

/-- THE TIED CARD OF 'relayhouselaw20.GateChunks'. -/
def gateChunksCard : Claim7 := { stood := { row := gateChunksRow, standIns := [], harness := (true, "94853deb249a072aeff3a3257404d5f56300670e058fc8e2fd47ed069bcacb0f"), looks := false }, kinds := [], alts := [], laidByText := true, laidKinds := [.data, .pinned], laidTests := true, laidLooks := .later }
def GateChunksCardSaid : Prop := Claim7.holds Tryz.pinned (.plain (OpenSpec.ofChange gateChunksSpec)) gateChunksCard

/-- THE TIED CARD OF 'relayhouselaw20.GateOne'. -/
def gateOneCard : Claim7 := { stood := { row := gateOneRow, standIns := [], harness := (true, "94853deb249a072aeff3a3257404d5f56300670e058fc8e2fd47ed069bcacb0f"), looks := false }, kinds := [], alts := [], laidByText := true, laidKinds := [.data, .pinned], laidTests := true, laidLooks := .later }
def GateOneCardSaid : Prop := Claim7.holds Tryz.pinned (.plain (OpenSpec.ofChange gateOneSpec)) gateOneCard

/-- THE TIED CARD OF 'relayhouselaw20.GateHears'. -/
def gateHearsCard : Claim7 := { stood := { row := gateHearsRow, standIns := [], harness := (true, "94853deb249a072aeff3a3257404d5f56300670e058fc8e2fd47ed069bcacb0f"), looks := false }, kinds := [], alts := [], laidByText := true, laidKinds := [.data, .pinned], laidTests := true, laidLooks := .later }
def GateHearsCardSaid : Prop := Claim7.holds Tryz.pinned (.plain (OpenSpec.ofChange gateHearsSpec)) gateHearsCard

/-- THE TIED CARD OF 'relayhouselaw20.GateKnown'. -/
def gateKnownCard : Claim7 := { stood := { row := gateKnownRow, standIns := [], harness := (true, "94853deb249a072aeff3a3257404d5f56300670e058fc8e2fd47ed069bcacb0f"), looks := false }, kinds := [], alts := [], laidByText := true, laidKinds := [.data, .pinned], laidTests := true, laidLooks := .later }
def GateKnownCardSaid : Prop := Claim7.holds Tryz.pinned (.plain (OpenSpec.ofChange gateKnownSpec)) gateKnownCard

/-- THE TIED CARD OF 'relayhouselaw20.GateDrains'. -/
def gateDrainsCard : Claim7 := { stood := { row := gateDrainsRow, standIns := [], harness := (true, "94853deb249a072aeff3a3257404d5f56300670e058fc8e2fd47ed069bcacb0f"), looks := false }, kinds := [], alts := [], laidByText := true, laidKinds := [.data, .pinned], laidTests := true, laidLooks := .later }
def GateDrainsCardSaid : Prop := Claim7.holds Tryz.pinned (.plain (OpenSpec.ofChange gateDrainsSpec)) gateDrainsCard

/-- THE TIED CARD OF 'relayhouselaw20.GatePlays'. -/
def gatePlaysCard : Claim7 := { stood := { row := gatePlaysRow, standIns := [], harness := (true, "94853deb249a072aeff3a3257404d5f56300670e058fc8e2fd47ed069bcacb0f"), looks := false }, kinds := [], alts := [], laidByText := true, laidKinds := [.data, .pinned], laidTests := true, laidLooks := .later }
def GatePlaysCardSaid : Prop := Claim7.holds Tryz.pinned (.plain (OpenSpec.ofChange gatePlaysSpec)) gatePlaysCard

/-- THE SECOND FORM's CARD OF 'relayhouselaw20.GateChunks'. -/
def gateChunksUptoCard : Claim7 := { stood := { row := gateChunksUptoRow, standIns := [], harness := (true, "94853deb249a072aeff3a3257404d5f56300670e058fc8e2fd47ed069bcacb0f"), looks := false }, kinds := [], alts := [], laidByText := true, laidKinds := [.data, .pinned], laidTests := true, laidLooks := .later }
def GateChunksUptoCardSaid : Prop := Claim7.holds Tryz.pinned (.plain (OpenSpec.upto gateChunksSpec)) gateChunksUptoCard

/-- THE SECOND FORM's CARD OF 'relayhouselaw20.GateOne'. -/
def gateOneUptoCard : Claim7 := { stood := { row := gateOneUptoRow, standIns := [], harness := (true, "94853deb249a072aeff3a3257404d5f56300670e058fc8e2fd47ed069bcacb0f"), looks := false }, kinds := [], alts := [], laidByText := true, laidKinds := [.data, .pinned], laidTests := true, laidLooks := .later }
def GateOneUptoCardSaid : Prop := Claim7.holds Tryz.pinned (.plain (OpenSpec.upto gateOneSpec)) gateOneUptoCard

/-- THE SECOND FORM's CARD OF 'relayhouselaw20.GateHears'. -/
def gateHearsUptoCard : Claim7 := { stood := { row := gateHearsUptoRow, standIns := [], harness := (true, "94853deb249a072aeff3a3257404d5f56300670e058fc8e2fd47ed069bcacb0f"), looks := false }, kinds := [], alts := [], laidByText := true, laidKinds := [.data, .pinned], laidTests := true, laidLooks := .later }
def GateHearsUptoCardSaid : Prop := Claim7.holds Tryz.pinned (.plain (OpenSpec.upto gateHearsSpec)) gateHearsUptoCard

/-- THE SECOND FORM's CARD OF 'relayhouselaw20.GateKnown'. -/
def gateKnownUptoCard : Claim7 := { stood := { row := gateKnownUptoRow, standIns := [], harness := (true, "94853deb249a072aeff3a3257404d5f56300670e058fc8e2fd47ed069bcacb0f"), looks := false }, kinds := [], alts := [], laidByText := true, laidKinds := [.data, .pinned], laidTests := true, laidLooks := .later }
def GateKnownUptoCardSaid : Prop := Claim7.holds Tryz.pinned (.plain (OpenSpec.upto gateKnownSpec)) gateKnownUptoCard

/-- THE SECOND FORM's CARD OF 'relayhouselaw20.GateDrains'. -/
def gateDrainsUptoCard : Claim7 := { stood := { row := gateDrainsUptoRow, standIns := [], harness := (true, "94853deb249a072aeff3a3257404d5f56300670e058fc8e2fd47ed069bcacb0f"), looks := false }, kinds := [], alts := [], laidByText := true, laidKinds := [.data, .pinned], laidTests := true, laidLooks := .later }
def GateDrainsUptoCardSaid : Prop := Claim7.holds Tryz.pinned (.plain (OpenSpec.upto gateDrainsSpec)) gateDrainsUptoCard

/-- THE SECOND FORM's CARD OF 'relayhouselaw20.GatePlays'. -/
def gatePlaysUptoCard : Claim7 := { stood := { row := gatePlaysUptoRow, standIns := [], harness := (true, "94853deb249a072aeff3a3257404d5f56300670e058fc8e2fd47ed069bcacb0f"), looks := false }, kinds := [], alts := [], laidByText := true, laidKinds := [.data, .pinned], laidTests := true, laidLooks := .later }
def GatePlaysUptoCardSaid : Prop := Claim7.holds Tryz.pinned (.plain (OpenSpec.upto gatePlaysSpec)) gatePlaysUptoCard
end Rows
end Go.Proofs.YtehpihmgjbmoaaaGreatDoor
