/-
  DERIVED. GIVEN WITH THE SEED: THE CARDS: each row of YtmppkgonkkffhaaDoorRows.lean that lists a variable, with what it lists TIED to the program's text (the seventh form; the later family's looks); each row that meets fmt, with fmt's text TOLD by the authors' own Lean function (tested against real Go, not proved from fmt's source: count such statements apart). THE CARD IS WHAT COUNTS. Prove the row's statement (the work); the ties are given (YtmppkgonkkffhaaDoorTie.lean); close each card by the builder's one call (the guide's Derived/Test/ToyasCard.lean, 'card_holds'). Laid BY PROGRAM, IN A SANDBOX (cutbox-door.mjs). By AI agents, Wed Nov 11 2026. No macro, syntax, notation, axiom, sorry.
-/
import Derived.Test.YtmppkgonkkffhaaDoorRows
import GoSem.ClaimSeven
namespace Go.Proofs.YtmppkgonkkffhaaDoor
namespace Rows

/-- THE TIED CARD OF 'relayhouselaw26.OrderChecks'. -/
def orderChecksCard : Claim7 := { stood := { row := orderChecksRow, standIns := [], harness := (true, "716fdb6b54c565902436c7fd944bee532f139381542a7ef18c17b76c85164247"), looks := false }, kinds := [], alts := [], laidByText := true, laidKinds := [.data, .pinned], laidTests := true, laidLooks := .later }
def OrderChecksCardSaid : Prop := Claim7.holds Tryd.pinned (.plain (OpenSpec.ofChange orderChecksSpec)) orderChecksCard

/-- THE TIED CARD OF 'relayhouselaw26.OrderBegins'. -/
def orderBeginsCard : Claim7 := { stood := { row := orderBeginsRow, standIns := [], harness := (true, "716fdb6b54c565902436c7fd944bee532f139381542a7ef18c17b76c85164247"), looks := false }, kinds := [], alts := [], laidByText := true, laidKinds := [.data, .pinned], laidTests := true, laidLooks := .later }
def OrderBeginsCardSaid : Prop := Claim7.holds Tryd.pinned (.plain (OpenSpec.ofChange orderBeginsSpec)) orderBeginsCard

/-- THE TIED CARD OF 'relayhouselaw26.OrderWants'. -/
def orderWantsCard : Claim7 := { stood := { row := orderWantsRow, standIns := [], harness := (true, "716fdb6b54c565902436c7fd944bee532f139381542a7ef18c17b76c85164247"), looks := false }, kinds := [], alts := [], laidByText := true, laidKinds := [.data, .pinned], laidTests := true, laidLooks := .later }
def OrderWantsCardSaid : Prop := Claim7.holds Tryd.pinned (.plain (OpenSpec.ofChange orderWantsSpec)) orderWantsCard

/-- THE TIED CARD OF 'relayhouselaw26.OrderTells'. -/
def orderTellsCard : Claim7 := { stood := { row := orderTellsRow, standIns := [], harness := (true, "716fdb6b54c565902436c7fd944bee532f139381542a7ef18c17b76c85164247"), looks := false }, kinds := [], alts := [], laidByText := true, laidKinds := [.data, .pinned], laidTests := true, laidLooks := .later }
def OrderTellsCardSaid : Prop := Claim7.holds Tryd.pinned (.plain (OpenSpec.ofChange orderTellsSpec)) orderTellsCard

/-- THE TIED CARD OF 'relayhouselaw26.OrderKnown'. -/
def orderKnownCard : Claim7 := { stood := { row := orderKnownRow, standIns := [], harness := (true, "716fdb6b54c565902436c7fd944bee532f139381542a7ef18c17b76c85164247"), looks := false }, kinds := [], alts := [], laidByText := true, laidKinds := [.data, .pinned], laidTests := true, laidLooks := .later }
def OrderKnownCardSaid : Prop := Claim7.holds Tryd.pinned (.plain (OpenSpec.ofChange orderKnownSpec)) orderKnownCard

/-- THE TIED CARD OF 'relayhouselaw26.OrderLinear'. -/
def orderLinearCard : Claim7 := { stood := { row := orderLinearRow, standIns := [], harness := (true, "716fdb6b54c565902436c7fd944bee532f139381542a7ef18c17b76c85164247"), looks := false }, kinds := [], alts := [], laidByText := true, laidKinds := [.data, .pinned], laidTests := true, laidLooks := .later }
def OrderLinearCardSaid : Prop := Claim7.holds Tryd.pinned (.plain (OpenSpec.ofChange orderLinearSpec)) orderLinearCard

/-- THE SECOND FORM's CARD OF 'relayhouselaw26.OrderChecks'. -/
def orderChecksUptoCard : Claim7 := { stood := { row := orderChecksUptoRow, standIns := [], harness := (true, "716fdb6b54c565902436c7fd944bee532f139381542a7ef18c17b76c85164247"), looks := false }, kinds := [], alts := [], laidByText := true, laidKinds := [.data, .pinned], laidTests := true, laidLooks := .later }
def OrderChecksUptoCardSaid : Prop := Claim7.holds Tryd.pinned (.plain (OpenSpec.upto orderChecksSpec)) orderChecksUptoCard

/-- THE SECOND FORM's CARD OF 'relayhouselaw26.OrderBegins'. -/
def orderBeginsUptoCard : Claim7 := { stood := { row := orderBeginsUptoRow, standIns := [], harness := (true, "716fdb6b54c565902436c7fd944bee532f139381542a7ef18c17b76c85164247"), looks := false }, kinds := [], alts := [], laidByText := true, laidKinds := [.data, .pinned], laidTests := true, laidLooks := .later }
def OrderBeginsUptoCardSaid : Prop := Claim7.holds Tryd.pinned (.plain (OpenSpec.upto orderBeginsSpec)) orderBeginsUptoCard

/-- THE SECOND FORM's CARD OF 'relayhouselaw26.OrderWants'. -/
def orderWantsUptoCard : Claim7 := { stood := { row := orderWantsUptoRow, standIns := [], harness := (true, "716fdb6b54c565902436c7fd944bee532f139381542a7ef18c17b76c85164247"), looks := false }, kinds := [], alts := [], laidByText := true, laidKinds := [.data, .pinned], laidTests := true, laidLooks := .later }
def OrderWantsUptoCardSaid : Prop := Claim7.holds Tryd.pinned (.plain (OpenSpec.upto orderWantsSpec)) orderWantsUptoCard

/-- THE SECOND FORM's CARD OF 'relayhouselaw26.OrderTells'. -/
def orderTellsUptoCard : Claim7 := { stood := { row := orderTellsUptoRow, standIns := [], harness := (true, "716fdb6b54c565902436c7fd944bee532f139381542a7ef18c17b76c85164247"), looks := false }, kinds := [], alts := [], laidByText := true, laidKinds := [.data, .pinned], laidTests := true, laidLooks := .later }
def OrderTellsUptoCardSaid : Prop := Claim7.holds Tryd.pinned (.plain (OpenSpec.upto orderTellsSpec)) orderTellsUptoCard

/-- THE SECOND FORM's CARD OF 'relayhouselaw26.OrderKnown'. -/
def orderKnownUptoCard : Claim7 := { stood := { row := orderKnownUptoRow, standIns := [], harness := (true, "716fdb6b54c565902436c7fd944bee532f139381542a7ef18c17b76c85164247"), looks := false }, kinds := [], alts := [], laidByText := true, laidKinds := [.data, .pinned], laidTests := true, laidLooks := .later }
def OrderKnownUptoCardSaid : Prop := Claim7.holds Tryd.pinned (.plain (OpenSpec.upto orderKnownSpec)) orderKnownUptoCard

/-- THE SECOND FORM's CARD OF 'relayhouselaw26.OrderLinear'. -/
def orderLinearUptoCard : Claim7 := { stood := { row := orderLinearUptoRow, standIns := [], harness := (true, "716fdb6b54c565902436c7fd944bee532f139381542a7ef18c17b76c85164247"), looks := false }, kinds := [], alts := [], laidByText := true, laidKinds := [.data, .pinned], laidTests := true, laidLooks := .later }
def OrderLinearUptoCardSaid : Prop := Claim7.holds Tryd.pinned (.plain (OpenSpec.upto orderLinearSpec)) orderLinearUptoCard
end Rows
end Go.Proofs.YtmppkgonkkffhaaDoor
