/-
  DERIVED. GIVEN WITH THE SEED: THE CARDS: each row of YtbhmflkhcadaeaaDoorRows.lean that lists a variable, with what it lists TIED to the program's text (the seventh form; the later family's looks); each row that meets fmt, with fmt's text TOLD by the authors' own Lean function (tested against real Go, not proved from fmt's source: count such statements apart). THE CARD IS WHAT COUNTS. Prove the row's statement (the work); the ties are given (YtbhmflkhcadaeaaDoorTie.lean); close each card by the builder's one call (the guide's Derived/Test/ToyasCard.lean, 'card_holds'). Laid BY PROGRAM, IN A SANDBOX (cutbox-door.mjs). By AI agents, Wed Nov 11 2026. No macro, syntax, notation, axiom, sorry.
-/
import Derived.Test.YtbhmflkhcadaeaaDoorRows
import GoSem.ClaimSeven
namespace Go.Proofs.YtbhmflkhcadaeaaDoor
namespace Rows

/-- THE TIED CARD OF 'relayhouselaw15.SubsPlays'. -/
def subsPlaysCard : Claim7 := { stood := { row := subsPlaysRow, standIns := [], harness := (true, "7c9f3f2b9add151e8058ea6db9cfd2c7a688e39f16547ccd104ec3806765fcc1"), looks := false }, kinds := [], alts := [], laidByText := true, laidKinds := [.data, .pinned], laidTests := true, laidLooks := .later }
def SubsPlaysCardSaid : Prop := Claim7.holds Tryd.pinned (.plain (OpenSpec.ofChange subsPlaysSpec)) subsPlaysCard

/-- THE TIED CARD OF 'relayhouselaw15.SubsTells'. -/
def subsTellsCard : Claim7 := { stood := { row := subsTellsRow, standIns := [], harness := (true, "7c9f3f2b9add151e8058ea6db9cfd2c7a688e39f16547ccd104ec3806765fcc1"), looks := false }, kinds := [], alts := [], laidByText := true, laidKinds := [.data, .pinned], laidTests := true, laidLooks := .later }
def SubsTellsCardSaid : Prop := Claim7.holds Tryd.pinned (.plain (OpenSpec.ofChange subsTellsSpec)) subsTellsCard

/-- THE TIED CARD OF 'relayhouselaw15.SubsKnown'. -/
def subsKnownCard : Claim7 := { stood := { row := subsKnownRow, standIns := [], harness := (true, "7c9f3f2b9add151e8058ea6db9cfd2c7a688e39f16547ccd104ec3806765fcc1"), looks := false }, kinds := [], alts := [], laidByText := true, laidKinds := [.data, .pinned], laidTests := true, laidLooks := .later }
def SubsKnownCardSaid : Prop := Claim7.holds Tryd.pinned (.plain (OpenSpec.ofChange subsKnownSpec)) subsKnownCard

/-- THE TIED CARD OF 'relayhouselaw15.SubsTries'. -/
def subsTriesCard : Claim7 := { stood := { row := subsTriesRow, standIns := [], harness := (true, "7c9f3f2b9add151e8058ea6db9cfd2c7a688e39f16547ccd104ec3806765fcc1"), looks := false }, kinds := [], alts := [], laidByText := true, laidKinds := [.data, .pinned], laidTests := true, laidLooks := .later }
def SubsTriesCardSaid : Prop := Claim7.holds Tryd.pinned (.plain (OpenSpec.ofChange subsTriesSpec)) subsTriesCard

/-- THE TIED CARD OF 'relayhouselaw15.SubsBest'. -/
def subsBestCard : Claim7 := { stood := { row := subsBestRow, standIns := [], harness := (true, "7c9f3f2b9add151e8058ea6db9cfd2c7a688e39f16547ccd104ec3806765fcc1"), looks := false }, kinds := [], alts := [], laidByText := true, laidKinds := [.data, .pinned], laidTests := true, laidLooks := .later }
def SubsBestCardSaid : Prop := Claim7.holds Tryd.pinned (.plain (OpenSpec.ofChange subsBestSpec)) subsBestCard

/-- THE TIED CARD OF 'relayhouselaw15.SubsTurn'. -/
def subsTurnCard : Claim7 := { stood := { row := subsTurnRow, standIns := [], harness := (true, "7c9f3f2b9add151e8058ea6db9cfd2c7a688e39f16547ccd104ec3806765fcc1"), looks := false }, kinds := [], alts := [], laidByText := true, laidKinds := [.data, .pinned], laidTests := true, laidLooks := .later }
def SubsTurnCardSaid : Prop := Claim7.holds Tryd.pinned (.plain (OpenSpec.ofChange subsTurnSpec)) subsTurnCard

/-- THE SECOND FORM's CARD OF 'relayhouselaw15.SubsPlays'. -/
def subsPlaysUptoCard : Claim7 := { stood := { row := subsPlaysUptoRow, standIns := [], harness := (true, "7c9f3f2b9add151e8058ea6db9cfd2c7a688e39f16547ccd104ec3806765fcc1"), looks := false }, kinds := [], alts := [], laidByText := true, laidKinds := [.data, .pinned], laidTests := true, laidLooks := .later }
def SubsPlaysUptoCardSaid : Prop := Claim7.holds Tryd.pinned (.plain (OpenSpec.upto subsPlaysSpec)) subsPlaysUptoCard

/-- THE SECOND FORM's CARD OF 'relayhouselaw15.SubsTells'. -/
def subsTellsUptoCard : Claim7 := { stood := { row := subsTellsUptoRow, standIns := [], harness := (true, "7c9f3f2b9add151e8058ea6db9cfd2c7a688e39f16547ccd104ec3806765fcc1"), looks := false }, kinds := [], alts := [], laidByText := true, laidKinds := [.data, .pinned], laidTests := true, laidLooks := .later }
def SubsTellsUptoCardSaid : Prop := Claim7.holds Tryd.pinned (.plain (OpenSpec.upto subsTellsSpec)) subsTellsUptoCard

/-- THE SECOND FORM's CARD OF 'relayhouselaw15.SubsKnown'. -/
def subsKnownUptoCard : Claim7 := { stood := { row := subsKnownUptoRow, standIns := [], harness := (true, "7c9f3f2b9add151e8058ea6db9cfd2c7a688e39f16547ccd104ec3806765fcc1"), looks := false }, kinds := [], alts := [], laidByText := true, laidKinds := [.data, .pinned], laidTests := true, laidLooks := .later }
def SubsKnownUptoCardSaid : Prop := Claim7.holds Tryd.pinned (.plain (OpenSpec.upto subsKnownSpec)) subsKnownUptoCard

/-- THE SECOND FORM's CARD OF 'relayhouselaw15.SubsTries'. -/
def subsTriesUptoCard : Claim7 := { stood := { row := subsTriesUptoRow, standIns := [], harness := (true, "7c9f3f2b9add151e8058ea6db9cfd2c7a688e39f16547ccd104ec3806765fcc1"), looks := false }, kinds := [], alts := [], laidByText := true, laidKinds := [.data, .pinned], laidTests := true, laidLooks := .later }
def SubsTriesUptoCardSaid : Prop := Claim7.holds Tryd.pinned (.plain (OpenSpec.upto subsTriesSpec)) subsTriesUptoCard

/-- THE SECOND FORM's CARD OF 'relayhouselaw15.SubsBest'. -/
def subsBestUptoCard : Claim7 := { stood := { row := subsBestUptoRow, standIns := [], harness := (true, "7c9f3f2b9add151e8058ea6db9cfd2c7a688e39f16547ccd104ec3806765fcc1"), looks := false }, kinds := [], alts := [], laidByText := true, laidKinds := [.data, .pinned], laidTests := true, laidLooks := .later }
def SubsBestUptoCardSaid : Prop := Claim7.holds Tryd.pinned (.plain (OpenSpec.upto subsBestSpec)) subsBestUptoCard

/-- THE SECOND FORM's CARD OF 'relayhouselaw15.SubsTurn'. -/
def subsTurnUptoCard : Claim7 := { stood := { row := subsTurnUptoRow, standIns := [], harness := (true, "7c9f3f2b9add151e8058ea6db9cfd2c7a688e39f16547ccd104ec3806765fcc1"), looks := false }, kinds := [], alts := [], laidByText := true, laidKinds := [.data, .pinned], laidTests := true, laidLooks := .later }
def SubsTurnUptoCardSaid : Prop := Claim7.holds Tryd.pinned (.plain (OpenSpec.upto subsTurnSpec)) subsTurnUptoCard
end Rows
end Go.Proofs.YtbhmflkhcadaeaaDoor
