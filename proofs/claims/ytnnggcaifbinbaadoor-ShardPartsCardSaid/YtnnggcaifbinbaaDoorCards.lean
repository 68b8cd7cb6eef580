/-
  DERIVED. GIVEN WITH THE SEED: THE CARDS: each row of YtnnggcaifbinbaaDoorRows.lean that lists a variable, with what it lists TIED to the program's text (the seventh form; the later family's looks); each row that meets fmt, with fmt's text TOLD by the authors' own Lean function (tested against real Go, not proved from fmt's source: count such statements apart). THE CARD IS WHAT COUNTS. Prove the row's statement (the work); the ties are given (YtnnggcaifbinbaaDoorTie.lean); close each card by the builder's one call (the guide's Derived/Test/ToyasCard.lean, 'card_holds'). Laid BY PROGRAM, IN A SANDBOX (cutbox-door.mjs). By AI agents, Wed Nov 11 2026. No macro, syntax, notation, axiom, sorry.
-/
import Derived.Test.YtnnggcaifbinbaaDoorRows
import GoSem.ClaimSeven
namespace Go.Proofs.YtnnggcaifbinbaaDoor
namespace Rows

/-- THE TIED CARD OF 'relayhouselaw07.TopicMatches'. -/
def topicMatchesCard : Claim7 := { stood := { row := topicMatchesRow, standIns := [], harness := (true, "f1d0a19c140a14cc347ce249d9baa566b9f6f613f8a5af8fff2f35c15bed931f"), looks := false }, kinds := [], alts := [], laidByText := true, laidKinds := [.data, .pinned], laidTests := true, laidLooks := .later }
def TopicMatchesCardSaid : Prop := Claim7.holds Tryd.pinned (.plain (OpenSpec.ofChange topicMatchesSpec)) topicMatchesCard

/-- THE TIED CARD OF 'relayhouselaw07.TopicOrder'. -/
def topicOrderCard : Claim7 := { stood := { row := topicOrderRow, standIns := [], harness := (true, "f1d0a19c140a14cc347ce249d9baa566b9f6f613f8a5af8fff2f35c15bed931f"), looks := false }, kinds := [], alts := [], laidByText := true, laidKinds := [.data, .pinned], laidTests := true, laidLooks := .later }
def TopicOrderCardSaid : Prop := Claim7.holds Tryd.pinned (.plain (OpenSpec.ofChange topicOrderSpec)) topicOrderCard

/-- THE TIED CARD OF 'relayhouselaw07.TopicForms'. -/
def topicFormsCard : Claim7 := { stood := { row := topicFormsRow, standIns := [], harness := (true, "f1d0a19c140a14cc347ce249d9baa566b9f6f613f8a5af8fff2f35c15bed931f"), looks := false }, kinds := [], alts := [], laidByText := true, laidKinds := [.data, .pinned], laidTests := true, laidLooks := .later }
def TopicFormsCardSaid : Prop := Claim7.holds Tryd.pinned (.plain (OpenSpec.ofChange topicFormsSpec)) topicFormsCard

/-- THE TIED CARD OF 'relayhouselaw08.ShardHash'. -/
def shardHashCard : Claim7 := { stood := { row := shardHashRow, standIns := [], harness := (true, "f1d0a19c140a14cc347ce249d9baa566b9f6f613f8a5af8fff2f35c15bed931f"), looks := false }, kinds := [], alts := [], laidByText := true, laidKinds := [.data, .pinned], laidTests := true, laidLooks := .later }
def ShardHashCardSaid : Prop := Claim7.holds Tryd.pinned (.plain (OpenSpec.ofChange shardHashSpec)) shardHashCard

/-- THE TIED CARD OF 'relayhouselaw08.ShardParts'. -/
def shardPartsCard : Claim7 := { stood := { row := shardPartsRow, standIns := [], harness := (true, "f1d0a19c140a14cc347ce249d9baa566b9f6f613f8a5af8fff2f35c15bed931f"), looks := false }, kinds := [], alts := [], laidByText := true, laidKinds := [.data, .pinned], laidTests := true, laidLooks := .later }
def ShardPartsCardSaid : Prop := Claim7.holds Tryd.pinned (.plain (OpenSpec.ofChange shardPartsSpec)) shardPartsCard

/-- THE TIED CARD OF 'relayhouselaw08.ShardSpots'. -/
def shardSpotsCard : Claim7 := { stood := { row := shardSpotsRow, standIns := [], harness := (true, "f1d0a19c140a14cc347ce249d9baa566b9f6f613f8a5af8fff2f35c15bed931f"), looks := false }, kinds := [], alts := [], laidByText := true, laidKinds := [.data, .pinned], laidTests := true, laidLooks := .later }
def ShardSpotsCardSaid : Prop := Claim7.holds Tryd.pinned (.plain (OpenSpec.ofChange shardSpotsSpec)) shardSpotsCard

/-- THE TIED CARD OF 'relayhouselaw08.ShardKnown'. -/
def shardKnownCard : Claim7 := { stood := { row := shardKnownRow, standIns := [], harness := (true, "f1d0a19c140a14cc347ce249d9baa566b9f6f613f8a5af8fff2f35c15bed931f"), looks := false }, kinds := [], alts := [], laidByText := true, laidKinds := [.data, .pinned], laidTests := true, laidLooks := .later }
def ShardKnownCardSaid : Prop := Claim7.holds Tryd.pinned (.plain (OpenSpec.ofChange shardKnownSpec)) shardKnownCard

/-- THE TIED CARD OF 'relayhouselaw08.ShardOne'. -/
def shardOneCard : Claim7 := { stood := { row := shardOneRow, standIns := [], harness := (true, "f1d0a19c140a14cc347ce249d9baa566b9f6f613f8a5af8fff2f35c15bed931f"), looks := false }, kinds := [], alts := [], laidByText := true, laidKinds := [.data, .pinned], laidTests := true, laidLooks := .later }
def ShardOneCardSaid : Prop := Claim7.holds Tryd.pinned (.plain (OpenSpec.ofChange shardOneSpec)) shardOneCard

/-- THE TIED CARD OF 'relayhouselaw08.ShardTakes'. -/
def shardTakesCard : Claim7 := { stood := { row := shardTakesRow, standIns := [], harness := (true, "f1d0a19c140a14cc347ce249d9baa566b9f6f613f8a5af8fff2f35c15bed931f"), looks := false }, kinds := [], alts := [], laidByText := true, laidKinds := [.data, .pinned], laidTests := true, laidLooks := .later }
def ShardTakesCardSaid : Prop := Claim7.holds Tryd.pinned (.plain (OpenSpec.ofChange shardTakesSpec)) shardTakesCard

/-- THE TIED CARD OF 'relayhouselaw07.TopicJoins'. -/
def topicJoinsCard : Claim7 := { stood := { row := topicJoinsRow, standIns := [], harness := (true, "f1d0a19c140a14cc347ce249d9baa566b9f6f613f8a5af8fff2f35c15bed931f"), looks := false }, kinds := [], alts := [], laidByText := true, laidKinds := [.data, .pinned], laidTests := true, laidLooks := .later }
def TopicJoinsCardSaid : Prop := Claim7.holds Tryd.pinned (.plain (OpenSpec.ofChange topicJoinsSpec)) topicJoinsCard

/-- THE TIED CARD OF 'relayhouselaw07.TopicLevels'. -/
def topicLevelsCard : Claim7 := { stood := { row := topicLevelsRow, standIns := [], harness := (true, "f1d0a19c140a14cc347ce249d9baa566b9f6f613f8a5af8fff2f35c15bed931f"), looks := false }, kinds := [], alts := [], laidByText := true, laidKinds := [.data, .pinned], laidTests := true, laidLooks := .later }
def TopicLevelsCardSaid : Prop := Claim7.holds Tryd.pinned (.plain (OpenSpec.ofChange topicLevelsSpec)) topicLevelsCard

/-- THE TIED CARD OF 'relayhouselaw07.TopicKnown'. -/
def topicKnownCard : Claim7 := { stood := { row := topicKnownRow, standIns := [], harness := (true, "f1d0a19c140a14cc347ce249d9baa566b9f6f613f8a5af8fff2f35c15bed931f"), looks := false }, kinds := [], alts := [], laidByText := true, laidKinds := [.data, .pinned], laidTests := true, laidLooks := .later }
def TopicKnownCardSaid : Prop := Claim7.holds Tryd.pinned (.plain (OpenSpec.ofChange topicKnownSpec)) topicKnownCard

/-- THE SECOND FORM's CARD OF 'relayhouselaw07.TopicMatches'. -/
def topicMatchesUptoCard : Claim7 := { stood := { row := topicMatchesUptoRow, standIns := [], harness := (true, "f1d0a19c140a14cc347ce249d9baa566b9f6f613f8a5af8fff2f35c15bed931f"), looks := false }, kinds := [], alts := [], laidByText := true, laidKinds := [.data, .pinned], laidTests := true, laidLooks := .later }
def TopicMatchesUptoCardSaid : Prop := Claim7.holds Tryd.pinned (.plain (OpenSpec.upto topicMatchesSpec)) topicMatchesUptoCard

/-- THE SECOND FORM's CARD OF 'relayhouselaw07.TopicOrder'. -/
def topicOrderUptoCard : Claim7 := { stood := { row := topicOrderUptoRow, standIns := [], harness := (true, "f1d0a19c140a14cc347ce249d9baa566b9f6f613f8a5af8fff2f35c15bed931f"), looks := false }, kinds := [], alts := [], laidByText := true, laidKinds := [.data, .pinned], laidTests := true, laidLooks := .later }
def TopicOrderUptoCardSaid : Prop := Claim7.holds Tryd.pinned (.plain (OpenSpec.upto topicOrderSpec)) topicOrderUptoCard

/-- THE SECOND FORM's CARD OF 'relayhouselaw07.TopicForms'. -/
def topicFormsUptoCard : Claim7 := { stood := { row := topicFormsUptoRow, standIns := [], harness := (true, "f1d0a19c140a14cc347ce249d9baa566b9f6f613f8a5af8fff2f35c15bed931f"), looks := false }, kinds := [], alts := [], laidByText := true, laidKinds := [.data, .pinned], laidTests := true, laidLooks := .later }
def TopicFormsUptoCardSaid : Prop := Claim7.holds Tryd.pinned (.plain (OpenSpec.upto topicFormsSpec)) topicFormsUptoCard

/-- THE SECOND FORM's CARD OF 'relayhouselaw08.ShardHash'. -/
def shardHashUptoCard : Claim7 := { stood := { row := shardHashUptoRow, standIns := [], harness := (true, "f1d0a19c140a14cc347ce249d9baa566b9f6f613f8a5af8fff2f35c15bed931f"), looks := false }, kinds := [], alts := [], laidByText := true, laidKinds := [.data, .pinned], laidTests := true, laidLooks := .later }
def ShardHashUptoCardSaid : Prop := Claim7.holds Tryd.pinned (.plain (OpenSpec.upto shardHashSpec)) shardHashUptoCard

/-- THE SECOND FORM's CARD OF 'relayhouselaw08.ShardParts'. -/
def shardPartsUptoCard : Claim7 := { stood := { row := shardPartsUptoRow, standIns := [], harness := (true, "f1d0a19c140a14cc347ce249d9baa566b9f6f613f8a5af8fff2f35c15bed931f"), looks := false }, kinds := [], alts := [], laidByText := true, laidKinds := [.data, .pinned], laidTests := true, laidLooks := .later }
def ShardPartsUptoCardSaid : Prop := Claim7.holds Tryd.pinned (.plain (OpenSpec.upto shardPartsSpec)) shardPartsUptoCard

/-- THE SECOND FORM's CARD OF 'relayhouselaw08.ShardSpots'. -/
def shardSpotsUptoCard : Claim7 := { stood := { row := shardSpotsUptoRow, standIns := [], harness := (true, "f1d0a19c140a14cc347ce249d9baa566b9f6f613f8a5af8fff2f35c15bed931f"), looks := false }, kinds := [], alts := [], laidByText := true, laidKinds := [.data, .pinned], laidTests := true, laidLooks := .later }
def ShardSpotsUptoCardSaid : Prop := Claim7.holds Tryd.pinned (.plain (OpenSpec.upto shardSpotsSpec)) shardSpotsUptoCard

/-- THE SECOND FORM's CARD OF 'relayhouselaw08.ShardKnown'. -/
def shardKnownUptoCard : Claim7 := { stood := { row := shardKnownUptoRow, standIns := [], harness := (true, "f1d0a19c140a14cc347ce249d9baa566b9f6f613f8a5af8fff2f35c15bed931f"), looks := false }, kinds := [], alts := [], laidByText := true, laidKinds := [.data, .pinned], laidTests := true, laidLooks := .later }
def ShardKnownUptoCardSaid : Prop := Claim7.holds Tryd.pinned (.plain (OpenSpec.upto shardKnownSpec)) shardKnownUptoCard

/-- THE SECOND FORM's CARD OF 'relayhouselaw08.ShardOne'. -/
def shardOneUptoCard : Claim7 := { stood := { row := shardOneUptoRow, standIns := [], harness := (true, "f1d0a19c140a14cc347ce249d9baa566b9f6f613f8a5af8fff2f35c15bed931f"), looks := false }, kinds := [], alts := [], laidByText := true, laidKinds := [.data, .pinned], laidTests := true, laidLooks := .later }
def ShardOneUptoCardSaid : Prop := Claim7.holds Tryd.pinned (.plain (OpenSpec.upto shardOneSpec)) shardOneUptoCard

/-- THE SECOND FORM's CARD OF 'relayhouselaw08.ShardTakes'. -/
def shardTakesUptoCard : Claim7 := { stood := { row := shardTakesUptoRow, standIns := [], harness := (true, "f1d0a19c140a14cc347ce249d9baa566b9f6f613f8a5af8fff2f35c15bed931f"), looks := false }, kinds := [], alts := [], laidByText := true, laidKinds := [.data, .pinned], laidTests := true, laidLooks := .later }
def ShardTakesUptoCardSaid : Prop := Claim7.holds Tryd.pinned (.plain (OpenSpec.upto shardTakesSpec)) shardTakesUptoCard

/-- THE SECOND FORM's CARD OF 'relayhouselaw07.TopicJoins'. -/
def topicJoinsUptoCard : Claim7 := { stood := { row := topicJoinsUptoRow, standIns := [], harness := (true, "f1d0a19c140a14cc347ce249d9baa566b9f6f613f8a5af8fff2f35c15bed931f"), looks := false }, kinds := [], alts := [], laidByText := true, laidKinds := [.data, .pinned], laidTests := true, laidLooks := .later }
def TopicJoinsUptoCardSaid : Prop := Claim7.holds Tryd.pinned (.plain (OpenSpec.upto topicJoinsSpec)) topicJoinsUptoCard

/-- THE SECOND FORM's CARD OF 'relayhouselaw07.TopicLevels'. -/
def topicLevelsUptoCard : Claim7 := { stood := { row := topicLevelsUptoRow, standIns := [], harness := (true, "f1d0a19c140a14cc347ce249d9baa566b9f6f613f8a5af8fff2f35c15bed931f"), looks := false }, kinds := [], alts := [], laidByText := true, laidKinds := [.data, .pinned], laidTests := true, laidLooks := .later }
def TopicLevelsUptoCardSaid : Prop := Claim7.holds Tryd.pinned (.plain (OpenSpec.upto topicLevelsSpec)) topicLevelsUptoCard

/-- THE SECOND FORM's CARD OF 'relayhouselaw07.TopicKnown'. -/
def topicKnownUptoCard : Claim7 := { stood := { row := topicKnownUptoRow, standIns := [], harness := (true, "f1d0a19c140a14cc347ce249d9baa566b9f6f613f8a5af8fff2f35c15bed931f"), looks := false }, kinds := [], alts := [], laidByText := true, laidKinds := [.data, .pinned], laidTests := true, laidLooks := .later }
def TopicKnownUptoCardSaid : Prop := Claim7.holds Tryd.pinned (.plain (OpenSpec.upto topicKnownSpec)) topicKnownUptoCard
end Rows
end Go.Proofs.YtnnggcaifbinbaaDoor
