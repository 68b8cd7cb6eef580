/- A text's byte at a place. No condition; nothing of the program is named. -/
import Derived.Test.YtfljdlaelanliaaDoorJoinD
import Derived.Test.YtfljdlaelanliaaDoorBase
import Derived.Laws.Bits64b
import Derived.Laws.BitsLemmas
import Derived.Test.YtfljdlaelanliaaDoorJoinE
import Derived.OwnWalk
import Derived.Test.YtfljdlaelanliaaDoorJoinI
import Derived.Test.YtfljdlaelanliaaDoorJoinC
import Derived.Test.YtfljdlaelanliaaDoorJoinH
namespace Go.Proofs.YtfljdlaelanliaaDoor
open Go.RowKit
end Go.Proofs.YtfljdlaelanliaaDoor

/- A word of its two bytes. No condition; nothing of the program is named. -/
namespace Go.Proofs.YtfljdlaelanliaaDoor
open Go.RowKit
end Go.Proofs.YtfljdlaelanliaaDoor

/- The walk of num.ReadLen at any bytes. Conditions: none. -/
namespace Go.Proofs.YtfljdlaelanliaaDoor
open Go.RowKit
end Go.Proofs.YtfljdlaelanliaaDoor

/- The walks of num.ReadWord, text.GetData, text.Get, read.First. Conditions: the decoder's tables lie as Go lays them; a machine's bound on the text's size. -/
namespace Go.Proofs.YtfljdlaelanliaaDoor
open Go.RowKit
end Go.Proofs.YtfljdlaelanliaaDoor

/- The walks of text.Get and of the cursor's methods (package read). Conditions: the cursor's cells are the first two of a block of the caller's own; a machine's bound on the text's size; the decoder's tables lie as Go lays them. -/
namespace Go.Proofs.YtfljdlaelanliaaDoor
open Go.RowKit
section
variable {w0 w : World} {X : Nat} {C : List Value} {T : TypeId} {B : List Box} {R : List Row}
end
end Go.Proofs.YtfljdlaelanliaaDoor

/- Small facts for the walks of package read. No condition; nothing of the program's functions is named. -/
namespace Go.Proofs.YtfljdlaelanliaaDoor
open Go.RowKit
section
variable {P : Program} {a : Act} {w : World} {Q : Exit → Act → World → Prop}
end
end Go.Proofs.YtfljdlaelanliaaDoor

