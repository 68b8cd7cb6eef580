/- The walk of the rest's connect (package read). Conditions: the rest's cells lie in a block of the caller's own; a machine's bound on the text's size; the decoder's tables lie as Go lays them. -/
import Derived.Test.YtfljdlaelanliaaDoorJoinG
namespace Go.Proofs.YtfljdlaelanliaaDoor
open Go.RowKit
end Go.Proofs.YtfljdlaelanliaaDoor
