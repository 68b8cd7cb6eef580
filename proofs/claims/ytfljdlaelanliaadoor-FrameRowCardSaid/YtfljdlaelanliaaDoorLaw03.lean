/- Small functions of law03: rest, topic, filter, awake. Conditions: the decoder's tables lie as Go lays them; a machine's bounds on the packet's sizes; its list in its cells. -/
import Derived.Test.YtfljdlaelanliaaDoorPacketCopy
import Derived.Test.YtfljdlaelanliaaDoorJoinB
namespace Go.Proofs.YtfljdlaelanliaaDoor
open Go.RowKit

end Go.Proofs.YtfljdlaelanliaaDoor
