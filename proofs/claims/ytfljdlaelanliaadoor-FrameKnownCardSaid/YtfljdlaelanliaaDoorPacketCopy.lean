/- The walk of the program's Copy: a packet in new memory. Conditions: a machine's bounds on the packet's sizes; its list in its cells. -/
import Derived.Test.YtfljdlaelanliaaDoorPacketSame
namespace Go.Proofs.YtfljdlaelanliaaDoor
open Go.RowKit
end Go.Proofs.YtfljdlaelanliaaDoor
