/- The walk of write's rest: a packet's rest behind bytes. Conditions: a packet that may be; its list in its cells; a row of bytes of the caller's own. -/
import Derived.Test.YtfljdlaelanliaaDoorWriteRest
namespace Go.Proofs.YtfljdlaelanliaaDoor
open Go.RowKit
end Go.Proofs.YtfljdlaelanliaaDoor
