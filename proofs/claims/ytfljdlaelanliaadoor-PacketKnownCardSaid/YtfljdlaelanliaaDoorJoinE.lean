/- Plain mathematics of reading: any first byte, length and rest; what is cut; a longer length; other levels, other names. No program. -/
import Derived.Test.YtfljdlaelanliaaDoorJoinB
namespace Go.Proofs.YtfljdlaelanliaaDoor

end Go.Proofs.YtfljdlaelanliaaDoor

/- Plain mathematics of reading: what is read is what is written again, but for the length's own bytes. No program. -/
namespace Go.Proofs.YtfljdlaelanliaaDoor

end Go.Proofs.YtfljdlaelanliaaDoor

/- Plain mathematics of cutting bytes into packets: the same bytes in whatever pieces tell the same row. No program. -/
namespace Go.Proofs.YtfljdlaelanliaaDoor
end Go.Proofs.YtfljdlaelanliaaDoor

/- Plain mathematics: what a row of written packets tells, one by one. No program. -/
namespace Go.Proofs.YtfljdlaelanliaaDoor
end Go.Proofs.YtfljdlaelanliaaDoor

/- Plain mathematics: the bytes of a packet that is not great are few. No program. -/
namespace Go.Proofs.YtfljdlaelanliaaDoor
end Go.Proofs.YtfljdlaelanliaaDoor

