/- The arguments of statements opened to cells: a packet. No condition. -/
import Derived.Test.YtfljdlaelanliaaDoorCardRows
import Derived.Test.YtfljdlaelanliaaDoorJoinH
import Derived.Test.YtfljdlaelanliaaDoorJoinB
namespace Go.Proofs.YtfljdlaelanliaaDoor
open Go.RowKit Go.ChangeShapes Go.WideShapes Go.Deep
section
variable {H : Type} {enc : TypeId × Value → H} {W : World} {base : Nat} {spare : Nat → Bool} {held : Bool}
variable {v : Value} {d : DataW H} {p : List MemPlace}
end
end Go.Proofs.YtfljdlaelanliaaDoor
