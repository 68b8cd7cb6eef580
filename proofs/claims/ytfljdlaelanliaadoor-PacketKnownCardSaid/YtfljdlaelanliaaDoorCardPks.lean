/- A statement's argument opened to cells: a row of packets. No condition. -/
import Derived.Test.YtfljdlaelanliaaDoorCardPk
import Derived.Test.YtfljdlaelanliaaDoorWriteAll
namespace Go.Proofs.YtfljdlaelanliaaDoor
open Go.RowKit Go.ChangeShapes Go.WideShapes Go.Deep
section
variable {H : Type} {enc : TypeId × Value → H} {W : World} {base : Nat} {spare : Nat → Bool} {held : Bool} {v : Value} {d : DataW H} {p : List MemPlace}
end
end Go.Proofs.YtfljdlaelanliaaDoor
