/- Arguments opened to cells: a slice whose elements have several cells. No condition; nothing of the program is named. -/
import Derived.Test.YtfljdlaelanliaaDoorJoinA
import Derived.Deep.Slices
import Derived.Deep.Fields
import Derived.ChangeSame
import Derived.ProofKit
import Derived.OpenShut
namespace Go.Proofs.YtfljdlaelanliaaDoor
open Go.RowKit Go.ChangeShapes Go.WideShapes Go.Deep

section
variable {H : Type} {enc : TypeId × Value → H} {P : Program} {W : World} {base : Nat} {spare : Nat → Bool} {held : Bool}
end
end Go.Proofs.YtfljdlaelanliaaDoor
