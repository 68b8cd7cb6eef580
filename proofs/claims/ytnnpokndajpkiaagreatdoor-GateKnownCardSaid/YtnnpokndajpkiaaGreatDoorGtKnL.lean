import Derived.Test.YtnnpokndajpkiaaGreatDoorGtKn
import Derived.Test.YtnnpokndajpkiaaGreatDoorCard
namespace Go.Proofs.YtnnpokndajpkiaaGreatDoor
open Go.RowKit
theorem law20_GateKnown (w : World) (hE : Env w) : Calls Tryz.prog 6 #[] w fun e w' => e = .returned (.bool true) ∧ Below w.heap.size w w' := rdc_of hE gateKnownS
end Go.Proofs.YtnnpokndajpkiaaGreatDoor
