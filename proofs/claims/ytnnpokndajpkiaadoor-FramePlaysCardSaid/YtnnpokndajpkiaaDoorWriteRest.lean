import Derived.Test.YtnnpokndajpkiaaDoorJoinD
import Derived.Test.YtnnpokndajpkiaaDoorPacketSame
namespace Go.Proofs.YtnnpokndajpkiaaDoor
open Go.RowKit
theorem OnlyU.size {B : Nat} {w w' : World} (h : OnlyU B w w') : w.heap.size ≤ w'.heap.size := Only.size h
end Go.Proofs.YtnnpokndajpkiaaDoor
