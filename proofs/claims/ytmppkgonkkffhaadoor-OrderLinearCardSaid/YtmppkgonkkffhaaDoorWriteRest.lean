import Derived.Test.YtmppkgonkkffhaaDoorJoinD
import Derived.Test.YtmppkgonkkffhaaDoorPacketSame
namespace Go.Proofs.YtmppkgonkkffhaaDoor
open Go.RowKit
theorem OnlyU.size {B : Nat} {w w' : World} (h : OnlyU B w w') : w.heap.size ≤ w'.heap.size := Only.size h
end Go.Proofs.YtmppkgonkkffhaaDoor
