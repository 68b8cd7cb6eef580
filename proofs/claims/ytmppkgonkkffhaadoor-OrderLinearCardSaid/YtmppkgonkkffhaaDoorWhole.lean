import Derived.Test.YtmppkgonkkffhaaDoorBase
namespace Go.Proofs.YtmppkgonkkffhaaDoor
open Go.RowKit
def Whole (n : Int) : Prop := -9223372036854775808 ≤ n ∧ n < 9223372036854775808
end Go.Proofs.YtmppkgonkkffhaaDoor
