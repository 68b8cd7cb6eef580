import Derived.Test.YtnnpokndajpkiaaDoorBase
namespace Go.Proofs.YtnnpokndajpkiaaDoor
open Go.RowKit
def Whole (n : Int) : Prop := -9223372036854775808 ≤ n ∧ n < 9223372036854775808
end Go.Proofs.YtnnpokndajpkiaaDoor
