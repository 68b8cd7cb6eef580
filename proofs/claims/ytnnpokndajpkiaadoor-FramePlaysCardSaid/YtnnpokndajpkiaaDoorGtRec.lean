import Derived.Test.YtnnpokndajpkiaaDoorJoinZA
import Derived.Test.YtnnpokndajpkiaaDoorJoinM
namespace Go.Proofs.YtnnpokndajpkiaaDoor
open Go.RowKit
attribute [local irreducible] Ok
abbrev PkG := Pk × Option Addr × Nat
def sbC (x : PkG) : Chk := rowO 46 2 (.slice x.2.1 x.1.subs.length x.2.2) x.1.subs.length (subCells x.1.subs)
end Go.Proofs.YtnnpokndajpkiaaDoor
