import Derived.Test.YtnnpokndajpkiaaDoorJoinH
namespace Go.Proofs.YtnnpokndajpkiaaDoor
open Go.RowKit
theorem pk_one (p : Pk) (a : Option Addr) (c : Nat) : (pkV p a c).all (·.oneCell') = true := by unfold pkV; simp [Value.oneCell']
end Go.Proofs.YtnnpokndajpkiaaDoor
