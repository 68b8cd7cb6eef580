import Derived.Test.YtnnpokndajpkiaaGreatDoorGtHe
namespace Go.Proofs.YtnnpokndajpkiaaGreatDoor
open Go.RowKit
attribute [local irreducible] Ok
structure Ac where
  d : Nat
  cn : Int
  now : Int
  bs : ByteArray
  it : Im
end Go.Proofs.YtnnpokndajpkiaaGreatDoor
