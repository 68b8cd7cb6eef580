import Derived.Test.YtnnpokndajpkiaaGreatDoorJoinZC
namespace Go.Proofs.YtnnpokndajpkiaaGreatDoor
open Go.RowKit
attribute [local irreducible] Ok
theorem app_nil (x : ByteArray) : x ++ (⟨#[]⟩ : ByteArray) = x := ByteArray.append_empty
end Go.Proofs.YtnnpokndajpkiaaGreatDoor
