import Derived.Test.YtnnpokndajpkiaaGreatDoorCardRows
import Derived.Test.YtnnpokndajpkiaaGreatDoorBase
namespace Go.Proofs.YtnnpokndajpkiaaGreatDoor
open Go.RowKit Go.ChangeShapes Go.WideShapes Go.Deep
theorem flat1 {α : Type} (f : α → Value) : ∀ L : List α, (L.flatMap fun x => [f x]) = L.map f
  | [] => rfl
  | x :: r => by rw [List.flatMap_cons, flat1 f r]; rfl
section
variable {H : Type} {enc : TypeId × Value → H} {W : World} {base : Nat} {spare : Nat → Bool} {held : Bool} {v : Value} {d : DataW H} {p : List MemPlace}
end
end Go.Proofs.YtnnpokndajpkiaaGreatDoor
