import Derived.Test.YtmppkgonkkffhaaDoorSubsClear
import Derived.Test.YtmppkgonkkffhaaDoorSubsList
import Derived.Test.YtmppkgonkkffhaaDoorTopic2
import Derived.Laws.EntriesVeiled
import Derived.StillTailTactics
namespace Go.Proofs.YtmppkgonkkffhaaDoor
open Go.RowKit
structure RAt (w : World) (B g : Nat) (v : Value) (S : List Sb) : Prop where
  blk : OneAt w g 101 v
  own : RowAt w B 77 2 v S.length (subCells S)
  lo : B ≤ g
theorem RAt.only {F : Nat → Prop} {w w' : World} {B g : Nat} {v : Value} {S : List Sb} (h : RAt w B g v S) (k : Only F w w') (h1 : ¬ F g) (h2 : ∀ r, v.ownBlock = some r → ¬ F r) : RAt w' B g v S :=
  ⟨h.blk.only k h1, h.own.only k h2, h.lo⟩
theorem RAt.below {w w' : World} {B g : Nat} {v : Value} {S : List Sb} (h : RAt w B g v S) (k : Below w.heap.size w w') : RAt w' B g v S :=
  h.only (Only.of_below k (fun _ => False)) (fun h => h) (fun _ _ h => h)
end Go.Proofs.YtmppkgonkkffhaaDoor
