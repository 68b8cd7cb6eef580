import Derived.Test.YtnnpokndajpkiaaDoorJoinA
import Derived.Test.YtnnpokndajpkiaaDoorJoinI
import Derived.Laws.EntriesVeiled
namespace Go.Proofs.YtnnpokndajpkiaaDoor
open Go.RowKit
end Go.Proofs.YtnnpokndajpkiaaDoor
namespace Go.Proofs.YtnnpokndajpkiaaDoor
open Go.RowKit
structure LAt (w : World) (B g : Nat) (v : Value) (S : List Sb) : Prop where
  blk : OneAt w g 171 v
  own : RowAt w B 46 2 v S.length (subCells S)
  lo : B ≤ g
structure Fine (S : List Sb) : Prop where
  sort : SortS S
  few : S.length ≤ 16
  good : ∀ x ∈ S, filterL (fB x) = true ∧ x.2 ≤ 2 ∧ x.1.size ≤ 300
theorem LAt.only {F : Nat → Prop} {w w' : World} {B g : Nat} {v : Value} {S : List Sb} (h : LAt w B g v S) (k : Only F w w') (h1 : ¬ F g) (h2 : ∀ r, v.ownBlock = some r → ¬ F r) : LAt w' B g v S :=
  ⟨h.blk.only k h1, h.own.only k h2, h.lo⟩
theorem LAt.below {w w' : World} {B g : Nat} {v : Value} {S : List Sb} (h : LAt w B g v S) (k : Below w.heap.size w w') : LAt w' B g v S :=
  h.only (Only.of_below k (fun _ => False)) (fun h => h) (fun _ _ h => h)
end Go.Proofs.YtnnpokndajpkiaaDoor
namespace Go.Proofs.YtnnpokndajpkiaaDoor
open Go.RowKit
def Foot (g : Nat) (v : Value) (k : Nat) : Prop := k = g ∨ v.ownBlock = some k
def RetSet (B g : Nat) (v : Value) (code : Nat) (S' : List Sb) (w : World) (e : Ending) (w' : World) : Prop :=
  ∃ v', e = .returned (.int .u8 (code : Int)) ∧ LAt w' B g v' S' ∧ Only (Foot g v) w w' ∧ (∀ r, v'.ownBlock = some r → v.ownBlock = some r ∨ w.heap.size ≤ r)
theorem RetSet.same {B g : Nat} {v : Value} {S : List Sb} {code : Nat} {w w' : World} (hL : LAt w B g v S) (hb : Below w.heap.size w w') : RetSet B g v code S w (.returned (.int .u8 (code : Int))) w' :=
  ⟨v, rfl, hL.below hb, Only.of_below hb _, fun _r h => Or.inl h⟩
end Go.Proofs.YtnnpokndajpkiaaDoor
namespace Go.Proofs.YtnnpokndajpkiaaDoor
open Go.RowKit
end Go.Proofs.YtnnpokndajpkiaaDoor
namespace Go.Proofs.YtnnpokndajpkiaaDoor
open Go.RowKit
end Go.Proofs.YtnnpokndajpkiaaDoor
namespace Go.Proofs.YtnnpokndajpkiaaDoor
open Go.RowKit
end Go.Proofs.YtnnpokndajpkiaaDoor
