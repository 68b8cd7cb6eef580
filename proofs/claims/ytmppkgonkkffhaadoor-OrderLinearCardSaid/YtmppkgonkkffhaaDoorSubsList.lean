import Derived.Test.YtmppkgonkkffhaaDoorSubsFind
import Derived.Test.YtmppkgonkkffhaaDoorJoinA
namespace Go.Proofs.YtmppkgonkkffhaaDoor
open Go.RowKit
structure LAt (w : World) (B g : Nat) (v : Value) (S : List Sb) : Prop where
  blk : OneAt w g 110 v
  own : RowAt w B 77 2 v S.length (subCells S)
  lo : B ≤ g
structure Fine (S : List Sb) : Prop where
  sort : SortS S
  few : S.length ≤ 16
  good : ∀ x ∈ S, filterL (fB x) = true ∧ x.2 ≤ 2 ∧ x.1.size ≤ 300
theorem LAt.only {F : Nat → Prop} {w w' : World} {B g : Nat} {v : Value} {S : List Sb} (h : LAt w B g v S) (k : Only F w w') (h1 : ¬ F g) (h2 : ∀ r, v.ownBlock = some r → ¬ F r) : LAt w' B g v S :=
  ⟨h.blk.only k h1, h.own.only k h2, h.lo⟩
theorem LAt.below {w w' : World} {B g : Nat} {v : Value} {S : List Sb} (h : LAt w B g v S) (k : Below w.heap.size w w') : LAt w' B g v S :=
  h.only (Only.of_below k (fun _ => False)) (fun h => h) (fun _ _ h => h)
theorem subs_find (B g : Nat) (v : Value) (S : List Sb) (f : ByteArray) (w : World) (hL : LAt w B g v S) (hF : Fine S) :
    Calls Tryd.prog 63 #[.pointer (some ⟨g, 0, none⟩), .string f] w fun e w' =>
      e = .returned (.tuple #[.int .i64 (posS S (bl f) : Nat), .bool (atS S (bl f))]) ∧ Below w.heap.size w w' := by
  obtain ⟨a, c, rfl, hc, hcells⟩ := hL.own.form; have hcell := hL.blk.cell; have hfew := hF.few; have hS := Lib.hid (subs_search a c S f w hF.sort (by omega) hcells); generalize posS S (bl f) = p at *; generalize atS S (bl f) = t at *; clear hF hL; go_enter Tryd.func63, Tryd.ntmps63
  go_wp2_with (go_at_call 72; refine Calls.mono hS.out ?_; rintro e w1 ⟨rfl, hb⟩)
  go_ret2
  exact ⟨rfl, hb⟩
end Go.Proofs.YtmppkgonkkffhaaDoor
