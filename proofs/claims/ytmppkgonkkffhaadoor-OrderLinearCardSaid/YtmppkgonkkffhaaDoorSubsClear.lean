import Derived.Test.YtmppkgonkkffhaaDoorSubsDrop
namespace Go.Proofs.YtmppkgonkkffhaaDoor
open Go.RowKit
theorem subs_Drop (B g : Nat) (v : Value) (S : List Sb) (f : ByteArray) (w : World) (hL : LAt w B g v S) (hS : Fine S) (hB : B ≤ w.heap.size) :
    Calls Tryd.prog 45 #[.pointer (some ⟨g, 0, none⟩), .string f] w (RetDrop B g v (atS S (bl f)) (delS S (bl f)) w) := by
  cases hat : atS S (bl f) with
  | true => exact drop_there B g v S f w hL hS hB hat
  | false =>
    have h : delS S (bl f) = S := by unfold delS; rw [hat]; rfl
    rw [h]; exact drop_none B g v S f w hL hS hat
theorem subs_New (w : World) : Calls Tryd.prog 61 #[] w fun e w' => e = .returned (.pointer (some ⟨w.heap.size, 0, none⟩)) ∧ LAt w' w.heap.size w.heap.size (.slice none 0 0) [] ∧ Below w.heap.size w w' := by
  go_enter Tryd.func61, Tryd.ntmps61
  go_wp2_with fail
  go_ret
  exact ⟨rfl, ⟨OneAt.new _ _ _, RowAt.of_own (World.ownsRow_nil _ _ _ _), Nat.le_refl _⟩, by go_grown⟩
end Go.Proofs.YtmppkgonkkffhaaDoor
