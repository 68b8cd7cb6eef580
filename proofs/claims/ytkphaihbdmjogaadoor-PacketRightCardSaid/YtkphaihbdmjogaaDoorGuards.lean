/- An operation that has a guard, walked as one without. No condition; nothing of the program is named. -/
import Derived.Test.YtkphaihbdmjogaaDoorKeep
namespace Go.Proofs.YtkphaihbdmjogaaDoor
open Go.RowKit
section
variable {P : Program} {ops : Array Oper} {rest : List Oper} {o : Oper} {a : Act} {w : World} {Q : Exit → Act → World → Prop}
/-- An operation whose guard lets it be done. -/
theorem wpList_free (hw : Region.wanted o (yielded ops a.tmps) = true) (h : wpList P ops Q ({ o with guard := none } :: rest) a w) : wpList P ops Q (o :: rest) a w := by
  unfold wpList at h ⊢
  rw [if_pos hw]
  have hw2 : Region.wanted { o with guard := none } (yielded ops a.tmps) = true := rfl
  rw [if_pos hw2] at h
  exact h
/-- An operation whose guard does not. -/
theorem wpList_left (hw : Region.wanted o (yielded ops a.tmps) = false) (h : wpList P ops Q rest (a.put o.dst undef) w) : wpList P ops Q (o :: rest) a w := by
  unfold wpList
  rw [if_neg (by rw [hw]; decide)]
  exact h
end
end Go.Proofs.YtkphaihbdmjogaaDoor
