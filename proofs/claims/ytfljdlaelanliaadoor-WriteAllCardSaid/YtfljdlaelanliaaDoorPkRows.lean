/- Rows of packets as cells: what an append of them asks. No condition. -/
import Derived.Test.YtfljdlaelanliaaDoorPlainRow
import Derived.Test.YtfljdlaelanliaaDoorLaw04Great
namespace Go.Proofs.YtfljdlaelanliaaDoor
open Go.RowKit
theorem pkCells_len : ∀ T : List PkE, (pkCells T).length = T.length * 24
  | [] => rfl
  | x :: r => by
    have ih := pkCells_len r
    unfold pkCells at *
    rw [List.flatMap_cons, List.length_append, ih, pkC_len, List.length_cons]
    omega
theorem pkCells_append (A B : List PkE) : pkCells (A ++ B) = pkCells A ++ pkCells B := by unfold pkCells; rw [List.flatMap_append]
theorem pkC_one (x : PkE) : ∀ u ∈ pkC x, u.oneCell' = true := by
  intro u hu
  unfold pkC pkV at hu
  simp only [List.mem_cons, List.not_mem_nil, or_false] at hu
  rcases hu with rfl | rfl | rfl | rfl | rfl | rfl | rfl | rfl | rfl | rfl | rfl | rfl | rfl | rfl | rfl | rfl | rfl | rfl | rfl | rfl | rfl | rfl | rfl | rfl <;> rfl
theorem pkCells_one (T : List PkE) : ∀ u ∈ pkCells T, u.oneCell' = true := by
  intro u hu
  unfold pkCells at hu
  obtain ⟨x, _, h⟩ := List.mem_flatMap.1 hu
  exact pkC_one x u h
end Go.Proofs.YtfljdlaelanliaaDoor
