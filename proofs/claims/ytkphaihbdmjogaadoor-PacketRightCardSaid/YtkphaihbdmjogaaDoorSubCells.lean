/- A row of filters in its cells. No condition; nothing of the program is named. -/
import Derived.Test.YtkphaihbdmjogaaDoorPlainSubs
import Derived.Test.YtkphaihbdmjogaaDoorHeap
namespace Go.Proofs.YtkphaihbdmjogaaDoor
open Go.RowKit

def subCells (S : List Sb) : List Value := S.flatMap fun x => [.string x.1, .int .u8 (x.2 : Int)]
theorem subCells_cons (x : Sb) (r : List Sb) : subCells (x :: r) = .string x.1 :: .int .u8 (x.2 : Int) :: subCells r := rfl
theorem subCells_append (A B : List Sb) : subCells (A ++ B) = subCells A ++ subCells B := List.flatMap_append
theorem subCells_len : ∀ S : List Sb, (subCells S).length = S.length * 2
  | [] => rfl
  | x :: r => by rw [subCells_cons, List.length_cons, List.length_cons, subCells_len r, List.length_cons]; omega
theorem subCells_at : ∀ (S : List Sb) (i : Nat) (x : Sb), S[i]? = some x → (subCells S)[i * 2]? = some (.string x.1) ∧ (subCells S)[i * 2 + 1]? = some (.int .u8 (x.2 : Int))
  | [], i, x, h => by simp at h
  | y :: r, 0, x, h => by simp at h; subst h; exact ⟨rfl, rfl⟩
  | y :: r, i + 1, x, h => by
    have ih := subCells_at r i x (by simpa using h)
    rw [subCells_cons, show (i + 1) * 2 = i * 2 + 1 + 1 by omega]
    exact ⟨by simpa using ih.1, by simpa using ih.2⟩
theorem CellsA.sub {w : World} {a : Option Addr} {S : List Sb} (h : CellsA w a (subCells S)) {i : Nat} {x : Sb} (hx : S[i]? = some x) :
    ∃ b o, a = some ⟨b, o, none⟩ ∧ w.cell? ⟨b, o + i * 2, none⟩ = some (.string x.1) ∧ w.cell? ⟨b, o + i * 2 + 1, none⟩ = some (.int .u8 (x.2 : Int)) := by
  obtain ⟨h1, h2⟩ := subCells_at S i x hx
  obtain ⟨b, o, rfl, hc⟩ := h _ _ h1
  obtain ⟨b', o', he, hc'⟩ := h _ _ h2
  injection he with he
  injection he with e1 e2
  subst e1 e2
  exact ⟨b, o, rfl, hc, by rw [← Nat.add_assoc] at hc'; exact hc'⟩
end Go.Proofs.YtkphaihbdmjogaaDoor
