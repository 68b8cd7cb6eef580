import Derived.Test.YtnnpokndajpkiaaDoorWriteRest
import Derived.Deep.MidRow
namespace Go.Proofs.YtnnpokndajpkiaaDoor
open Go.RowKit
abbrev PkE := Pk × Option Addr × Nat
structure PkIn (w : World) (x : PkE) : Prop where
  ok : PkOk x.1
  row : CellsA w x.2.1 (subCells x.1.subs)
theorem PkIn.low {w : World} {x : PkE} (h : PkIn w x) : subCells x.1.subs ≠ [] → ∀ b o, x.2.1 = some ⟨b, o, none⟩ → b < w.heap.size := fun hne b o e => by
  cases hs : subCells x.1.subs with
  | nil => exact absurd hs hne
  | cons u r =>
    obtain ⟨b', o', e', hc⟩ := h.row 0 u (by rw [hs]; rfl); rw [e] at e'; injection e' with e'
    injection e' with e1 e2
    subst e1 e2; exact World.block_lt_of_cell? _ _ hc
end Go.Proofs.YtnnpokndajpkiaaDoor
