import Derived.Test.YtnnpokndajpkiaaGreatDoorGtDr
import Derived.Test.YtnnpokndajpkiaaGreatDoorJoinZC
import Derived.Test.YtnnpokndajpkiaaGreatDoorJoinZA
namespace Go.Proofs.YtnnpokndajpkiaaGreatDoor
open Go.RowKit
attribute [local irreducible] Ok
def acI (i : Im) : Ac := ⟨0, 0, 0, ⟨#[]⟩, i⟩
def Ac.zero : Ac := acI Im.zero
theorem hear_hb {B D : Nat} {G : List Cn} (hG : GtGood B D G) (hD : D ≤ 900000000000000) {q : Ac} (hq : AcGood q) : ∀ k c n, getG (hearG G ([q.it].take k)) n = some c → c.drain.size ≤ 1000000000000000 ∧ c.sent.size ≤ 1000000000000000 := fun k c n hc => by
  have h3 : GtGood B (D + 4000000000) (hearG G ([q.it].take k)) := by
    cases k with
    | zero => exact fun c hc => (hG c hc).up (Nat.le_refl _) (by omega)
    | succ k =>
      have h := hear1_good hG hq; rw [show [q.it].take (k + 1) = [q.it] by simp]; exact h
  have h4 := h3 c (getG_mem hc).1; have h5 := h4.drain; have h6 := h4.sent; exact ⟨by omega, by omega⟩
end Go.Proofs.YtnnpokndajpkiaaGreatDoor
