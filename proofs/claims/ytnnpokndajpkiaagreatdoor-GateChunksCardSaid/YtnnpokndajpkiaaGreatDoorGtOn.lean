import Derived.Test.YtnnpokndajpkiaaGreatDoorGtDr
import Derived.Test.YtnnpokndajpkiaaGreatDoorJoinZC
namespace Go.Proofs.YtnnpokndajpkiaaGreatDoor
open Go.RowKit
attribute [local irreducible] Ok
theorem read_mails (m W : Nat) (c : Cn) (now ops : Int) : (readC m W c now ops).2.1.length ≤ 1 := by
  have h1 : ∀ c, (cutR W c ops).2.1.length ≤ 1 := fun c => by
    unfold cutR; split
    · exact Nat.le_refl _
    · exact Nat.zero_le _
  have h2 : ∀ c p, (liveR W c p ops).2.1.length ≤ 1 := fun c p => by
    unfold liveR; repeat (first | exact Nat.zero_le _ | exact Nat.le_refl _ | split)
  have h3 : ∀ c p, (freshR W c p ops).2.1.length ≤ 1 := fun c p => by
    unfold freshR; split
    · exact Nat.le_refl _
    · exact Nat.zero_le _
  unfold readC; split
  · exact Nat.zero_le _
  split
  · exact h1 _
  split
  · split
    · exact h2 _ _
    · exact h3 _ _
  split
  · exact h1 _
  · exact Nat.zero_le _
theorem ml_range {w : World} {v : Value} {M : List MlG} (h : (rowO 51 40 v M.length (mlCs M)).is w) {j : Nat} {x : MlG} (hx : M[j]? = some x) : ∃ g c, v = .slice (some ⟨g, 0, none⟩) M.length c := by
  rcases h.2 with ⟨_, h3⟩ | ⟨g, cap, cur, h2, _⟩
  · have hl := (List.getElem?_eq_some_iff.1 hx).1
    omega
  · exact ⟨g, cap, h2⟩
theorem ml_at {w : World} {g c : Nat} {M : List MlG} (h : (rowO 51 40 (.slice (some ⟨g, 0, none⟩) M.length c) M.length (mlCs M)).is w) {j : Nat} {x : MlG} (hx : M[j]? = some x) : w.rangeAt g (0 + j * 40) (mlC x) := by
  obtain ⟨b, o, e, hj⟩ := CellsA.elem (g := mlC) (m := 40) (fun _ => rfl) (own_cells (show w.ownsRow 0 51 40 _ M.length (mlCs M) from h)) hx (.int .i64 x.1.dst) rfl; injection e with e
  injection e with e1 e2
  subst e1 e2; exact fun j v hv => hj j v hv
end Go.Proofs.YtnnpokndajpkiaaGreatDoor
