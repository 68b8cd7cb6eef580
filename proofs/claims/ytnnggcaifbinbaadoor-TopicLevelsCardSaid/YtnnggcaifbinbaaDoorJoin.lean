/- The walks of the joins, the program's and the reference's. Conditions: at most 2^47 texts, of together at most 2^47 bytes. -/
import Derived.Test.YtnnggcaifbinbaaDoorLawForms
import Derived.Test.YtnnggcaifbinbaaDoorShelf
namespace Go.Proofs.YtnnggcaifbinbaaDoor
open Go.RowKit

theorem joinL_lib : ∀ T : List Bs, joinL T = Lib.join T [47]
  | [] => rfl
  | [x] => by simp [joinL, Lib.join]
  | x :: y :: r => by
    have ih := joinL_lib (y :: r)
    unfold joinL
    rw [ih]
    simp [Lib.join]

theorem topic_Join (a : Option Addr) (c : Nat) (L : List ByteArray) (w : World) (hc : L.length ≤ c) (ha : CellsA w a (L.map Value.string)) (hN : L.length ≤ 140737488355328) (hlen : (joinL (L.map bl)).length ≤ 140737488355328) :
    Calls Tryd.prog 45 #[.slice a L.length c] w fun e w' => e = .returned (.string ⟨(joinL (L.map bl)).toArray⟩) ∧ Below w.heap.size w w' := by
  match L, hc, ha, hN, hlen with
  | [], _, _, _, _ =>
    have hJ := Lib.hid (Tryd.strings_Join_none a c ⟨#[47]⟩ w)
    go_enter Tryd.func45, Tryd.ntmps45
    go_wp2_with (first
      | (go_at_call 58; refine Calls.mono hJ.out ?_; rintro e w1 ⟨rfl, rfl⟩))
    go_ret
    exact ⟨rfl, Below.refl _ _⟩
  | x :: r, hc, ha, hN, hlen =>
    obtain ⟨b, o, rfl, hcell⟩ := ha.text (k := 0) (x := x) rfl
    have hcells : ∀ (j : Nat) y, (x :: r)[j]? = some y → w.cell? ⟨b, o + j, none⟩ = some (.string y) := by
      intro j y hy
      obtain ⟨b', o', h1, h2⟩ := ha.text hy
      simp only [Option.some.injEq, Addr.mk.injEq, and_true] at h1
      obtain ⟨rfl, rfl⟩ := h1
      exact h2
    have e : (x :: r).map (·.data.toList) = (x :: r).map bl := rfl
    have hJ := Lib.hid (Tryd.strings_Join b o c (x :: r) ⟨#[47]⟩ w hcells (World.block_lt_of_cell? _ _ hcell) hN hc (by rw [e, ← joinL_lib]; exact hlen))
    rw [e, show (ByteArray.mk #[47]).data.toList = [47] from rfl, ← joinL_lib] at hJ
    clear hcells hcell e
    generalize joinL ((x :: r).map bl) = J at *
    go_enter Tryd.func45, Tryd.ntmps45
    go_wp2_with (first
      | (go_at_call 58; refine Calls.mono hJ.out ?_; rintro e w1 ⟨rfl, hb⟩))
    go_ret
    exact ⟨rfl, hb⟩
end Go.Proofs.YtnnggcaifbinbaaDoor
