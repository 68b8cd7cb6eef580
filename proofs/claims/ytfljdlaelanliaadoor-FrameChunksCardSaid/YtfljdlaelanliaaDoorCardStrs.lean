/- Statements' arguments opened to cells: rows of texts, of bytes, of truth values. No condition. -/
import Derived.Test.YtfljdlaelanliaaDoorCardRows
import Derived.Test.YtfljdlaelanliaaDoorBase
namespace Go.Proofs.YtfljdlaelanliaaDoor
open Go.RowKit Go.ChangeShapes Go.WideShapes Go.Deep
theorem flat1 {α : Type} (f : α → Value) : ∀ L : List α, (L.flatMap fun x => [f x]) = L.map f
  | [] => rfl
  | x :: r => by rw [List.flatMap_cons, flat1 f r]; rfl
section
variable {H : Type} {enc : TypeId × Value → H} {W : World} {base : Nat} {spare : Nat → Bool} {held : Bool} {v : Value} {d : DataW H} {p : List MemPlace}
set_option maxRecDepth 100000 in
theorem open_strs (h : DataW.Trod enc Tryd.prog W base spare held 29 v d p) (hv : ∃ a l c, v = .slice a l c) :
    ∃ (a : Option Addr) (c : Nat) (T : List ByteArray), v = .slice a T.length c ∧ T.length ≤ 9223372036854775807 ∧ CellsA W a (T.map Value.string) := by
  obtain ⟨a0, l0, c0, rfl⟩ := hv
  obtain ⟨fuel, hf⟩ := h
  obtain ⟨a, c, L, hcs, h0, h1, h2, h3, _⟩ := open_rows (g := fun x : ByteArray => [Value.string x]) (m := 1) (fun _ => rfl) (fun _ => True) Tryd.underlying29 (by kernel_rfl) (fun fuel cs y hy => by obtain ⟨x, h1, _, _⟩ := DataW.trod_string Tryd.underlying9 hy; exact ⟨x, h1, trivial⟩) hf
  simp [Value.cells] at hcs
  obtain ⟨rfl, rfl, rfl⟩ := hcs
  unfold maxLen at h2
  rw [flat1] at h3
  exact ⟨_, _, L, rfl, by omega, h3⟩
set_option maxRecDepth 100000 in
theorem open_bools (h : DataW.Trod enc Tryd.prog W base spare held 63 v d p) (hv : ∃ a l c, v = .slice a l c) :
    ∃ (a : Option Addr) (c : Nat) (T : List Bool), v = .slice a T.length c ∧ T.length ≤ 9223372036854775807 ∧ CellsA W a (T.map Value.bool) := by
  obtain ⟨a0, l0, c0, rfl⟩ := hv
  obtain ⟨fuel, hf⟩ := h
  obtain ⟨a, c, L, hcs, h0, h1, h2, h3, _⟩ := open_rows (g := fun x : Bool => [Value.bool x]) (m := 1) (fun _ => rfl) (fun _ => True) Tryd.underlying63 (by kernel_rfl) (fun fuel cs y hy => by obtain ⟨x, h1, _⟩ := DataW.trod_bool Tryd.underlying4 hy; exact ⟨x, h1, trivial⟩) hf
  simp [Value.cells] at hcs
  obtain ⟨rfl, rfl, rfl⟩ := hcs
  unfold maxLen at h2
  rw [flat1] at h3
  exact ⟨_, _, L, rfl, by omega, h3⟩
end
end Go.Proofs.YtfljdlaelanliaaDoor
