import Derived.Test.YtnnpokndajpkiaaDoorCardRows
import Derived.Test.YtnnpokndajpkiaaDoorBase
import Derived.Test.YtnnpokndajpkiaaDoorJoinD
namespace Go.Proofs.YtnnpokndajpkiaaDoor
open Go.RowKit Go.ChangeShapes Go.WideShapes Go.Deep
theorem flat1 {α : Type} (f : α → Value) : ∀ L : List α, (L.flatMap fun x => [f x]) = L.map f
  | [] => rfl
  | x :: r => by rw [List.flatMap_cons, flat1 f r]; rfl
section
variable {H : Type} {enc : TypeId × Value → H} {W : World} {base : Nat} {spare : Nat → Bool} {held : Bool} {v : Value} {d : DataW H} {p : List MemPlace}
set_option maxRecDepth 100000 in
theorem open_strs (h : DataW.Trod enc Tryd.prog W base spare held 27 v d p) (hv : ∃ a l c, v = .slice a l c) :
    ∃ (a : Option Addr) (c : Nat) (T : List ByteArray), v = .slice a T.length c ∧ T.length ≤ 9223372036854775807 ∧ CellsA W a (T.map Value.string) := by
  obtain ⟨a0, l0, c0, rfl⟩ := hv; obtain ⟨fuel, hf⟩ := h; obtain ⟨a, c, L, hcs, h0, h1, h2, h3, _⟩ := open_rows (g := fun x : ByteArray => [Value.string x]) (m := 1) (fun _ => rfl) (fun _ => True) Tryd.underlying27 (by kernel_rfl) (fun fuel cs y hy => by obtain ⟨x, h1, _, _⟩ := DataW.trod_string Tryd.underlying9 hy; exact ⟨x, h1, trivial⟩) hf; simp [Value.cells] at hcs
  obtain ⟨rfl, rfl, rfl⟩ := hcs; unfold maxLen at h2; rw [flat1] at h3; exact ⟨_, _, L, rfl, by omega, h3⟩
end
end Go.Proofs.YtnnpokndajpkiaaDoor
namespace Go.Proofs.YtnnpokndajpkiaaDoor
open Go.RowKit Go.ChangeShapes Go.WideShapes Go.Deep
section
variable {H : Type} {enc : TypeId × Value → H} {W : World} {base : Nat} {spare : Nat → Bool} {held : Bool} {v : Value} {d : DataW H} {p : List MemPlace}
set_option maxRecDepth 100000 in
theorem open_u8s (h : DataW.Trod enc Tryd.prog W base spare held 28 v d p) (hv : ∃ a l c, v = .slice a l c) :
    ∃ (a : Option Addr) (c : Nat) (T : Bs), v = .slice a T.length c ∧ T.length ≤ 9223372036854775807 ∧ CellsA W a (u8V T) := by
  obtain ⟨a0, l0, c0, rfl⟩ := hv; obtain ⟨fuel, hf⟩ := h; obtain ⟨a, c, L, hcs, h0, h1, h2, h3, _⟩ := open_rows (g := fun x : UInt8 => [Value.int .u8 (x.toNat : Int)]) (m := 1) (fun _ => rfl) (fun _ => True) Tryd.underlying28 (by kernel_rfl) (fun fuel cs y hy => by
    obtain ⟨i, e, _, g⟩ := DataW.trod_int Tryd.underlying5 hy; obtain ⟨s, rfl, b⟩ := nat_of_u8 g; exact ⟨UInt8.ofNat s, by rw [e, UInt8.toNat_ofNat_of_lt' b], trivial⟩) hf
  simp [Value.cells] at hcs
  obtain ⟨rfl, rfl, rfl⟩ := hcs; unfold maxLen at h2; rw [flat1] at h3; exact ⟨_, _, L, rfl, by omega, h3⟩
end
end Go.Proofs.YtnnpokndajpkiaaDoor
