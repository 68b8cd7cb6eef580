/- A statement's argument opened to cells: a row of packets. No condition. -/
import Derived.Test.YtfljdlaelanliaaDoorCardPk
import Derived.Test.YtfljdlaelanliaaDoorWriteAll
namespace Go.Proofs.YtfljdlaelanliaaDoor
open Go.RowKit Go.ChangeShapes Go.WideShapes Go.Deep
section
variable {H : Type} {enc : TypeId × Value → H} {W : World} {base : Nat} {spare : Nat → Bool} {held : Bool} {v : Value} {d : DataW H} {p : List MemPlace}
set_option maxRecDepth 100000 in
theorem open_pks (h : DataW.Trod enc Tryd.prog W base spare held 33 v d p) (hv : ∃ a l c, v = .slice a l c) :
    ∃ (a : Option Addr) (c : Nat) (T : List PkE), v = .slice a T.length c ∧ (a = none → c = 0) ∧ T.length ≤ c ∧ T.length ≤ 9223372036854775807 ∧ CellsA W a (pkCells T) ∧ ∀ x ∈ T, PkArg W x.1 x.2.1 x.2.2 := by
  obtain ⟨a0, l0, c0, rfl⟩ := hv
  obtain ⟨fuel, hf⟩ := h
  obtain ⟨a, c, L, hcs, h0, h1, h2, h3, h4⟩ := open_rows (g := pkC) (m := 24) pkC_len (fun x => PkArg W x.1 x.2.1 x.2.2) Tryd.underlying33 (by kernel_rfl) (fun fuel cs y hy => by obtain ⟨q, a, c, h1, h2⟩ := pk_cells hy; exact ⟨(q, a, c), h1, h2⟩) hf
  simp [Value.cells] at hcs
  obtain ⟨rfl, rfl, rfl⟩ := hcs
  unfold maxLen at h2
  exact ⟨_, _, L, rfl, h0, h1, by omega, h3, h4⟩
end
end Go.Proofs.YtfljdlaelanliaaDoor
