/- The arguments of law15's statements opened to cells: rows of acts, rows of filters, a filter by value. No condition. -/
import Derived.Test.YtbhmflkhcadaeaaDoorCardRows
import Derived.Test.YtbhmflkhcadaeaaDoorSubsActs
namespace Go.Proofs.YtbhmflkhcadaeaaDoor
open Go.RowKit Go.ChangeShapes Go.WideShapes Go.Deep
section
variable {H : Type} {enc : TypeId × Value → H} {W : World} {base : Nat} {spare : Nat → Bool} {held : Bool}
def sbV (x : Sb) : List Value := [.string x.1, .int .u8 (x.2 : Int)]
theorem sub_cells {fuel : Nat} {cs : List Value} {y : DataW H × List MemPlace} (h : DataW.trod enc Tryd.prog W base spare held fuel 33 cs = some y) : ∃ x : Sb, cs = sbV x ∧ x.2 < 256 ∧ x.1.size ≤ maxLen := by
  obtain ⟨xs, n, _, _, hlen, hxl, hf⟩ := DataW.trod_struct Tryd.underlying33 h
  have hl : cs.length = 2 := hlen.trans (by kernel_rfl)
  have hx2 : xs.length = 2 := hxl.trans (by kernel_rfl)
  match cs, hl, xs, hx2 with
  | [c0, c1], _, [y0, y1], _ =>
    have f0 : DataW.trod enc Tryd.prog W base spare held n 9 (([c0, c1].drop 0).take (Tryd.prog.cellsOf 9)) = some y0 := hf 0 _ rfl
    have f1 : DataW.trod enc Tryd.prog W base spare held n 5 (([c0, c1].drop 1).take (Tryd.prog.cellsOf 5)) = some y1 := hf 1 _ rfl
    rw [show Tryd.prog.cellsOf 9 = 1 by kernel_rfl] at f0
    rw [show Tryd.prog.cellsOf 5 = 1 by kernel_rfl] at f1
    obtain ⟨s, h1, _, h2⟩ := DataW.trod_string Tryd.underlying9 f0
    obtain ⟨k, h3, _, h4⟩ := DataW.trod_int Tryd.underlying5 f1
    obtain ⟨q, rfl, h5⟩ := nat_of_u8 h4
    simp at h1 h3
    exact ⟨(s, q), by rw [h1, h3]; rfl, h5, h2⟩
theorem act_cells {fuel : Nat} {cs : List Value} {y : DataW H × List MemPlace} (h : DataW.trod enc Tryd.prog W base spare held fuel 35 cs = some y) : ∃ x : Ac, cs = acV x ∧ x.q < 256 ∧ x.f.size ≤ maxLen ∧ x.n.size ≤ maxLen := by
  obtain ⟨xs, n, _, _, hlen, hxl, hf⟩ := DataW.trod_struct Tryd.underlying35 h
  have hl : cs.length = 4 := hlen.trans (by kernel_rfl)
  have hx2 : xs.length = 3 := hxl.trans (by kernel_rfl)
  match cs, hl, xs, hx2 with
  | [c0, c1, c2, c3], _, [y0, y1, y2], _ =>
    have f0 : DataW.trod enc Tryd.prog W base spare held n 5 (([c0, c1, c2, c3].drop 0).take (Tryd.prog.cellsOf 5)) = some y0 := hf 0 _ rfl
    have f1 : DataW.trod enc Tryd.prog W base spare held n 33 (([c0, c1, c2, c3].drop 1).take (Tryd.prog.cellsOf 33)) = some y1 := hf 1 _ rfl
    have f2 : DataW.trod enc Tryd.prog W base spare held n 9 (([c0, c1, c2, c3].drop 3).take (Tryd.prog.cellsOf 9)) = some y2 := hf 2 _ rfl
    rw [show Tryd.prog.cellsOf 9 = 1 by kernel_rfl] at f2
    rw [show Tryd.prog.cellsOf 5 = 1 by kernel_rfl] at f0
    rw [show Tryd.prog.cellsOf 33 = 2 by kernel_rfl] at f1
    obtain ⟨x, h1, h2, h3⟩ := sub_cells f1
    obtain ⟨s, h4, _, h5⟩ := DataW.trod_string Tryd.underlying9 f2
    obtain ⟨k, h6, _, h7⟩ := DataW.trod_int Tryd.underlying5 f0
    obtain ⟨d, rfl, _⟩ := nat_of_u8 h7
    unfold sbV at h1
    simp at h1 h4 h6
    exact ⟨⟨d, x.1, x.2, s⟩, by rw [h6, h1.1, h1.2, h4]; rfl, h2, h3, h5⟩

variable {v : Value} {d : DataW H} {p : List MemPlace}
theorem open_acts (h : DataW.Trod enc Tryd.prog W base spare held 22 v d p) (hv : ∃ a l c, v = .slice a l c) :
    ∃ a c L, v = .slice a L.length c ∧ L.length ≤ 9223372036854775807 ∧ CellsA W a (acCells L) ∧ ∀ x ∈ L, x.q < 256 := by
  obtain ⟨a0, l0, c0, rfl⟩ := hv
  obtain ⟨fuel, hf⟩ := h
  obtain ⟨a, c, L, hcs, _, h1, h2, h3, h4⟩ := open_rows (g := acV) (m := 4) (fun _ => rfl) (fun x => x.q < 256) Tryd.underlying22 (by kernel_rfl) (fun fuel cs y hy => by obtain ⟨x, h1, h2, _⟩ := act_cells hy; exact ⟨x, h1, h2⟩) hf
  simp [Value.cells] at hcs
  obtain ⟨rfl, rfl, rfl⟩ := hcs
  unfold maxLen at h2
  exact ⟨_, _, L, rfl, by omega, h3, h4⟩
theorem open_subs (h : DataW.Trod enc Tryd.prog W base spare held 28 v d p) (hv : ∃ a l c, v = .slice a l c) :
    ∃ a c L, v = .slice a L.length c ∧ (a = none → c = 0) ∧ L.length ≤ c ∧ L.length ≤ 9223372036854775807 ∧ CellsA W a (subCells L) ∧ ∀ x ∈ L, x.2 < 256 := by
  obtain ⟨a0, l0, c0, rfl⟩ := hv
  obtain ⟨fuel, hf⟩ := h
  obtain ⟨a, c, L, hcs, h0, h1, h2, h3, h4⟩ := open_rows (g := sbV) (m := 2) (fun _ => rfl) (fun x => x.2 < 256) Tryd.underlying28 (by kernel_rfl) (fun fuel cs y hy => by obtain ⟨x, h1, h2, _⟩ := sub_cells hy; exact ⟨x, h1, h2⟩) hf
  simp [Value.cells] at hcs
  obtain ⟨rfl, rfl, rfl⟩ := hcs
  unfold maxLen at h2
  exact ⟨_, _, L, rfl, h0, h1, by omega, h3, h4⟩
theorem open_sub (h : DataW.Trod enc Tryd.prog W base spare held 33 v d p) (hv : ∃ cs, v = .agg cs) : ∃ x : Sb, v = .agg #[.string x.1, .int .u8 (x.2 : Int)] ∧ x.2 < 256 ∧ x.1.size ≤ maxLen := by
  obtain ⟨cs, rfl⟩ := hv
  obtain ⟨fuel, hf⟩ := h
  obtain ⟨x, h1, h2⟩ := sub_cells hf
  refine ⟨x, ?_, h2⟩
  rw [Value.cells] at h1
  rw [show cs = (sbV x).toArray by rw [← h1]]
  rfl
end
end Go.Proofs.YtbhmflkhcadaeaaDoor
