/- The arguments of statements opened to cells: a packet. No condition. -/
import Derived.Test.YtmppkgonkkffhaaDoorCardRows
import Derived.Test.YtmppkgonkkffhaaDoorJoinH
import Derived.Test.YtmppkgonkkffhaaDoorJoinB
namespace Go.Proofs.YtmppkgonkkffhaaDoor
open Go.RowKit Go.ChangeShapes Go.WideShapes Go.Deep
section
variable {H : Type} {enc : TypeId × Value → H} {W : World} {base : Nat} {spare : Nat → Bool} {held : Bool}
def sbV (x : Sb) : List Value := [.string x.1, .int .u8 (x.2 : Int)]
set_option maxRecDepth 100000 in
theorem sub_cells {fuel : Nat} {cs : List Value} {y : DataW H × List MemPlace} (h : DataW.trod enc Tryd.prog W base spare held fuel 77 cs = some y) : ∃ x : Sb, cs = sbV x ∧ x.2 < 256 ∧ x.1.size ≤ maxLen := by
  obtain ⟨xs, n, _, _, hlen, hxl, hf⟩ := DataW.trod_struct Tryd.underlying77 h
  have hl : cs.length = 2 := hlen.trans (by kernel_rfl)
  have hx2 : xs.length = 2 := hxl.trans (by kernel_rfl)
  match cs, hl, xs, hx2 with
  | [c0, c1], _, [y0, y1], _ =>
    have f0 : DataW.trod enc Tryd.prog W base spare held n 9 (([c0, c1].drop 0).take (Tryd.prog.cellsOf 9)) = some y0 := hf 0 _ rfl
    have f1 : DataW.trod enc Tryd.prog W base spare held n 5 (([c0, c1].drop 1).take (Tryd.prog.cellsOf 5)) = some y1 := hf 1 _ rfl
    rw [show Tryd.prog.cellsOf 9 = 1 by kernel_rfl] at f0
    rw [show Tryd.prog.cellsOf 5 = 1 by kernel_rfl] at f1
    obtain ⟨s, h1, _, h2⟩ := DataW.trod_string Tryd.underlying9 f0
    obtain ⟨k, h3, _, h4⟩ := DataW.trod_int Tryd.underlying5 f1
    obtain ⟨q, rfl, h5⟩ := nat_of_u8 h4
    simp at h1 h3
    exact ⟨(s, q), by rw [h1, h3]; rfl, h5, h2⟩
set_option maxRecDepth 100000 in
theorem msg_cells {fuel : Nat} {cs : List Value} {y : DataW H × List MemPlace} (h : DataW.trod enc Tryd.prog W base spare held fuel 30 cs = some y) : ∃ (t p : ByteArray) (q : Nat) (r : Bool), cs = [.string t, .string p, .int .u8 (q : Int), .bool r] ∧ q < 256 := by
  obtain ⟨xs, n, _, _, hlen, hxl, hf⟩ := DataW.trod_struct Tryd.underlying30 h
  have hl : cs.length = 4 := hlen.trans (by kernel_rfl)
  have hx2 : xs.length = 4 := hxl.trans (by kernel_rfl)
  match cs, hl, xs, hx2 with
  | [c0, c1, c2, c3], _, [y0, y1, y2, y3], _ =>
    have f0 : DataW.trod enc Tryd.prog W base spare held n 9 (([c0, c1, c2, c3].drop 0).take (Tryd.prog.cellsOf 9)) = some y0 := hf 0 _ rfl
    have f1 : DataW.trod enc Tryd.prog W base spare held n 9 (([c0, c1, c2, c3].drop 1).take (Tryd.prog.cellsOf 9)) = some y1 := hf 1 _ rfl
    have f2 : DataW.trod enc Tryd.prog W base spare held n 5 (([c0, c1, c2, c3].drop 2).take (Tryd.prog.cellsOf 5)) = some y2 := hf 2 _ rfl
    have f3 : DataW.trod enc Tryd.prog W base spare held n 4 (([c0, c1, c2, c3].drop 3).take (Tryd.prog.cellsOf 4)) = some y3 := hf 3 _ rfl
    rw [show Tryd.prog.cellsOf 9 = 1 by kernel_rfl] at f0 f1
    rw [show Tryd.prog.cellsOf 5 = 1 by kernel_rfl] at f2
    rw [show Tryd.prog.cellsOf 4 = 1 by kernel_rfl] at f3
    obtain ⟨s, h1, _, _⟩ := DataW.trod_string Tryd.underlying9 f0
    obtain ⟨t, h2, _, _⟩ := DataW.trod_string Tryd.underlying9 f1
    obtain ⟨k, h3, _, h4⟩ := DataW.trod_int Tryd.underlying5 f2
    obtain ⟨r, h5, _⟩ := DataW.trod_bool Tryd.underlying4 f3
    obtain ⟨q, rfl, h6⟩ := nat_of_u8 h4
    simp at h1 h2 h3 h5
    exact ⟨s, t, q, r, by rw [h1, h2, h3, h5], h6⟩
/-- What an argument's packet is: its fields in their bounds, its list in its cells. -/
structure PkArg (W : World) (p : Pk) (a : Option Addr) (c : Nat) : Prop where
  ty : PkTy p
  nil : a = none → c = 0
  cap : p.subs.length ≤ c
  max : c ≤ maxLen
  row : CellsA W a (subCells p.subs)
set_option maxRecDepth 100000 in
set_option maxHeartbeats 1000000 in
theorem pk_cells {fuel : Nat} {cs : List Value} {y : DataW H × List MemPlace} (h : DataW.trod enc Tryd.prog W base spare held fuel 33 cs = some y) : ∃ (p : Pk) (a : Option Addr) (c : Nat), cs = (pkV p a c).toList ∧ PkArg W p a c := by
  obtain ⟨xs, n, _, _, hlen, hxl, hf⟩ := DataW.trod_struct Tryd.underlying33 h
  have hl : cs.length = 24 := hlen.trans (by kernel_rfl)
  have hx2 : xs.length = 21 := hxl.trans (by kernel_rfl)
  match cs, hl, xs, hx2 with
  | [c0, c1, c2, c3, c4, c5, c6, c7, c8, c9, c10, c11, c12, c13, c14, c15, c16, c17, c18, c19, c20, c21, c22, c23], _, [y0, y1, y2, y3, y4, y5, y6, y7, y8, y9, y10, y11, y12, y13, y14, y15, y16, y17, y18, y19, y20], _ =>
    have f0 : DataW.trod enc Tryd.prog W base spare held n 5 (([c0, c1, c2, c3, c4, c5, c6, c7, c8, c9, c10, c11, c12, c13, c14, c15, c16, c17, c18, c19, c20, c21, c22, c23].drop 0).take (Tryd.prog.cellsOf 5)) = some y0 := hf 0 _ rfl
    have f1 : DataW.trod enc Tryd.prog W base spare held n 4 (([c0, c1, c2, c3, c4, c5, c6, c7, c8, c9, c10, c11, c12, c13, c14, c15, c16, c17, c18, c19, c20, c21, c22, c23].drop 1).take (Tryd.prog.cellsOf 4)) = some y1 := hf 1 _ rfl
    have f2 : DataW.trod enc Tryd.prog W base spare held n 5 (([c0, c1, c2, c3, c4, c5, c6, c7, c8, c9, c10, c11, c12, c13, c14, c15, c16, c17, c18, c19, c20, c21, c22, c23].drop 2).take (Tryd.prog.cellsOf 5)) = some y2 := hf 2 _ rfl
    have f3 : DataW.trod enc Tryd.prog W base spare held n 4 (([c0, c1, c2, c3, c4, c5, c6, c7, c8, c9, c10, c11, c12, c13, c14, c15, c16, c17, c18, c19, c20, c21, c22, c23].drop 3).take (Tryd.prog.cellsOf 4)) = some y3 := hf 3 _ rfl
    have f4 : DataW.trod enc Tryd.prog W base spare held n 28 (([c0, c1, c2, c3, c4, c5, c6, c7, c8, c9, c10, c11, c12, c13, c14, c15, c16, c17, c18, c19, c20, c21, c22, c23].drop 4).take (Tryd.prog.cellsOf 28)) = some y4 := hf 4 _ rfl
    have f5 : DataW.trod enc Tryd.prog W base spare held n 9 (([c0, c1, c2, c3, c4, c5, c6, c7, c8, c9, c10, c11, c12, c13, c14, c15, c16, c17, c18, c19, c20, c21, c22, c23].drop 5).take (Tryd.prog.cellsOf 9)) = some y5 := hf 5 _ rfl
    have f6 : DataW.trod enc Tryd.prog W base spare held n 9 (([c0, c1, c2, c3, c4, c5, c6, c7, c8, c9, c10, c11, c12, c13, c14, c15, c16, c17, c18, c19, c20, c21, c22, c23].drop 6).take (Tryd.prog.cellsOf 9)) = some y6 := hf 6 _ rfl
    have f7 : DataW.trod enc Tryd.prog W base spare held n 5 (([c0, c1, c2, c3, c4, c5, c6, c7, c8, c9, c10, c11, c12, c13, c14, c15, c16, c17, c18, c19, c20, c21, c22, c23].drop 7).take (Tryd.prog.cellsOf 5)) = some y7 := hf 7 _ rfl
    have f8 : DataW.trod enc Tryd.prog W base spare held n 4 (([c0, c1, c2, c3, c4, c5, c6, c7, c8, c9, c10, c11, c12, c13, c14, c15, c16, c17, c18, c19, c20, c21, c22, c23].drop 8).take (Tryd.prog.cellsOf 4)) = some y8 := hf 8 _ rfl
    have f9 : DataW.trod enc Tryd.prog W base spare held n 28 (([c0, c1, c2, c3, c4, c5, c6, c7, c8, c9, c10, c11, c12, c13, c14, c15, c16, c17, c18, c19, c20, c21, c22, c23].drop 9).take (Tryd.prog.cellsOf 28)) = some y9 := hf 9 _ rfl
    have f10 : DataW.trod enc Tryd.prog W base spare held n 9 (([c0, c1, c2, c3, c4, c5, c6, c7, c8, c9, c10, c11, c12, c13, c14, c15, c16, c17, c18, c19, c20, c21, c22, c23].drop 10).take (Tryd.prog.cellsOf 9)) = some y10 := hf 10 _ rfl
    have f11 : DataW.trod enc Tryd.prog W base spare held n 4 (([c0, c1, c2, c3, c4, c5, c6, c7, c8, c9, c10, c11, c12, c13, c14, c15, c16, c17, c18, c19, c20, c21, c22, c23].drop 11).take (Tryd.prog.cellsOf 4)) = some y11 := hf 11 _ rfl
    have f12 : DataW.trod enc Tryd.prog W base spare held n 30 (([c0, c1, c2, c3, c4, c5, c6, c7, c8, c9, c10, c11, c12, c13, c14, c15, c16, c17, c18, c19, c20, c21, c22, c23].drop 12).take (Tryd.prog.cellsOf 30)) = some y12 := hf 12 _ rfl
    have f13 : DataW.trod enc Tryd.prog W base spare held n 4 (([c0, c1, c2, c3, c4, c5, c6, c7, c8, c9, c10, c11, c12, c13, c14, c15, c16, c17, c18, c19, c20, c21, c22, c23].drop 16).take (Tryd.prog.cellsOf 4)) = some y13 := hf 13 _ rfl
    have f14 : DataW.trod enc Tryd.prog W base spare held n 4 (([c0, c1, c2, c3, c4, c5, c6, c7, c8, c9, c10, c11, c12, c13, c14, c15, c16, c17, c18, c19, c20, c21, c22, c23].drop 17).take (Tryd.prog.cellsOf 4)) = some y14 := hf 14 _ rfl
    have f15 : DataW.trod enc Tryd.prog W base spare held n 9 (([c0, c1, c2, c3, c4, c5, c6, c7, c8, c9, c10, c11, c12, c13, c14, c15, c16, c17, c18, c19, c20, c21, c22, c23].drop 18).take (Tryd.prog.cellsOf 9)) = some y15 := hf 15 _ rfl
    have f16 : DataW.trod enc Tryd.prog W base spare held n 9 (([c0, c1, c2, c3, c4, c5, c6, c7, c8, c9, c10, c11, c12, c13, c14, c15, c16, c17, c18, c19, c20, c21, c22, c23].drop 19).take (Tryd.prog.cellsOf 9)) = some y16 := hf 16 _ rfl
    have f17 : DataW.trod enc Tryd.prog W base spare held n 4 (([c0, c1, c2, c3, c4, c5, c6, c7, c8, c9, c10, c11, c12, c13, c14, c15, c16, c17, c18, c19, c20, c21, c22, c23].drop 20).take (Tryd.prog.cellsOf 4)) = some y17 := hf 17 _ rfl
    have f18 : DataW.trod enc Tryd.prog W base spare held n 5 (([c0, c1, c2, c3, c4, c5, c6, c7, c8, c9, c10, c11, c12, c13, c14, c15, c16, c17, c18, c19, c20, c21, c22, c23].drop 21).take (Tryd.prog.cellsOf 5)) = some y18 := hf 18 _ rfl
    have f19 : DataW.trod enc Tryd.prog W base spare held n 31 (([c0, c1, c2, c3, c4, c5, c6, c7, c8, c9, c10, c11, c12, c13, c14, c15, c16, c17, c18, c19, c20, c21, c22, c23].drop 22).take (Tryd.prog.cellsOf 31)) = some y19 := hf 19 _ rfl
    have f20 : DataW.trod enc Tryd.prog W base spare held n 9 (([c0, c1, c2, c3, c4, c5, c6, c7, c8, c9, c10, c11, c12, c13, c14, c15, c16, c17, c18, c19, c20, c21, c22, c23].drop 23).take (Tryd.prog.cellsOf 9)) = some y20 := hf 20 _ rfl
    rw [show Tryd.prog.cellsOf 5 = 1 by kernel_rfl] at f0 f2 f7 f18
    rw [show Tryd.prog.cellsOf 4 = 1 by kernel_rfl] at f1 f3 f8 f11 f13 f14 f17
    rw [show Tryd.prog.cellsOf 28 = 1 by kernel_rfl] at f4 f9
    rw [show Tryd.prog.cellsOf 9 = 1 by kernel_rfl] at f5 f6 f10 f15 f16 f20
    rw [show Tryd.prog.cellsOf 30 = 4 by kernel_rfl] at f12
    rw [show Tryd.prog.cellsOf 31 = 1 by kernel_rfl] at f19
    obtain ⟨i0, e0, _, g0⟩ := DataW.trod_int Tryd.underlying5 f0
    obtain ⟨s0, rfl, b0⟩ := nat_of_u8 g0
    obtain ⟨s1, e1, _⟩ := DataW.trod_bool Tryd.underlying4 f1
    obtain ⟨i2, e2, _, g2⟩ := DataW.trod_int Tryd.underlying5 f2
    obtain ⟨s2, rfl, b2⟩ := nat_of_u8 g2
    obtain ⟨s3, e3, _⟩ := DataW.trod_bool Tryd.underlying4 f3
    obtain ⟨i4, e4, _, g4⟩ := DataW.trod_int Tryd.underlying28 f4
    obtain ⟨s4, rfl, b4⟩ := nat_of_u16 g4
    obtain ⟨s5, e5, _, _⟩ := DataW.trod_string Tryd.underlying9 f5
    obtain ⟨s6, e6, _, _⟩ := DataW.trod_string Tryd.underlying9 f6
    obtain ⟨i7, e7, _, g7⟩ := DataW.trod_int Tryd.underlying5 f7
    obtain ⟨s7, rfl, b7⟩ := nat_of_u8 g7
    obtain ⟨s8, e8, _⟩ := DataW.trod_bool Tryd.underlying4 f8
    obtain ⟨i9, e9, _, g9⟩ := DataW.trod_int Tryd.underlying28 f9
    obtain ⟨s9, rfl, b9⟩ := nat_of_u16 g9
    obtain ⟨s10, e10, _, _⟩ := DataW.trod_string Tryd.underlying9 f10
    obtain ⟨s11, e11, _⟩ := DataW.trod_bool Tryd.underlying4 f11
    obtain ⟨wt, wp, wq, wr, e12, b12⟩ := msg_cells f12
    obtain ⟨s13, e13, _⟩ := DataW.trod_bool Tryd.underlying4 f13
    obtain ⟨s14, e14, _⟩ := DataW.trod_bool Tryd.underlying4 f14
    obtain ⟨s15, e15, _, _⟩ := DataW.trod_string Tryd.underlying9 f15
    obtain ⟨s16, e16, _, _⟩ := DataW.trod_string Tryd.underlying9 f16
    obtain ⟨s17, e17, _⟩ := DataW.trod_bool Tryd.underlying4 f17
    obtain ⟨i18, e18, _, g18⟩ := DataW.trod_int Tryd.underlying5 f18
    obtain ⟨s18, rfl, b18⟩ := nat_of_u8 g18
    obtain ⟨a, c, S, e19, hz, hc, hm, ha, hq⟩ := open_rows (g := sbV) (m := 2) (fun _ => rfl) (fun x => x.2 < 256) Tryd.underlying31 (by kernel_rfl) (fun fuel cs y hy => by obtain ⟨x, h1, h2, _⟩ := sub_cells hy; exact ⟨x, h1, h2⟩) f19
    obtain ⟨s20, e20, _, _⟩ := DataW.trod_string Tryd.underlying9 f20
    simp only [List.drop_zero, List.drop_succ_cons, List.take_succ_cons, List.take_zero, List.cons.injEq, and_true] at e0 e1 e2 e3 e4 e5 e6 e7 e8 e9 e10 e11 e12 e13 e14 e15 e16 e17 e18 e19 e20
    obtain ⟨w0, w1, w2, w3⟩ := e12
    refine ⟨⟨s0, s1, s2, s3, s4, s5, s6, s7, s8, s9, s10, s11, wt, wp, wq, wr, s13, s14, s15, s16, s17, s18, S, s20⟩, a, c, ?_, ⟨⟨b0, b2, b4, b7, b9, b12, b18, hq⟩, hz, hc, hm, ha⟩⟩
    rw [e0, e1, e2, e3, e4, e5, e6, e7, e8, e9, e10, e11, w0, w1, w2, w3, e13, e14, e15, e16, e17, e18, e19, e20]
    rfl

variable {v : Value} {d : DataW H} {p : List MemPlace}
end
end Go.Proofs.YtmppkgonkkffhaaDoor
