/- Packets in a row: what their bytes are, how many. Conditions: none. -/
import Derived.Test.YtfljdlaelanliaaDoorPkRows
import Derived.Test.YtfljdlaelanliaaDoorCardPks
namespace Go.Proofs.YtfljdlaelanliaaDoor
open Go.RowKit
theorem infoPkA : (Tryd.prog.info? 27).map (fun i => (i.zero, i.size, i.bytes)) = some (some (.agg (pkV Pk.zero none 0)), 24, 200) := by kernel_rfl
theorem keep_grown {w0 w w' : World} (h : Keep w0 [] [] w) {r : Option Nat} (k : w.grownBy w' r) (h1 : ∀ g, r = some g → w0.heap.size ≤ g) : Keep w0 [] [] w' :=
  h.grown k h1 (fun _ _ x hx => by cases hx) (fun r hr => by cases hr)
theorem all_len (al : Option Addr) (cl : Nat) (T : List PkE) (m : Nat) (w : World) (hE : Env w) (hc : CellsA w al (pkCells T)) (hT : ∀ x ∈ T, PkIn w x) (hn : T.length ≤ 300) (hm : T.length = m) :
    Calls Tryd.prog 15 #[.slice al m cl] w fun e w' => e = .returned (.tuple #[.string (allS T), .int .i64 (allE T)]) ∧ Below w.heap.size w w' := hm ▸ write_All al cl T w hE hc hT hn
theorem allS_size (A : List PkE) (hA : ∀ x ∈ A, PkOk x.1) : (allS A).size ≤ A.length * 300000000 := by
  unfold allS
  cases h : okAll A
  · show 0 ≤ _; omega
  · exact encAll_le A (fun x hx => ⟨hA x hx, ok_each h hx⟩)
theorem great_parts {A : List PkE} (h : greatAll A = false) : A.length ≤ 20 ∧ ∀ x ∈ A, greatB x.1 = false := by
  unfold greatAll at h
  simp only [Bool.or_eq_false_iff, decide_eq_false_iff_not] at h
  refine ⟨by omega, fun x hx => ?_⟩
  have := List.any_eq_false.1 h.2 x hx
  simpa using this
theorem PkArg.inRow {w : World} {x : PkE} (h : PkArg w x.1 x.2.1 x.2.2) (hg : greatB x.1 = false) : PkIn w x := ⟨(small_of hg).ok h.ty, h.row⟩
end Go.Proofs.YtfljdlaelanliaaDoor
