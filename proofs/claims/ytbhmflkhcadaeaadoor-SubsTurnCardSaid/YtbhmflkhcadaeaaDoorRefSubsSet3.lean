/- The reference's Set, whatever the filter. Conditions: the list lies behind its pointer, its filters in order. -/
import Derived.Test.YtbhmflkhcadaeaaDoorRefSubsSet2
namespace Go.Proofs.YtbhmflkhcadaeaaDoor
open Go.RowKit

theorem ref15_Set (B g : Nat) (v : Value) (S : List Sb) (f : ByteArray) (q : Nat) (w : World) (hL : RAt w B g v S) (hS : Fine S) (hB : B ≤ w.heap.size) (hf : f.size ≤ 300) (hq : q < 256) :
    Calls Tryd.prog 27 #[.pointer (some ⟨g, 0, none⟩), .string f, .int .u8 (q : Int)] w (RetRSet B g v (setS S f q).1 (setS S f q).2 w) := by
  unfold setS
  cases hok : okQ (bl f) q with
  | false =>
    simp only [Bool.false_and, Bool.false_eq_true, if_false]
    exact rset_refused B g v S f q w hL hf hq hok
  | true =>
    cases hat : atS S (bl f) with
    | true =>
      simp only [Bool.true_and, Bool.true_or, if_true]
      exact rset_ok B g v S f q w hL hS hB hf hq hok (Or.inl hat)
    | false =>
      by_cases hroom : S.length < 16
      · simp only [Bool.true_and, Bool.false_or, hroom, decide_true, if_true]
        exact rset_ok B g v S f q w hL hS hB hf hq hok (Or.inr hroom)
      · simp only [Bool.true_and, Bool.false_or, hroom, decide_false, Bool.false_eq_true, if_false]
        exact rset_full B g v S f q w hL hS hf hq hok hat hroom
end Go.Proofs.YtbhmflkhcadaeaaDoor
