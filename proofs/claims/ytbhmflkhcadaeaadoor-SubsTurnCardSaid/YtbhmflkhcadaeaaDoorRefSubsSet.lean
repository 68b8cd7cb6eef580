/- The walk of the reference's Set. Conditions: the list lies behind its pointer, its filters in order. -/
import Derived.Test.YtbhmflkhcadaeaaDoorRefSubs3
import Derived.Test.YtbhmflkhcadaeaaDoorRegion
namespace Go.Proofs.YtbhmflkhcadaeaaDoor
open Go.RowKit

/-- What the reference's Set leaves. -/
def RetRSet (B g : Nat) (v : Value) (code : Nat) (S' : List Sb) (w : World) (e : Ending) (w' : World) : Prop :=
  ∃ v', e = .returned (.int .u8 (code : Int)) ∧ RAt w' B g v' S' ∧ Only (Foot g v) w w' ∧ (∀ r, v'.ownBlock = some r → v.ownBlock = some r ∨ w.heap.size ≤ r)
theorem RetRSet.same {B g : Nat} {v : Value} {S : List Sb} {code : Nat} {w w' : World} (hL : RAt w B g v S) (hb : Below w.heap.size w w') : RetRSet B g v code S w (.returned (.int .u8 (code : Int))) w' :=
  ⟨v, rfl, hL.below hb, Only.of_below hb _, fun r h => Or.inl h⟩

theorem rset_refused (B g : Nat) (v : Value) (S : List Sb) (f : ByteArray) (q : Nat) (w : World) (hL : RAt w B g v S) (hf : f.size ≤ 300) (hq : q < 256) (hno : okQ (bl f) q = false) :
    Calls Tryd.prog 27 #[.pointer (some ⟨g, 0, none⟩), .string f, .int .u8 (q : Int)] w (RetRSet B g v 128 S w) := by
  have FIN := Lib.hid (show ∀ w', Below w.heap.size w w' → RetRSet B g v 128 S w (.returned (.int .u8 128)) w' from fun w' hb => RetRSet.same hL hb)
  clear hL
  unfold okQ at hno
  by_cases h2 : q ≤ 2
  · have hno : filterL (bl f) = false := by simpa [h2] using hno
    have hF := ref07_Filter f w (by omega)
    rw [hno] at hF
    have HF := Lib.hid hF
    have c1 : ¬ (2 : Int) < (q : Int) := by omega
    clear hF hno
    go_enter Tryd.func27, Tryd.ntmps27
    go_wp2_with (go_at_call 40; refine Calls.mono HF.out ?_; rintro e w1 ⟨rfl, hb⟩)
    go_ret
    exact FIN.out _ hb
  · have c1 : (2 : Int) < (q : Int) := by omega
    clear hno
    go_enter Tryd.func27, Tryd.ntmps27
    go_wp2_with fail
    go_ret
    exact FIN.out _ (Below.refl _ _)

theorem rset_full (B g : Nat) (v : Value) (S : List Sb) (f : ByteArray) (q : Nat) (w : World) (hL : RAt w B g v S) (hS : Fine S) (hf : f.size ≤ 300) (hq : q < 256) (hok : okQ (bl f) q = true) (hat : atS S (bl f) = false) (hfull : ¬ S.length < 16) :
    Calls Tryd.prog 27 #[.pointer (some ⟨g, 0, none⟩), .string f, .int .u8 (q : Int)] w (RetRSet B g v 128 S w) := by
  have FIN := Lib.hid (show ∀ w', Below w.heap.size w w' → RetRSet B g v 128 S w (.returned (.int .u8 128)) w' from fun w' hb => RetRSet.same hL hb)
  unfold okQ at hok
  rw [Bool.and_eq_true, decide_eq_true_eq] at hok
  obtain ⟨h2, hfl⟩ := hok
  have hF := ref07_Filter f w (by omega)
  rw [hfl] at hF
  have HF := Lib.hid hF
  have hfew := hS.few
  have HH := Lib.hid (fun w1 (hb : Below w.heap.size w w1) => ref15_Has B g v S f w1 (hL.below hb) (by omega))
  rw [hasS_at S (bl f) hS.sort, hat] at HH
  obtain ⟨a, c, rfl, hc, hcells⟩ := hL.own.form
  have HL := Lib.hid (fun w1 (hb : Below w.heap.size w w1) => (hL.below hb).blk.cell)
  have c1 : ¬ (2 : Int) < (q : Int) := by omega
  have c2 : (16 : Int) ≤ (S.length : Int) := by omega
  clear hF hfl hcells hL hS hat
  go_enter Tryd.func27, Tryd.ntmps27
  go_wp2_with (first
    | (go_at_call 40; refine Calls.mono HF.out ?_; rintro e w1 ⟨rfl, hb⟩)
    | (go_at_call 41; refine Calls.mono (HH.out _ hb) ?_; rintro e w2 ⟨rfl, rfl⟩; have hcell := HL.out _ hb))
  go_ret
  exact FIN.out _ hb
end Go.Proofs.YtbhmflkhcadaeaaDoor
