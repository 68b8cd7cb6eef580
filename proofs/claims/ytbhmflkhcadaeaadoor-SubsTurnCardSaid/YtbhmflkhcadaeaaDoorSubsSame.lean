/- Small functions of the laws on lists of filters: whether two rows are the same, whether some are too long. Conditions: the rows lie in their cells. -/
import Derived.Test.YtbhmflkhcadaeaaDoorRefSubsTry
namespace Go.Proofs.YtbhmflkhcadaeaaDoor
open Go.RowKit

theorem drop_same (A B : List Sb) (k : Nat) (x y : Sb) (hx : A[k]? = some x) (hy : B[k]? = some y) : decide (A.drop k = B.drop k) = (decide (x = y) && decide (A.drop (k + 1) = B.drop (k + 1))) := by
  obtain ⟨h2, h3⟩ := List.getElem?_eq_some_iff.1 hx
  obtain ⟨h4, h5⟩ := List.getElem?_eq_some_iff.1 hy
  simp only [List.drop_eq_getElem_cons h2, h3, List.drop_eq_getElem_cons h4, h5, List.cons.injEq, Bool.decide_and]

set_option maxRecDepth 100000 in
theorem law15_SameSubs (a b : Option Addr) (ca cb : Nat) (A B : List Sb) (w : World) (hA : A.length ≤ 1000) (ha : CellsA w a (subCells A)) (hb : CellsA w b (subCells B)) :
    Calls Tryd.prog 17 #[.slice a A.length ca, .slice b B.length cb] w fun e w' => e = .returned (.bool (decide (A = B))) ∧ Below w.heap.size w w' := by
  have fin : ∀ (b : Bool) (w' : World), decide (A = B) = b → Below w.heap.size w w' → Ending.returned (.bool b) = .returned (.bool (decide (A = B))) ∧ Below w.heap.size w w' := by
    rintro b w' rfl h; exact ⟨rfl, h⟩
  have FIN := Lib.hid fin; clear fin
  by_cases hl : A.length = B.length
  · have hl' : ((A.length : Int) != (B.length : Int)) = false := by rw [hl]; simp
    have HL := Lib.hid hl
    clear hl
    go_enter Tryd.func17, Tryd.ntmps17
    go_wp2_with fail
    go_loopw [5] (fun i wr => ∃ k : Nat, k ≤ A.length ∧ i = .int .i64 k ∧ Hid (decide (A.drop k = B.drop k) = decide (A = B)) ∧ Below w.heap.size w wr) (fun i _ => A.length - (intOf i).toNat)
    case atStart => exact ⟨0, by omega, rfl, rfl, Below.refl _ _⟩
    case round =>
      obtain ⟨k, hk, rfl, HP, hbr⟩ := hrel
      by_cases hlt : k < A.length
      · have hlt2 : k < B.length := by have := HL.out; omega
        obtain ⟨x, hx⟩ : ∃ x, A[k]? = some x := ⟨_, List.getElem?_eq_getElem hlt⟩
        obtain ⟨y, hy⟩ : ∃ y, B[k]? = some y := ⟨_, List.getElem?_eq_getElem hlt2⟩
        obtain ⟨ba, oa, rfl, hc1, hc2⟩ := (ha.below hbr).sub hx
        obtain ⟨bb, ob, rfl, hc3, hc4⟩ := (hb.below hbr).sub hy
        have HS := Lib.hid (drop_same A B k x y hx hy)
        clear hx hy
        obtain ⟨x1, x2⟩ := x
        obtain ⟨y1, y2⟩ := y
        dsimp only at *
        have hS3 : ∀ v, decide ((x1, x2) = (y1, y2)) = v → (decide (A = B)) = (v && decide (A.drop (k + 1) = B.drop (k + 1))) := by
          rintro v rfl; rw [← HP.out]; exact HS.out
        have hS4 := fun (v : Bool) h => Lib.hid (hS3 v h)
        clear HS hS3
        cases h1 : (x1.toList == y1.toList)
        · have HX := hS4 false (by
            rw [decide_eq_false_iff_not]; intro h; injection h with h _
            rw [h, beq_self_eq_true] at h1; cases h1)
          clear hS4
          go_wp2_with fail
          go_quiet (fail)
          generalize hw2 : World.drewN wr _ = w9
          have hq2 := Below.then hbr (below_draws hw2)
          clear hw2
          go_wp2_with fail
          go_ret
          exact FIN.out _ _ (by rw [HX.out]; rfl) hq2
        · cases h2 : ((x2 : Int) == (y2 : Int))
          · have HX := hS4 false (by
              rw [decide_eq_false_iff_not]; intro h; injection h with _ h
              rw [h, beq_self_eq_true] at h2; cases h2)
            clear hS4
            go_wp2_with fail
            go_quiet (fail)
            generalize hw2 : World.drewN wr _ = w9
            have hq2 := Below.then hbr (below_draws hw2)
            clear hw2
            go_wp2_with fail
            go_ret
            exact FIN.out _ _ (by rw [HX.out]; rfl) hq2
          · have HX := hS4 true (by
              rw [decide_eq_true_eq, Prod.mk.injEq]
              rw [Lib.toList_data, Lib.toList_data, beq_iff_eq] at h1
              rw [beq_iff_eq] at h2
              exact ⟨bl_inj h1, by omega⟩)
            clear hS4
            go_wp2_with fail
            go_quiet (fail)
            generalize hw2 : World.drewN wr _ = w9
            have hq2 := Below.then hbr (below_draws hw2)
            clear hw2
            go_wp2_with fail
            go_roundw
            case rel => exact ⟨k + 1, by omega, by go_num, by rw [Hid, HX.out]; rfl, hq2⟩
            case measure => simp [intOf]; omega
      · have : k = A.length := by omega
        subst this
        go_wp2_with fail
        go_ret
        refine FIN.out _ _ ?_ hbr
        have h := HL.out
        rw [← HP.out, List.drop_eq_nil_of_le (by simp), List.drop_eq_nil_of_le (by omega)]
        rfl
  · have hl' : ((A.length : Int) != (B.length : Int)) = true := by rw [bne_iff_ne]; omega
    go_enter Tryd.func17, Tryd.ntmps17
    go_wp2_with fail
    go_ret
    refine FIN.out _ _ ?_ (Below.refl _ _)
    rw [decide_eq_false_iff_not]
    intro h
    rw [h] at hl
    exact hl rfl
end Go.Proofs.YtbhmflkhcadaeaaDoor
