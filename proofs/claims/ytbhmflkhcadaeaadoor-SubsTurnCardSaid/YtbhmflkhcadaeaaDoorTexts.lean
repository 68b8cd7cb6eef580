/- Small functions of the laws on slices of texts: whether some are too long, whether two rows are the same. Conditions: at most 4294967281 of them. -/
import Derived.Test.YtbhmflkhcadaeaaDoorRefTopic2
namespace Go.Proofs.YtbhmflkhcadaeaaDoor
open Go.RowKit

def longL (s : Bs) : Bool := (3000 < s.length && s.length < 65530) || 65550 < s.length
def anyLong (T : List Bs) : Bool := T.any longL

theorem same_step (A B : List Bs) (k : Nat) (x y : Bs) (hx : A[k]? = some x) (hy : B[k]? = some y) : (A.drop k == B.drop k) = (x == y && A.drop (k + 1) == B.drop (k + 1)) := by
  obtain ⟨h2, h3⟩ := List.getElem?_eq_some_iff.1 hx
  obtain ⟨h4, h5⟩ := List.getElem?_eq_some_iff.1 hy
  rw [List.drop_eq_getElem_cons h2, h3, List.drop_eq_getElem_cons h4, h5]; rfl

theorem law07_SameTexts (a b : Option Addr) (ca cb : Nat) (A B : List ByteArray) (w : World) (hA : A.length ≤ 9223372036854775807) (ha : CellsA w a (A.map Value.string)) (hb : CellsA w b (B.map Value.string)) :
    Calls Tryd.prog 23 #[.slice a A.length ca, .slice b B.length cb] w fun e w' => e = .returned (.bool (A.map bl == B.map bl)) ∧ Below w.heap.size w w' := by
  have fin : ∀ (b : Bool) (w' : World), (A.map bl == B.map bl) = b → Below w.heap.size w w' → Ending.returned (.bool b) = .returned (.bool (A.map bl == B.map bl)) ∧ Below w.heap.size w w' := by
    rintro b w' rfl h; exact ⟨rfl, h⟩
  have FIN := Lib.hid fin; clear fin
  by_cases hl : A.length = B.length
  · have hl' : ((A.length : Int) != (B.length : Int)) = false := by rw [hl]; simp
    have HL := Lib.hid hl
    clear hl
    go_enter Tryd.func23, Tryd.ntmps23
    go_wp2_with fail
    go_loopw [5] (fun i wr => ∃ k : Nat, k ≤ A.length ∧ i = .int .i64 k ∧ Hid (((A.map bl).drop k == (B.map bl).drop k) = (A.map bl == B.map bl)) ∧ Below w.heap.size w wr) (fun i _ => A.length - (intOf i).toNat)
    case atStart => exact ⟨0, by omega, rfl, rfl, Below.refl _ _⟩
    case round =>
      obtain ⟨k, hk, rfl, HP, hbr⟩ := hrel
      by_cases hlt : k < A.length
      · have hlt2 : k < B.length := by have := HL.out; omega
        obtain ⟨x, hx⟩ : ∃ x, A[k]? = some x := ⟨_, List.getElem?_eq_getElem hlt⟩
        obtain ⟨y, hy⟩ : ∃ y, B[k]? = some y := ⟨_, List.getElem?_eq_getElem hlt2⟩
        obtain ⟨ba, oa, rfl, hcx⟩ := (ha.below hbr).text hx
        obtain ⟨bb, ob, rfl, hcy⟩ := (hb.below hbr).text hy
        have hS := same_step (A.map bl) (B.map bl) k (bl x) (bl y) (by rw [List.getElem?_map, hx]; rfl) (by rw [List.getElem?_map, hy]; rfl)
        clear hx hy
        cases hxy : bl x == bl y
        · have exy := eqTwo x y _ hxy
          rw [hxy] at hS
          have HS := Lib.hid hS
          clear hS hxy
          go_wp2_with fail
          go_quiet (fail)
          generalize hw2 : World.drewN wr _ = w9
          have hq2 := Below.then hbr (below_draws hw2)
          clear hw2
          go_wp2_with fail
          go_ret
          exact FIN.out _ _ (by rw [← HP.out, HS.out]; rfl) hq2
        · have exy := eqTwo x y _ hxy
          rw [hxy] at hS
          have HS := Lib.hid hS
          clear hS hxy
          go_wp2_with fail
          go_quiet (fail)
          generalize hw2 : World.drewN wr _ = w9
          have hq2 := Below.then hbr (below_draws hw2)
          clear hw2
          go_wp2_with fail
          go_roundw
          case rel => exact ⟨k + 1, by omega, by go_num, by rw [Hid, ← HP.out, HS.out]; rfl, hq2⟩
          case measure => simp [intOf]; omega
      · have : k = A.length := by omega
        subst this
        go_wp2_with fail
        go_ret
        refine FIN.out _ _ ?_ hbr
        have h := HL.out
        rw [← HP.out, List.drop_eq_nil_of_le (by simp), List.drop_eq_nil_of_le (by simp; omega)]
        rfl
  · have hl' : ((A.length : Int) != (B.length : Int)) = true := by rw [bne_iff_ne]; omega
    go_enter Tryd.func23, Tryd.ntmps23
    go_wp2_with fail
    go_ret
    refine FIN.out _ _ ?_ (Below.refl _ _)
    rw [beq_eq_false_iff_ne]
    intro h
    have := congrArg List.length h
    simp at this
    exact hl this
end Go.Proofs.YtbhmflkhcadaeaaDoor
