/- The walks of law15's small and awake: the chapter's list, its best, what Try tells. Conditions: the decoder's tables lie as Go lays them. -/
import Derived.Test.YtbhmflkhcadaeaaDoorSubsDoes
namespace Go.Proofs.YtbhmflkhcadaeaaDoor
open Go.RowKit

def b1 (l : List UInt8) : ByteArray := ⟨l.toArray⟩
def small3 : List Sb := [(b1 [97, 47, 35], 0), (b1 [97, 47, 43], 1), (b1 [98], 2)]
theorem set1 : setS [] (b1 [97, 47, 43]) 1 = (1, [(b1 [97, 47, 43], 1)]) := by kernel_rfl
theorem set2 : setS [(b1 [97, 47, 43], 1)] (b1 [97, 47, 35]) 0 = (0, [(b1 [97, 47, 35], 0), (b1 [97, 47, 43], 1)]) := by kernel_rfl
theorem set3 : setS [(b1 [97, 47, 35], 0), (b1 [97, 47, 43], 1)] (b1 [98]) 2 = (2, small3) := by kernel_rfl
theorem fine1 : Fine [(b1 [97, 47, 43], 1)] := by
  have := setS_fine fine_nil (b1 [97, 47, 43]) 1 (by decide)
  rw [set1] at this; exact this
theorem fine2 : Fine [(b1 [97, 47, 35], 0), (b1 [97, 47, 43], 1)] := by
  have := setS_fine fine1 (b1 [97, 47, 35]) 0 (by decide)
  rw [set2] at this; exact this
theorem fine3 : Fine small3 := by
  have := setS_fine fine2 (b1 [98]) 2 (by decide)
  rw [set3] at this; exact this

/-- A Set on a list of the call's own, and nothing older turned. -/
theorem own_Set {B g : Nat} {v : Value} {S : List Sb} {f : ByteArray} {q : Nat} {w : World} (hE : Env w) (hL : LAt w B g v S) (hS : Fine S) (hB : B ≤ w.heap.size) (hf : f.size ≤ 300) (hq : q < 256) :
    Calls Tryd.prog 20 #[.pointer (some ⟨g, 0, none⟩), .string f, .int .u8 (q : Int)] w fun e w' => ∃ v', e = .returned (.int .u8 ((setS S f q).1 : Int)) ∧ LAt w' B g v' (setS S f q).2 ∧ Below B w w' :=
  (subs_Set B g v S f q w hE hL hS hB hf hq).mono (by
    rintro e w' ⟨v', rfl, h1, h2, h3⟩
    refine ⟨v', rfl, h1, h2.below hB ?_⟩
    rintro k (e | e)
    · rw [e]; exact hL.lo
    · exact (hL.own.lt e).2)

theorem law15_small (w : World) (hE : Env w) : Calls Tryd.prog 18 #[] w fun e w' => ∃ g v, e = .returned (.pointer (some ⟨g, 0, none⟩)) ∧ LAt w' w.heap.size g v small3 ∧ Below w.heap.size w w' := by
  have h1 := fun B g v (w : World) hE hL hB => own_Set (B := B) (g := g) (v := v) (w := w) (f := b1 [97, 47, 43]) (q := 1) hE hL fine_nil hB (by decide) (by decide)
  have h2 := fun B g v (w : World) hE hL hB => own_Set (B := B) (g := g) (v := v) (w := w) (f := b1 [97, 47, 35]) (q := 0) hE hL fine1 hB (by decide) (by decide)
  have h3 := fun B g v (w : World) hE hL hB => own_Set (B := B) (g := g) (v := v) (w := w) (f := b1 [98]) (q := 2) hE hL fine2 hB (by decide) (by decide)
  rw [set1] at h1
  rw [set2] at h2
  rw [set3] at h3
  have H1 := Lib.hid h1
  have H2 := Lib.hid h2
  have H3 := Lib.hid h3
  clear h1 h2 h3
  go_enter Tryd.func18, Tryd.ntmps18
  go_wp2_with (first
    | (go_at_call 11; refine (subs_New _).mono ?_; rintro e w1 ⟨rfl, hL, hb⟩)
    | fail)
  go_at_call 20
  refine Calls.mono (H1.out _ _ _ _ (hE.below hb) hL hb.size) ?_
  rintro e w2 ⟨v2, rfl, hL2, hb2⟩
  replace hb := hb.trans hb2
  clear hL hb2
  go_wp2_with fail
  go_at_call 20
  refine Calls.mono (H2.out _ _ _ _ (hE.below hb) hL2 hb.size) ?_
  rintro e w3 ⟨v3, rfl, hL3, hb3⟩
  replace hb := hb.trans hb3
  clear hL2 hb3
  go_wp2_with fail
  go_at_call 20
  refine Calls.mono (H3.out _ _ _ _ (hE.below hb) hL3 hb.size) ?_
  rintro e w4 ⟨v4, rfl, hL4, hb4⟩
  replace hb := hb.trans hb4
  clear hL3 hb4
  go_wp2_with fail
  go_ret
  exact ⟨_, _, rfl, hL4, hb⟩

def tries2 : List Sb := [(b1 [99], 1), (b1 [99, 43], 0)]
theorem try2 : strN (tryS small3 tries2) = b1 [1, 128] := by kernel_rfl
theorem best1 : bestS small3 (bl (b1 [97, 47, 120])) = (1, true) := by kernel_rfl
theorem cells_new {w : World} {T : TypeId} {xs : List Value} : CellsA (w.alloc (.cells xs.toArray T)) (some ⟨w.heap.size, 0, none⟩) xs := by
  intro j u hu
  refine ⟨_, _, rfl, ?_⟩
  rw [Nat.zero_add, cell_of_row _ _ _ _ _ _ (heap_alloc_new w _)]
  simpa using hu

theorem law15_awake (w : World) (hE : Env w) : Calls Tryd.prog 10 #[] w fun e w' => e = .returned (.bool true) ∧ Below w.heap.size w w' := by
  have hs := Lib.hid (fun (w : World) hE => law15_small w hE)
  have hb := fun B g v (w : World) hE hL => subs_Best B g v small3 (b1 [97, 47, 120]) w hE hL fine3 (by decide)
  rw [best1] at hb
  have HB := Lib.hid hb
  have ht := fun B g v (w : World) hE hL a c ha => subs_Try B g v small3 a c tries2 w hE hL fine3 ha (by intro x hx; simp [tries2] at hx; rcases hx with rfl | rfl <;> decide) (by decide)
  rw [try2] at ht
  have HT := Lib.hid ht
  have e0 : ((b1 [1, 128]).toList == [1, 128]) = true := by rw [Lib.toList_data]; rfl
  clear hb ht
  go_enter Tryd.func10, Tryd.ntmps10
  go_wp2_with fail
  go_at_call 18
  refine Calls.mono (hs.out _ hE) ?_
  rintro e w1 ⟨g1, v1, rfl, hL1, hb1⟩
  go_wp2_with fail
  go_at_call 19
  refine Calls.mono (HB.out _ _ _ _ (hE.below hb1) hL1) ?_
  rintro e w2 ⟨rfl, hb2⟩
  replace hb1 := Below.then hb1 hb2
  clear hL1 hb2
  go_wp2_with fail
  go_at_call 18
  refine Calls.mono (hs.out _ (hE.below hb1)) ?_
  rintro e w3 ⟨g3, v3, rfl, hL3, hb3⟩
  replace hb1 := Below.then hb1 hb3
  clear hb3
  go_wp2_with fail
  go_at_call 15
  have h0 : Below w3.heap.size w3 (w3.alloc (.cells (subCells tries2).toArray 33)) := (Below.refl _ _).alloc (Nat.le_refl _) _
  refine Calls.mono (HT.out _ _ _ (w3.alloc (.cells (subCells tries2).toArray 33)) ((hE.below hb1).below h0) (hL3.below h0) _ _ cells_new) ?_
  rintro e w4 ⟨rfl, hb4⟩
  replace hb1 := Below.then (Below.then hb1 h0) hb4
  clear hb4 hL3 h0
  go_wp2_with fail
  go_ret
  exact ⟨rfl, hb1⟩
end Go.Proofs.YtbhmflkhcadaeaaDoor
