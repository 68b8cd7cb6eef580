/- The walk of TopicForms: a text's levels, its first one, whether it is a name or a filter, told alike by the program and by the reference. Conditions: the decoder's tables lie as Go lays them. -/
import Derived.Test.YtnnggcaifbinbaaDoorLaw07
import Derived.Test.YtnnggcaifbinbaaDoorTexts
namespace Go.Proofs.YtnnggcaifbinbaaDoor
open Go.RowKit

theorem one_text {w : World} {s : ByteArray} : CellsA (w.alloc (.cells #[.string s] 9)) (some ⟨w.heap.size, 0, none⟩) ([s].map Value.string) := by
  intro j v hv
  refine ⟨_, _, rfl, ?_⟩
  rw [Nat.zero_add, cell_of_row _ _ _ _ _ _ (heap_alloc_new w _)]
  simpa using hv
theorem bl_inj {x y : ByteArray} (h : bl x = bl y) : x = y := by
  cases x with | mk x => cases y with | mk y => unfold bl at h; simp only at h; rw [Array.toList_inj.1 h]
theorem anyLong_one (s : ByteArray) : anyLong ([s].map bl) = longL (bl s) := by simp [anyLong]

theorem law07_TopicForms (s : ByteArray) (w : World) (hE : Env w) :
    Calls Tryd.prog 5 #[.string s] w fun e w' => e = .returned (.bool true) ∧ Below w.heap.size w w' := by
  obtain ⟨i0, hi, hz0, hz1, hz2⟩ := info_parts (show (Tryd.prog.info? 9).map (fun i => (i.zero, i.size, i.bytes)) = some (some (.string ByteArray.empty), 1, 16) by kernel_rfl)
  have hb := Below.refl w.heap.size w
  have hL := Lib.hid (law07_Long (some ⟨w.heap.size, 0, none⟩) 1 [s] (w.alloc (.cells #[.string s] 9)) (by simp) one_text)
  rw [anyLong_one] at hL
  cases hl : longL (bl s)
  · have hsz : s.size < 4294967281 := by
      have := bl_len s
      unfold longL at hl; simp at hl; omega
    rw [hl] at hL
    go_enter Tryd.func5, Tryd.ntmps5
    go_wp2_with (first
      | (go_at_call 22; refine hL.out.mono ?_; rintro e w1 ⟨rfl, rfl⟩; replace hb := hb.alloc (Nat.le_refl _) (.cells #[.string s] 9); replace hE := hE.below hb)
      | (go_at_call 23; refine (topic_Levels _ _ hE hsz).mono ?_; rintro e w1 ⟨L1, a1, c1, rfl, hT1, hcells1, hb1⟩; replace hE := hE.below hb1; replace hb := Below.then hb hb1)
      | (go_at_call 24; refine (topic_First _ _ hE hsz).mono ?_; rintro e w1 ⟨r1, rfl, hr1, hb1⟩; replace hE := hE.below hb1; replace hb := Below.then hb hb1; replace hcells1 := hcells1.below hb1)
      | (go_at_call 25; refine (ref07_First _ _ hsz).mono ?_; rintro e w1 ⟨r2, rfl, hr2, hb1⟩; replace hE := hE.below hb1; replace hb := Below.then hb hb1; replace hcells1 := hcells1.below hb1; obtain rfl : r2 = r1 := bl_inj (hr2.trans hr1.symm))
      | (go_at_call 27; refine (ref07_Levels _ _ (by omega)).mono ?_; rintro e w1 ⟨L2, a2, c2, rfl, hT2, hcells2, hb1⟩; replace hE := hE.below hb1; replace hb := Below.then hb hb1; replace hcells1 := hcells1.below hb1)
      | (go_at_call 26; refine (law07_SameTexts _ _ _ _ _ _ _ (by have := levels_bound hT1 hsz; omega) hcells1 hcells2).mono ?_; rw [hT1, hT2, beq_self_eq_true]; rintro e w1 ⟨rfl, hb1⟩; replace hE := hE.below hb1; replace hb := Below.then hb hb1; clear hcells1 hcells2 hT1 hT2)
      | (go_at_call 21; refine (topic_Name _ _ hE hsz).mono ?_; rintro e w1 ⟨rfl, hb1⟩; replace hE := hE.below hb1; replace hb := Below.then hb hb1)
      | (go_at_call 28; refine (ref07_Name _ _ hsz).mono ?_; rintro e w1 ⟨rfl, hb1⟩; replace hE := hE.below hb1; replace hb := Below.then hb hb1)
      | (go_at_call 20; refine (topic_Filter _ _ hE hsz).mono ?_; rintro e w1 ⟨rfl, hb1⟩; replace hE := hE.below hb1; replace hb := Below.then hb hb1)
      | (go_at_call 29; refine (ref07_Filter _ _ hsz).mono ?_; rintro e w1 ⟨rfl, hb1⟩; replace hE := hE.below hb1; replace hb := Below.then hb hb1)
      | (go_at_call 15; refine (law07_awake _ hE).mono ?_; rintro e w1 ⟨rfl, hb1⟩; replace hb := Below.then hb hb1))
    go_ret
    exact ⟨rfl, hb⟩
  · rw [hl] at hL
    go_enter Tryd.func5, Tryd.ntmps5
    go_wp2_with (first
      | (go_at_call 22; refine hL.out.mono ?_; rintro e w1 ⟨rfl, rfl⟩; replace hb := hb.alloc (Nat.le_refl _) (.cells #[.string s] 9); replace hE := hE.below hb)
      | (go_at_call 15; refine (law07_awake _ hE).mono ?_; rintro e w1 ⟨rfl, hb1⟩; replace hb := Below.then hb hb1))
    go_ret
    exact ⟨rfl, hb⟩
end Go.Proofs.YtnnggcaifbinbaaDoor
