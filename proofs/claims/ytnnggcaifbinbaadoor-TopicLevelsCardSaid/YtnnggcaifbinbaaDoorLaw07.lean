/- The walks of the laws on topics: what a filter takes and covers is told alike by the program and by the reference. Conditions: the decoder's tables lie as Go lays them. -/
import Derived.Test.YtnnggcaifbinbaaDoorRefTopic3
namespace Go.Proofs.YtnnggcaifbinbaaDoor
open Go.RowKit

abbrev True1 (w : World) (e : Ending) (w' : World) : Prop := e = .returned (.bool true) ∧ Below w.heap.size w w'

theorem law07_awake (w : World) (hE : Env w) : Calls Tryd.prog 15 #[] w fun e w' => e = .returned (.bool true) ∧ Below w.heap.size w w' := by
  have k1 : matchL (bl { data := #[97, 47, 43, 47, 35] }) (bl { data := #[97, 47, 98, 47, 99, 47, 100] }) = true := by kernel_rfl
  have k2 : matchL (bl { data := #[97, 47, 43] }) (bl { data := #[97] }) = false := by kernel_rfl
  have k3 : filterL (bl { data := #[43, 47, 98] }) = true := by kernel_rfl
  have k4 : nameL (bl { data := #[43, 47, 98] }) = false := by kernel_rfl
  have hb := Below.refl w.heap.size w
  go_enter Tryd.func15, Tryd.ntmps15
  go_wp2_with (first
    | (go_at_call 18; refine (topic_Match _ _ _ hE (by decide) (by decide)).mono ?_; rintro e w1 ⟨rfl, hb1⟩; replace hE := hE.below hb1; replace hb := Below.then hb hb1)
    | (go_at_call 20; refine (topic_Filter _ _ hE (by decide)).mono ?_; rintro e w1 ⟨rfl, hb1⟩; replace hE := hE.below hb1; replace hb := Below.then hb hb1)
    | (go_at_call 21; refine (topic_Name _ _ hE (by decide)).mono ?_; rintro e w1 ⟨rfl, hb1⟩; replace hE := hE.below hb1; replace hb := Below.then hb hb1))
  go_ret
  exact ⟨rfl, hb⟩

theorem law07_TopicMatches (a b : ByteArray) (w : World) (hE : Env w) :
    Calls Tryd.prog 3 #[.string a, .string b] w fun e w' => e = .returned (.bool true) ∧ Below w.heap.size w w' := by
  by_cases hsm : a.size ≤ 3000 ∧ b.size ≤ 3000
  · have h1 : ¬ (3000 : Int) < (a.size : Int) := by omega
    have h2 : ¬ (3000 : Int) < (b.size : Int) := by omega
    have ha' : a.size < 4294967281 := by omega
    have hb' : b.size < 4294967281 := by omega
    clear hsm
    have hb := Below.refl w.heap.size w
    go_enter Tryd.func3, Tryd.ntmps3
    go_wp2_with (first
      | (go_at_call 16; refine (topic_Covers _ _ _ hE ha' hb').mono ?_; rintro e w1 ⟨rfl, hb1⟩; replace hE := hE.below hb1; replace hb := Below.then hb hb1)
      | (go_at_call 17; refine (ref07_Covers _ _ _ ha' hb').mono ?_; rintro e w1 ⟨rfl, hb1⟩; replace hE := hE.below hb1; replace hb := Below.then hb hb1)
      | (go_at_call 18; refine (topic_Match _ _ _ hE ha' hb').mono ?_; rintro e w1 ⟨rfl, hb1⟩; replace hE := hE.below hb1; replace hb := Below.then hb hb1)
      | (go_at_call 19; refine (ref07_Match _ _ _ ha' hb').mono ?_; rintro e w1 ⟨rfl, hb1⟩; replace hE := hE.below hb1; replace hb := Below.then hb hb1)
      | (go_at_call 15; refine (law07_awake _ hE).mono ?_; rintro e w1 ⟨rfl, hb1⟩; replace hb := Below.then hb hb1))
    go_ret
    exact ⟨rfl, hb⟩
  · have hsm' : (3000 : Int) < (a.size : Int) ∨ ((a.size : Int) ≤ 3000 ∧ (3000 : Int) < (b.size : Int)) := by omega
    clear hsm
    rcases hsm' with h1 | ⟨h1, h2⟩
    all_goals
      go_enter Tryd.func3, Tryd.ntmps3
      go_wp2_with (go_at_call 15; refine (law07_awake _ hE).mono ?_; rintro e w1 ⟨rfl, hb1⟩)
      go_ret
      exact ⟨rfl, hb1⟩
end Go.Proofs.YtnnggcaifbinbaaDoor
