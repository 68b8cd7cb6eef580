import Derived.Test.YtnnpokndajpkiaaDoorTopic
namespace Go.Proofs.YtnnpokndajpkiaaDoor
open Go.RowKit
theorem topic_Name (s : ByteArray) (w : World) (hE : Env w) (hs : s.size < 4294967281) :
    Calls Tryd.prog 127 #[.string s] w fun e w' => e = .returned (.bool (nameL (bl s))) ∧ Below w.heap.size w w' := by
  have hV := Lib.hid (text_Valid s w hE (by omega)); have hC := Lib.hid (fun w1 => ContainsAny_pm s w1 hs); rw [show s.data.toList = bl s from rfl] at hV hC; cases hemp : (bl s).isEmpty
  · have h1 : s.toList.isEmpty = false := by rw [empty_toList]; exact hemp
    cases hv : validL (bl s)
    · rw [hv] at hV
      go_enter Tryd.func127, Tryd.ntmps127
      go_wp2_with (first | (go_at_call 124; refine hV.out.mono ?_; rintro e w1 ⟨rfl, hb⟩))
      go_ret
      exact ⟨ret_bool (by unfold nameL; rw [hv]; simp), hb⟩
    · rw [hv] at hV
      go_enter Tryd.func127, Tryd.ntmps127
      go_wp2_with (first | (go_at_call 124; refine hV.out.mono ?_; rintro e w1 ⟨rfl, hb⟩) | (go_at_call 135; refine (hC.out _).mono ?_; rintro e w2 ⟨rfl, hb2⟩; replace hb2 := Below.then hb hb2))
      go_ret
      exact ⟨ret_bool (by unfold nameL; rw [hv, hemp]; simp), hb2⟩
  · have h1 : s.toList.isEmpty = true := by rw [empty_toList]; exact hemp
    go_enter Tryd.func127, Tryd.ntmps127
    go_wp2_with fail
    go_ret
    exact ⟨ret_bool (by unfold nameL; rw [hemp]; rfl), Below.refl _ _⟩
end Go.Proofs.YtnnpokndajpkiaaDoor
