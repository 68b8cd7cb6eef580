/- The walks of the reference for topics, further: names, filters, first levels, what covers what. Conditions: texts shorter than the model's bound for a search. -/
import Derived.Test.YtbhmflkhcadaeaaDoorRefTopic
namespace Go.Proofs.YtbhmflkhcadaeaaDoor
open Go.RowKit

theorem empty_size (s : ByteArray) : (bl s).isEmpty = decide (s.size = 0) := by
  rw [Bool.eq_iff_iff, decide_eq_true_eq, ← bl_len, List.isEmpty_iff_length_eq_zero]

theorem ref07_Name (s : ByteArray) (w : World) (hs : s.size < 4294967281) :
    Calls Tryd.prog 54 #[.string s] w fun e w' => e = .returned (.bool (nameL (bl s))) ∧ Below w.heap.size w w' := by
  have hV := Lib.hid (ref02_Valid s w (by omega))
  have hP := Lib.hid (fun w1 => ref07_plain s w1 (by omega))
  rw [show s.data.toList = bl s from rfl] at hV
  have hem := empty_size s
  by_cases h0 : s.size = 0
  · have h0' : ¬ (0 : Int) < (s.size : Int) := by omega
    rw [decide_eq_true h0] at hem
    have HM := Lib.hid hem
    clear hem
    go_enter Tryd.func54, Tryd.ntmps54
    go_wp2_with fail
    go_ret
    exact ⟨ret_bool (by unfold nameL; rw [HM.out]; rfl), Below.refl _ _⟩
  · have h0' : (0 : Int) < (s.size : Int) := by omega
    rw [decide_eq_false h0] at hem
    have HM := Lib.hid hem
    clear hem h0
    cases hv : validL (bl s)
    all_goals rw [hv] at hV
    all_goals go_enter Tryd.func54, Tryd.ntmps54
    all_goals go_wp2_with (first | (go_at_call 53; refine hV.out.mono ?_; rintro e w1 ⟨rfl, hb⟩) | (go_at_call 52; refine (hP.out _).mono ?_; rintro e w2 ⟨rfl, rfl⟩))
    all_goals go_ret
    · exact ⟨ret_bool (by unfold nameL; rw [HM.out, hv]; rfl), hb⟩
    · exact ⟨ret_bool (by unfold nameL; rw [HM.out, hv]; rfl), hb⟩

theorem levels_bound {L : List ByteArray} {s : ByteArray} (h : L.map bl = levelsL (bl s)) (hs : s.size < 4294967281) : L.length ≤ 4294967281 := by
  have h1 : L.length = (levelsL (bl s)).length := by rw [← h]; simp
  have h2 := levelsL_len (bl s)
  have h3 := bl_len s
  omega
theorem level_size {L : List ByteArray} {s x : ByteArray} {k : Nat} (h : L.map bl = levelsL (bl s)) (hx : L[k]? = some x) : x.size ≤ s.size := by
  have h1 : bl x ∈ levelsL (bl s) := by rw [← h]; exact List.mem_map.2 ⟨x, List.mem_of_getElem? hx, rfl⟩
  have h2 := levelsL_mem _ _ h1
  have h3 := bl_len x
  have h4 := bl_len s
  omega

theorem levelL_eq (x : Bs) (last : Bool) : levelL x last = !(!plainL x && !(x == [43]) && (!(x == [35]) || !last)) := by
  unfold levelL
  cases plainL x <;> cases x == [43] <;> cases x == [35] <;> cases last <;> rfl

theorem ref07_Filter (s : ByteArray) (w : World) (hs : s.size < 4294967281) :
    Calls Tryd.prog 40 #[.string s] w fun e w' => e = .returned (.bool (filterL (bl s))) ∧ Below w.heap.size w w' := by
  have hL := Lib.hid (ref07_Levels s w (by omega))
  have hP := Lib.hid (ref07_plain)
  have hV := Lib.hid (fun w1 => ref02_Valid s w1 (by omega))
  go_enter Tryd.func40, Tryd.ntmps40
  go_wp2_with (first | (go_at_call 51; refine hL.out.mono ?_; rintro e w2 ⟨L, a, c, rfl, hT, hcells, hb⟩; have hll := levels_bound hT hs; have HT := Lib.hid hT; clear hT))
  go_loopw [4] (fun i wr => ∃ k : Nat, k ≤ L.length ∧ i = .int .i64 k ∧ Hid (filterLv ((L.map bl).drop k) = filterLv (levelsL (bl s))) ∧ w2 = wr) (fun i _ => L.length - (intOf i).toNat)
  case atStart => exact ⟨0, by omega, rfl, by rw [Hid, ← HT.out]; rfl, rfl⟩
  case round =>
    obtain ⟨k, hk, rfl, HR, rfl⟩ := hrel
    by_cases hlt : k < L.length
    · obtain ⟨x, hx⟩ : ∃ x, L[k]? = some x := ⟨_, List.getElem?_eq_getElem hlt⟩
      obtain ⟨b, o, rfl, hcell⟩ := hcells.text hx
      have hxs := level_size HT.out hx
      have hxT : (L.map bl)[k]? = some (bl x) := by rw [List.getElem?_map, hx]; rfl
      have hst := filterLv_drop _ _ _ hxT
      rw [drop_empty, List.length_map] at hst
      rw [levelL_eq] at hst
      have HPx := Lib.hid (hP.out x w2 (by omega))
      have e35 : (x.toList == [35]) = (bl x == [35]) := by rw [Lib.toList_data]; rfl
      have e43 : (x.toList == [43]) = (bl x == [43]) := by rw [Lib.toList_data]; rfl
      clear hx hxT
      by_cases hlast : k + 1 < L.length
      · have hl' : (k : Int) < (L.length : Int) - 1 := by omega
        rw [decide_eq_false (show ¬ L.length ≤ k + 1 by omega)] at hst
        cases hp : plainL (bl x) <;> cases h43 : bl x == [43] <;> cases h35 : bl x == [35]
        all_goals rw [hp, h43, h35] at hst
        all_goals rw [hp] at HPx
        all_goals rw [h43] at e43
        all_goals rw [h35] at e35
        all_goals have HS := Lib.hid hst
        all_goals clear hst hp h43 h35
        all_goals go_wp2_with (first | (go_at_call 52; refine HPx.out.mono ?_; rintro e w3 ⟨rfl, rfl⟩))
        all_goals first
          | (go_ret
             refine ⟨ret_bool ?_, hb⟩
             unfold filterL
             rw [← HR.out, HS.out]
             simp; done)
          | (go_roundw
             case rel => exact ⟨k + 1, by omega, by go_num, by rw [Hid, ← HR.out, HS.out]; rfl, by first | trivial | rfl⟩
             case measure => simp [intOf]; omega)
      · have hl' : ¬ (k : Int) < (L.length : Int) - 1 := by omega
        rw [decide_eq_true (show L.length ≤ k + 1 by omega)] at hst
        cases hp : plainL (bl x) <;> cases h43 : bl x == [43] <;> cases h35 : bl x == [35]
        all_goals rw [hp, h43, h35] at hst
        all_goals rw [hp] at HPx
        all_goals rw [h43] at e43
        all_goals rw [h35] at e35
        all_goals have HS := Lib.hid hst
        all_goals clear hst hp h43 h35
        all_goals go_wp2_with (first | (go_at_call 52; refine HPx.out.mono ?_; rintro e w3 ⟨rfl, rfl⟩))
        all_goals first
          | (go_ret
             refine ⟨ret_bool ?_, hb⟩
             unfold filterL
             rw [← HR.out, HS.out]
             simp; done)
          | (go_roundw
             case rel => exact ⟨k + 1, by omega, by go_num, by rw [Hid, ← HR.out, HS.out]; rfl, by first | trivial | rfl⟩
             case measure => simp [intOf]; omega)
    · have : k = L.length := by omega
      subst this
      have hem := empty_size s
      have HF := Lib.hid (show filterLv (levelsL (bl s)) = true by rw [← HR.out, List.drop_eq_nil_of_le (by simp)]; rfl)
      by_cases h0 : s.size = 0
      · have h0' : ¬ (0 : Int) < (s.size : Int) := by omega
        rw [decide_eq_true h0] at hem
        have HM := Lib.hid hem
        clear hem
        go_wp2_with fail
        go_ret
        exact ⟨ret_bool (by unfold filterL; rw [HM.out]; rfl), hb⟩
      · have h0' : (0 : Int) < (s.size : Int) := by omega
        rw [decide_eq_false h0] at hem
        have HM := Lib.hid hem
        clear hem h0
        go_wp2_with (first | (go_at_call 53; refine (hV.out _).mono ?_; rintro e w3 ⟨rfl, hb3⟩; replace hb3 := Below.then hb hb3))
        go_ret
        exact ⟨ret_bool (by unfold filterL; rw [HM.out, HF.out]; simp [bl]), hb3⟩

theorem ref07_Wild (s : ByteArray) (w : World) (hs : s.size < 4294967281) :
    Calls Tryd.prog 62 #[.string s] w fun e w' => e = .returned (.bool (wildL (bl s))) ∧ Below w.heap.size w w' := by
  have hL := Lib.hid (ref07_Levels s w (by omega))
  go_enter Tryd.func62, Tryd.ntmps62
  go_wp2_with (first | (go_at_call 51; refine hL.out.mono ?_; rintro e w1 ⟨L, a, c, rfl, hT, hcells, hb⟩; obtain ⟨x, hx, hh, hlen⟩ := head_of hT (levelsL_ne _); obtain ⟨b, o, rfl, hcell⟩ := hcells.text hx; rw [Nat.add_zero] at hcell; have HH := Lib.hid hh; clear hT hh hx hcells))
  all_goals go_ret
  all_goals (refine ⟨ret_bool ?_, hb⟩)
  all_goals (unfold wildL headL; rw [HH.out]; unfold bl; simp only [Lib.toList_data] at *; try simp_all)

end Go.Proofs.YtbhmflkhcadaeaaDoor
