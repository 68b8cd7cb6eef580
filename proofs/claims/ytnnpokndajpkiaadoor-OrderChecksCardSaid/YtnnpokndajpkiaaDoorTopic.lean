import Derived.Test.YtnnpokndajpkiaaDoorJoinI
import Derived.Test.YtnnpokndajpkiaaDoorJoinA
namespace Go.Proofs.YtnnpokndajpkiaaDoor
open Go.RowKit
theorem topic_Levels (s : ByteArray) (w : World) (hE : Env w) (hs : s.size < 4294967281) :
    Calls Tryd.prog 128 #[.string s] w (RetTexts (levelsL (bl s)) w) := by
  obtain ⟨m, hm⟩ := hE.most; have hL := Lib.splitB_all ⟨#[47]⟩ (by decide) 0 _ s rfl; have hD := Lib.splitB_data ⟨#[47]⟩ 0 (Lib.countB s ⟨#[47]⟩) s; have hC := Lib.hid (Tryd.strings_Split s ⟨#[47]⟩ m w hs hm (by decide)); rw [← hL] at hC; generalize Lib.splitB ⟨#[47]⟩ 0 (Lib.countB s ⟨#[47]⟩) s = L at *; have hD' : L.map bl = levelsL (bl s) := by
    show L.map (·.data.toList) = _; rw [hD]; exact splitK_levels _
  clear hD hL; have HD := Lib.hid hD'; clear hD'; go_enter Tryd.func128, Tryd.ntmps128
  go_wp2_with (first | (go_at_call 136; refine hC.out.mono ?_; rintro e w' ⟨rfl, hw⟩; rw [hw]))
  go_ret
  refine ⟨L, _, _, rfl, HD.out, ?_, by go_grown⟩; intro j v hv; refine ⟨_, _, rfl, ?_⟩; rw [Nat.zero_add]; rw [cell_of_row _ _ _ _ _ _ (heap_alloc_new w _)]; simpa using hv
theorem topic_level (x : ByteArray) (last : Bool) (w : World) (hs : x.size < 4294967281) :
    Calls Tryd.prog 129 #[.string x, .bool last] w fun e w' => e = .returned (.bool (levelL (bl x) last)) ∧ Below w.heap.size w w' := by
  have hC := Lib.hid (ContainsAny_pm x); go_enter Tryd.func129, Tryd.ntmps129
  go_wp2_with (first | (go_at_call 135; refine (hC.out _ hs).mono ?_; rintro e w1 ⟨rfl, hb⟩))
  all_goals go_ret
  all_goals (refine ⟨ret_bool ?_, by first | assumption | exact Below.refl _ _⟩)
  all_goals (unfold levelL bl; simp only [Lib.toList_data] at *; by_cases h43 : x.data.toList = [43] <;> by_cases h35 : x.data.toList = [35] <;> cases last <;> first | (simp_all; done) | (rw [beqF h43, beqF h35] at *; simp_all; done) | (simp [beqF h43, beqF h35]; done))
theorem topic_Filter (s : ByteArray) (w : World) (hE : Env w) (hs : s.size < 4294967281) :
    Calls Tryd.prog 120 #[.string s] w fun e w' => e = .returned (.bool (filterL (bl s))) ∧ Below w.heap.size w w' := by
  have hV := Lib.hid (text_Valid s w hE (by omega)); have hL := Lib.hid (fun w1 (h : Env w1) => topic_Levels s w1 h hs); have hlv := Lib.hid (topic_level); by_cases hemp : (bl s).isEmpty = true
  · have h1 : s.toList.isEmpty = true := by rw [empty_toList]; exact hemp
    go_enter Tryd.func120, Tryd.ntmps120
    go_wp2_with fail
    go_ret
    exact ⟨ret_bool (by unfold filterL; rw [hemp]; rfl), Below.refl _ _⟩
  · have hemp' : (bl s).isEmpty = false := by simpa using hemp
    have h1 : s.toList.isEmpty = false := by rw [empty_toList]; exact hemp'
    cases hv : validL (bl s)
    · rw [show s.data.toList = bl s from rfl, hv] at hV
      go_enter Tryd.func120, Tryd.ntmps120
      go_wp2_with (first | (go_at_call 124; refine hV.out.mono ?_; rintro e w1 ⟨rfl, hb⟩))
      go_ret
      exact ⟨ret_bool (by unfold filterL; rw [hv]; simp), hb⟩
    · rw [show s.data.toList = bl s from rfl, hv] at hV
      have fin : ∀ (b : Bool) (w' : World), filterLv (levelsL (bl s)) = b → Below w.heap.size w w' → Ending.returned (.bool b) = .returned (.bool (filterL (bl s))) ∧ Below w.heap.size w w' := by
        rintro b w' rfl h; refine ⟨ret_bool ?_, h⟩; unfold filterL; rw [hemp', hv]; rfl
      have FIN := Lib.hid fin; clear fin; go_enter Tryd.func120, Tryd.ntmps120
      go_wp2_with (first | (go_at_call 124; refine hV.out.mono ?_; rintro e w1 ⟨rfl, hb1⟩) | (go_at_call 128; refine (hL.out _ (hE.below hb1)).mono ?_; rintro e w2 ⟨L, a, c, rfl, hT, hcells, hb⟩; replace hb := Below.then hb1 hb; have HT := Lib.hid hT; clear hT hb1))
      have hlen : L.length = (levelsL (bl s)).length := by rw [← HT.out]; simp
      have hlen2 := levelsL_len (bl s); have hsz : (bl s).length = s.size := (Lib.size_eq s).symm; have hll : L.length ≤ 4294967281 := by omega
      clear hlen hlen2 hsz; go_loopw [17] (fun i wr => ∃ k : Nat, k ≤ L.length ∧ i = .int .i64 k ∧ Hid (filterLv ((L.map bl).drop k) = filterLv (levelsL (bl s))) ∧ Below w.heap.size w wr ∧ Below w2.heap.size w2 wr) (fun i _ => L.length - (intOf i).toNat)
      case atStart => exact ⟨0, by omega, rfl, by rw [Hid, ← HT.out]; rfl, hb, Below.refl _ _⟩
      case round =>
        obtain ⟨k, hk, rfl, HP, hbr, hb2⟩ := hrel; by_cases hlt : k < L.length
        · obtain ⟨x, hx⟩ : ∃ x, L[k]? = some x := ⟨_, List.getElem?_eq_getElem hlt⟩
          obtain ⟨b, o, rfl, hcell⟩ := (hcells.below hb2).text hx; have hxT : (L.map bl)[k]? = some (bl x) := by rw [List.getElem?_map, hx]; rfl
          have hst := filterLv_drop _ _ _ hxT; rw [drop_empty, List.length_map] at hst; have hxs : x.size < 4294967281 := by
            have h1 : bl x ∈ levelsL (bl s) := by rw [← HT.out]; exact List.mem_of_getElem? hxT
            have h2 := levelsL_mem _ _ h1; have h3 : (bl x).length = x.size := (Lib.size_eq x).symm; have h4 : (bl s).length = s.size := (Lib.size_eq s).symm; omega
          have hlast : (((k : Int) == (L.length : Int) - 1) : Bool) = decide (L.length ≤ k + 1) := by
            rw [Bool.eq_iff_iff]; simp; omega
          rw [← hlast] at hst; have HS := Lib.hid hst; clear hst hlast hxT; cases hr : levelL (bl x) ((k : Int) == (L.length : Int) - 1)
          · have HL := Lib.hid (hlv.out x ((k : Int) == (L.length : Int) - 1) wr hxs)
            rw [hr] at HL HS; clear hx hr; go_wp2_with (first | (go_at_call 129; refine HL.out.mono ?_; rintro e w3 ⟨rfl, hb3⟩; replace hb3 := Below.then hbr hb3))
            go_ret
            exact FIN.out _ _ (by rw [← HP.out, HS.out]; rfl) hb3
          · have HL := Lib.hid (hlv.out x ((k : Int) == (L.length : Int) - 1) wr hxs)
            rw [hr] at HL HS; clear hx hr; go_wp2_with (first | (go_at_call 129; refine HL.out.mono ?_; rintro e w3 ⟨rfl, hb3⟩; have hb4 := Below.then hb2 hb3; replace hb3 := Below.then hbr hb3))
            go_roundw
            case rel => exact ⟨k + 1, by omega, by go_num, by rw [Hid, ← HP.out, HS.out]; rfl, hb3, hb4⟩
            case measure => simp [intOf]; omega
        · have : k = L.length := by omega
          subst this; go_wp2_with fail
          go_ret
          exact FIN.out _ _ (by rw [← HP.out, List.drop_eq_nil_of_le (by simp)]; rfl) hbr
end Go.Proofs.YtnnpokndajpkiaaDoor
