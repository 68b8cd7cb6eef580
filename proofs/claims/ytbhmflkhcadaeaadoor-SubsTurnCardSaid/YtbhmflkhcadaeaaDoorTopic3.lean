/- The walks of the program's Covers and Match. Conditions: the decoder's tables lie as Go lays them; texts shorter than the model's bound for a search. -/
import Derived.Test.YtbhmflkhcadaeaaDoorTopic2
import Derived.Laws.EntriesVeiled
namespace Go.Proofs.YtbhmflkhcadaeaaDoor
open Go.RowKit

theorem topic_covers (a b : Option Addr) (ca cb : Nat) (A B : List ByteArray) (hA : A.length ≤ 4294967281) (hB : B.length ≤ 4294967281) (w : World) (ha : CellsA w a (A.map Value.string)) (hb : CellsA w b (B.map Value.string)) :
    Calls Tryd.prog 48 #[.slice a A.length ca, .slice b B.length cb] w fun e w' => e = .returned (.bool (coversLv (A.map bl) (B.map bl))) ∧ Below w.heap.size w w' := by
  have hC := Lib.hid (covers_from w.heap.size (w.heap.size + 1) (w.heap.size + 2) a b ca cb A B hA hB A.length 0)
  have HA := Lib.hid ha
  have HB := Lib.hid hb
  clear ha hb
  go_enter Tryd.func48, Tryd.ntmps48
  go_wp2_with fail
  refine (hC.out _ (by omega) (by omega) ?_).mono ?_
  · refine ⟨?_, ?_, ?_, HA.out.below (by go_grown), HB.out.below (by go_grown)⟩
    all_goals simp [go_sem]
  · rintro e w' ⟨rfl, n, rfl⟩
    go_wp2_with fail
    go_ret
    exact ⟨rfl, below_add (by go_grown) n⟩

theorem topic_Covers (a b : ByteArray) (w : World) (hE : Env w) (ha : a.size < 4294967281) (hb : b.size < 4294967281) :
    Calls Tryd.prog 36 #[.string a, .string b] w fun e w' => e = .returned (.bool (coversL (bl a) (bl b))) ∧ Below w.heap.size w w' := by
  have hF1 := Lib.hid (topic_Filter a w hE ha)
  have hF2 := Lib.hid (fun w1 (h : Env w1) => topic_Filter b w1 h hb)
  have hW := Lib.hid (fun w1 (h : Env w1) => topic_wild a w1 h ha)
  have hL1 := Lib.hid (fun w1 (h : Env w1) => topic_Levels a w1 h ha)
  have hL2 := Lib.hid (fun w1 (h : Env w1) => topic_Levels b w1 h hb)
  have hC := Lib.hid (topic_covers)
  cases hfa : filterL (bl a)
  · rw [hfa] at hF1
    go_enter Tryd.func36, Tryd.ntmps36
    go_wp2_with fail
    refine hF1.out.mono ?_
    rintro e w1 ⟨rfl, hb1⟩
    go_wp2_with fail
    go_ret
    exact ⟨ret_bool (by unfold coversL; rw [hfa]; rfl), hb1⟩
  rw [hfa] at hF1
  cases hfb : filterL (bl b)
  · rw [hfb] at hF2
    go_enter Tryd.func36, Tryd.ntmps36
    go_wp2_with fail
    refine hF1.out.mono ?_
    rintro e w1 ⟨rfl, hb1⟩
    go_wp2_with fail
    refine (hF2.out _ (hE.below hb1)).mono ?_
    rintro e w2 ⟨rfl, hb2⟩
    replace hb2 := Below.then hb1 hb2
    go_wp2_with fail
    go_ret
    exact ⟨ret_bool (by unfold coversL; rw [hfa, hfb]; rfl), hb2⟩
  rw [hfb] at hF2
  have hne : (bl b).isEmpty = false := by
    unfold filterL at hfb
    cases h : (bl b).isEmpty
    · rfl
    · rw [h] at hfb; simp at hfb
  have h0 : 0 < b.size := by
    have hL := Lib.size_eq b
    cases h : bl b with
    | nil => rw [h] at hne; simp at hne
    | cons x t => have : b.data.toList = x :: t := h; rw [this] at hL; simp at hL; omega
  have hhead : (bl b).head? = some (b[0]'h0) := by
    have e : (b[0]'h0) = b.data.toList[0]'(by rw [← Lib.size_eq]; exact h0) := rfl
    rw [e, List.head?_eq_getElem?]
    exact List.getElem?_eq_getElem _
  have LA : ∀ (L : List ByteArray) (s : ByteArray), L.map bl = levelsL (bl s) → s.size < 4294967281 → L.length ≤ 4294967281 := by
    intro L s h hs
    have h1 : L.length = (levelsL (bl s)).length := by rw [← h]; simp
    have h2 := levelsL_len (bl s)
    have h3 : (bl s).length = s.size := (Lib.size_eq s).symm
    omega
  have HLA := Lib.hid LA
  have HH := Lib.hid hhead
  clear LA hne hhead
  cases hwa : wildL (bl a)
  · rw [hwa] at hW
    go_enter Tryd.func36, Tryd.ntmps36
    go_wp2_with fail
    refine hF1.out.mono ?_
    rintro e w1 ⟨rfl, hb1⟩
    go_wp2_with fail
    refine (hF2.out _ (hE.below hb1)).mono ?_
    rintro e w2 ⟨rfl, hb2⟩
    replace hb2 := Below.then hb1 hb2
    go_wp2_with fail
    refine (hW.out _ (hE.below hb2)).mono ?_
    rintro e w3 ⟨rfl, hb3⟩
    replace hb3 := Below.then hb2 hb3
    go_wp2_with fail
    refine (hL1.out _ (hE.below hb3)).mono ?_
    rintro e w4 ⟨L, la, lc, rfl, hT, hcells, hb4⟩
    have hb4' := Below.then hb3 hb4
    have HT := Lib.hid hT
    clear hT
    go_wp2_with fail
    refine (hL2.out _ (hE.below hb4')).mono ?_
    rintro e w5 ⟨M, ma, mc, rfl, hU, hcells2, hb5⟩
    have hb5' := Below.then hb4' hb5
    have HU := Lib.hid hU
    clear hU
    go_wp2_with fail
    refine (hC.out la ma lc mc L M (HLA.out _ _ HT.out ha) (HLA.out _ _ HU.out hb) _ (hcells.below hb5) hcells2).mono ?_
    rintro e w6 ⟨rfl, hb6⟩
    replace hb6 := Below.then hb5' hb6
    go_wp2_with fail
    go_ret
    exact ⟨ret_bool (by unfold coversL; rw [hfa, hfb, hwa, HT.out, HU.out]; simp), hb6⟩
  · rw [hwa] at hW
    by_cases h36 : (b[0]'h0) = 36
    · have h36' : ((b[0]'h0).toNat : Int) = 36 := by rw [h36]; rfl
      go_enter Tryd.func36, Tryd.ntmps36
      go_wp2_with fail
      refine hF1.out.mono ?_
      rintro e w1 ⟨rfl, hb1⟩
      go_wp2_with fail
      refine (hF2.out _ (hE.below hb1)).mono ?_
      rintro e w2 ⟨rfl, hb2⟩
      replace hb2 := Below.then hb1 hb2
      go_wp2_with fail
      refine (hW.out _ (hE.below hb2)).mono ?_
      rintro e w3 ⟨rfl, hb3⟩
      replace hb3 := Below.then hb2 hb3
      go_wp2_with fail
      go_ret
      exact ⟨ret_bool (by unfold coversL; rw [hwa, HH.out, h36]; simp), hb3⟩
    · have h36' : ¬ ((b[0]'h0).toNat : Int) = 36 := by
        intro h
        apply h36
        apply UInt8.toNat.inj
        have : (36 : UInt8).toNat = 36 := rfl
        omega
      have H36 : ((bl b).head? == some 36) = false := by rw [HH.out]; simpa using h36
      have HH36 := Lib.hid H36
      clear H36 h36
      go_enter Tryd.func36, Tryd.ntmps36
      go_wp2_with fail
      refine hF1.out.mono ?_
      rintro e w1 ⟨rfl, hb1⟩
      go_wp2_with fail
      refine (hF2.out _ (hE.below hb1)).mono ?_
      rintro e w2 ⟨rfl, hb2⟩
      replace hb2 := Below.then hb1 hb2
      go_wp2_with fail
      refine (hW.out _ (hE.below hb2)).mono ?_
      rintro e w3 ⟨rfl, hb3⟩
      replace hb3 := Below.then hb2 hb3
      go_wp2_with fail
      refine (hL1.out _ (hE.below hb3)).mono ?_
      rintro e w4 ⟨L, la, lc, rfl, hT, hcells, hb4⟩
      have hb4' := Below.then hb3 hb4
      have HT := Lib.hid hT
      clear hT
      go_wp2_with fail
      refine (hL2.out _ (hE.below hb4')).mono ?_
      rintro e w5 ⟨M, ma, mc, rfl, hU, hcells2, hb5⟩
      have hb5' := Below.then hb4' hb5
      have HU := Lib.hid hU
      clear hU
      go_wp2_with fail
      refine (hC.out la ma lc mc L M (HLA.out _ _ HT.out ha) (HLA.out _ _ HU.out hb) _ (hcells.below hb5) hcells2).mono ?_
      rintro e w6 ⟨rfl, hb6⟩
      replace hb6 := Below.then hb5' hb6
      go_wp2_with fail
      go_ret
      exact ⟨ret_bool (by unfold coversL; rw [hfa, hfb, HH36.out, HT.out, HU.out]; simp), hb6⟩

theorem topic_Match (a b : ByteArray) (w : World) (hE : Env w) (ha : a.size < 4294967281) (hb : b.size < 4294967281) :
    Calls Tryd.prog 25 #[.string a, .string b] w fun e w' => e = .returned (.bool (matchL (bl a) (bl b))) ∧ Below w.heap.size w w' := by
  have hN := Lib.hid (topic_Name b w hE hb)
  have hC := Lib.hid (fun w1 (h : Env w1) => topic_Covers a b w1 h ha hb)
  cases hn : nameL (bl b)
  all_goals rw [hn] at hN
  all_goals go_enter Tryd.func25, Tryd.ntmps25
  all_goals go_wp2_with (first | (go_at_call 35; refine hN.out.mono ?_; rintro e w1 ⟨rfl, hb1⟩) | (go_at_call 36; refine (hC.out _ (hE.below hb1)).mono ?_; rintro e w2 ⟨rfl, hb2⟩; replace hb2 := Below.then hb1 hb2))
  all_goals go_ret
  · exact ⟨ret_bool (by unfold matchL; rw [hn]; rfl), hb1⟩
  · exact ⟨ret_bool (by unfold matchL; rw [hn]; rfl), hb2⟩
end Go.Proofs.YtbhmflkhcadaeaaDoor
