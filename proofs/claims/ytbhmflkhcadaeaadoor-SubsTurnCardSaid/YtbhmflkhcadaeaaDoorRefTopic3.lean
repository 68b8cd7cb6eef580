/- The walks of the reference's Covers and Match. Conditions: texts shorter than the model's bound for a search. -/
import Derived.Test.YtbhmflkhcadaeaaDoorRefTopic2
namespace Go.Proofs.YtbhmflkhcadaeaaDoor
open Go.RowKit

/-- What stands behind the guards of Covers: the loop over the levels. -/
theorem ref07_Covers_false (a b : ByteArray) (w : World) (ha : a.size < 4294967281) (hb : b.size < 4294967281) (h : filterL (bl a) = false ∨ filterL (bl b) = false) :
    Calls Tryd.prog 55 #[.string a, .string b] w fun e w' => e = .returned (.bool (coversL (bl a) (bl b))) ∧ Below w.heap.size w w' := by
  have hF1 := Lib.hid (ref07_Filter a w ha)
  have hF2 := Lib.hid (fun w1 => ref07_Filter b w1 hb)
  cases hfa : filterL (bl a)
  · rw [hfa] at hF1
    clear h
    go_enter Tryd.func55, Tryd.ntmps55
    go_wp2_with fail
    refine hF1.out.mono ?_
    rintro e w1 ⟨rfl, hb1⟩
    go_wp2_with fail
    go_ret
    exact ⟨ret_bool (by unfold coversL; rw [hfa]; rfl), hb1⟩
  · rw [hfa] at hF1 h
    have hfb : filterL (bl b) = false := by simpa using h
    rw [hfb] at hF2
    clear h
    go_enter Tryd.func55, Tryd.ntmps55
    go_wp2_with fail
    refine hF1.out.mono ?_
    rintro e w1 ⟨rfl, hb1⟩
    go_wp2_with fail
    refine (hF2.out _).mono ?_
    rintro e w2 ⟨rfl, hb2⟩
    replace hb2 := Below.then hb1 hb2
    go_wp2_with fail
    go_ret
    exact ⟨ret_bool (by unfold coversL; rw [hfa, hfb]; rfl), hb2⟩

theorem filter_head (b : ByteArray) (h : filterL (bl b) = true) : ∃ h0 : 0 < b.size, (bl b).head? = some (b[0]'h0) := by
  have hne : (bl b).isEmpty = false := by
    unfold filterL at h
    cases he : (bl b).isEmpty
    · rfl
    · rw [he] at h; simp at h
  have h0 : 0 < b.size := by
    rw [empty_size] at hne
    have := of_decide_eq_false hne
    omega
  refine ⟨h0, ?_⟩
  rw [List.head?_eq_getElem?, get_bl b 0 h0]

set_option maxRecDepth 100000 in
set_option maxHeartbeats 8000000 in
theorem ref07_Covers_round (a b : ByteArray) (w : World) (ha : a.size < 4294967281) (hb : b.size < 4294967281) (hfa : filterL (bl a) = true) (hfb : filterL (bl b) = true) :
    Calls Tryd.prog 55 #[.string a, .string b] w fun e w' => e = .returned (.bool (coversL (bl a) (bl b))) ∧ Below w.heap.size w w' := by
  have hF1 := Lib.hid (ref07_Filter a w ha)
  have hF2 := Lib.hid (fun w1 => ref07_Filter b w1 hb)
  have hW := Lib.hid (fun w1 => ref07_Wild a w1 ha)
  have hL1 := Lib.hid (fun w1 => ref07_Levels a w1 (by omega))
  have hL2 := Lib.hid (fun w1 => ref07_Levels b w1 (by omega))
  rw [hfa] at hF1
  rw [hfb] at hF2
  obtain ⟨h0, hhead⟩ := filter_head b hfb
  have HH := Lib.hid hhead
  clear hhead
  have shut : ∀ (v : Bool), wildL (bl a) = v → (v = true → (b[0]'h0) = 36 → False) → coversL (bl a) (bl b) = coversLv (levelsL (bl a)) (levelsL (bl b)) := by
    intro v hv hn
    unfold coversL
    rw [hfa, hfb, HH.out, hv]
    cases v
    · simp
    · have : ((some (b[0]'h0) : Option UInt8) == some 36) = false := by
        rw [beq_eq_false_iff_ne]; intro h; exact hn rfl (by simpa using h)
      rw [this]; simp
  have SH := Lib.hid shut
  clear shut
  have close : coversL (bl a) (bl b) = coversLv (levelsL (bl a)) (levelsL (bl b)) → ∀ (x : Bool) (w' : World), coversLv (levelsL (bl a)) (levelsL (bl b)) = x → Below w.heap.size w w' → Ending.returned (.bool x) = .returned (.bool (coversL (bl a) (bl b))) ∧ Below w.heap.size w w' := by
    rintro h x w' rfl hb; exact ⟨ret_bool h.symm, hb⟩
  have CL := Lib.hid close
  clear close
  -- the three ways past the guard: not wild; wild, and the other one begins otherwise
  have ways : (wildL (bl a) = true ∧ (b[0]'h0) = 36) ∨ (coversL (bl a) (bl b) = coversLv (levelsL (bl a)) (levelsL (bl b)) ∧ (wildL (bl a) = false ∨ (wildL (bl a) = true ∧ ((b[0]'h0).toNat : Int) ≠ 36))) := by
    cases hv : wildL (bl a)
    · exact Or.inr ⟨SH.out false hv (by intro h; cases h), Or.inl rfl⟩
    · by_cases h36 : (b[0]'h0) = 36
      · exact Or.inl ⟨rfl, h36⟩
      · refine Or.inr ⟨SH.out true hv (fun _ h => h36 h), Or.inr ⟨rfl, ?_⟩⟩
        intro h
        apply h36
        apply UInt8.toNat.inj
        have : (36 : UInt8).toNat = 36 := rfl
        omega
  rcases ways with ⟨hwa, h36⟩ | ⟨hcov, hway⟩
  · rw [hwa] at hW
    have h36' : ((b[0]'h0).toNat : Int) = 36 := by rw [h36]; rfl
    have hv := Lib.hid (show coversL (bl a) (bl b) = false by unfold coversL; rw [hwa, HH.out, h36]; simp)
    clear hwa h36
    go_enter Tryd.func55, Tryd.ntmps55
    go_wp2_with fail
    refine hF1.out.mono ?_
    rintro e w1 ⟨rfl, hb1⟩
    go_wp2_with fail
    refine (hF2.out _).mono ?_
    rintro e w2 ⟨rfl, hb2⟩
    replace hb2 := Below.then hb1 hb2
    go_wp2_with fail
    refine (hW.out _).mono ?_
    rintro e w3 ⟨rfl, hb3⟩
    replace hb3 := Below.then hb2 hb3
    go_wp2_with fail
    go_ret
    exact ⟨ret_bool (by rw [hv.out]), hb3⟩
  · have FIN := Lib.hid (CL.out hcov)
    clear hcov CL SH HH
    have step : ∀ v : Bool, wildL (bl a) = v → (v = true → ¬ ((b[0]'h0).toNat : Int) = 36) → Calls Tryd.prog 55 #[.string a, .string b] w fun e w' => e = .returned (.bool (coversL (bl a) (bl b))) ∧ Below w.heap.size w w' := by
      intro v hv hn
      rw [hv] at hW
      clear hv hway
      cases v
      all_goals try have h36 := hn rfl
      all_goals clear hn
      all_goals
        go_enter Tryd.func55, Tryd.ntmps55
        go_wp2_with fail
        refine hF1.out.mono ?_
        rintro e w1 ⟨rfl, hb1⟩
        go_wp2_with fail
        refine (hF2.out _).mono ?_
        rintro e w2 ⟨rfl, hb2⟩
        replace hb2 := Below.then hb1 hb2
        go_wp2_with fail
        refine (hW.out _).mono ?_
        rintro e w3 ⟨rfl, hb3⟩
        replace hb3 := Below.then hb2 hb3
        go_wp2_with fail
        refine (hL1.out _).mono ?_
        rintro e w4 ⟨A, pa, ca, rfl, hT, hcells, hb4⟩
        have hb4' := Below.then hb3 hb4
        have hlA := levels_bound hT ha
        have HT := Lib.hid hT
        clear hT
        go_wp2_with fail
        refine (hL2.out _).mono ?_
        rintro e w5 ⟨B, pb, cb, rfl, hU, hcells2, hb5⟩
        have hb5' := Below.then hb4' hb5
        have hcellsA := hcells.below hb5
        have hlB := levels_bound hU hb
        have HU := Lib.hid hU
        clear hU hb1 hb2 hb3 hb4 hb4' hb5 hcells
        go_wp2_with fail
        go_loopw [7] (fun i wr => ∃ k : Nat, k ≤ A.length ∧ k ≤ B.length ∧ i = .int .i64 k ∧ Hid (coversLv ((A.map bl).drop k) ((B.map bl).drop k) = coversLv (levelsL (bl a)) (levelsL (bl b))) ∧ Below w5.heap.size w5 wr ∧ Below w.heap.size w wr) (fun i _ => A.length - (intOf i).toNat)
        case atStart => exact ⟨0, by omega, by omega, rfl, by rw [Hid, ← HT.out, ← HU.out]; rfl, Below.refl _ _, hb5'⟩
        case round =>
          obtain ⟨k, hkA, hkB, rfl, HR, hb6, hb7⟩ := hrel
          by_cases hlt : k < A.length
          · obtain ⟨x, hx⟩ : ∃ x, A[k]? = some x := ⟨_, List.getElem?_eq_getElem hlt⟩
            obtain ⟨ba, oa, rfl, hcx⟩ := (hcellsA.below hb6).text hx
            have hS := coversLv_step (A.map bl) (B.map bl) k (bl x) (by rw [List.getElem?_map, hx]; rfl)
            cases hx35 : bl x == [35]
            · have e35 := eq35 x _ hx35
              rw [hx35] at hS
              by_cases hlb : k < B.length
              · obtain ⟨y, hy⟩ : ∃ y, B[k]? = some y := ⟨_, List.getElem?_eq_getElem hlb⟩
                obtain ⟨bb, ob, rfl, hcy⟩ := (hcells2.below hb6).text hy
                have hyT : (B.map bl)[k]? = some (bl y) := by rw [List.getElem?_map, hy]; rfl
                rw [hyT] at hS
                simp only [Bool.false_eq_true, if_false] at hS
                have hge : decide (B.length ≤ k) = false := decide_eq_false (by omega)
                have e43 := eq43 x _ rfl
                have exy := eqTwo x y _ rfl
                clear hx hy hyT
                cases hy35 : bl y == [35]
                · have f35 := eq35 y _ hy35
                  rw [hy35, if_neg Bool.false_ne_true] at hS
                  cases hx43 : bl x == [43]
                  · rw [hx43] at hS e43
                    cases hxy : bl x == bl y
                    all_goals rw [hxy] at hS exy
                    all_goals have HS := Lib.hid hS
                    all_goals clear hS hy35 hx43 hxy
                    all_goals go_wp2_with fail
                    all_goals go_quiet (fail)
                    all_goals generalize hw2 : World.drewN wr _ = w9
                    all_goals have hq := below_draws hw2
                    all_goals clear hw2
                    all_goals have hq1 := Below.then hb6 hq
                    all_goals have hq2 := Below.then hb7 hq
                    all_goals go_wp2_with fail
                    · go_ret
                      exact FIN.out _ _ (by rw [← HR.out, HS.out]; rfl) hq2
                    · go_roundw
                      case rel => exact ⟨k + 1, by omega, by omega, by go_num, by rw [Hid, ← HR.out, HS.out]; rfl, hq1, hq2⟩
                      case measure => simp [intOf]; omega
                  · rw [hx43] at hS e43
                    have HS := Lib.hid hS
                    clear hS hy35 hx43 exy
                    go_wp2_with fail
                    go_quiet (fail)
                    generalize hw2 : World.drewN wr _ = w9
                    have hq := below_draws hw2
                    clear hw2
                    have hq1 := Below.then hb6 hq
                    have hq2 := Below.then hb7 hq
                    go_wp2_with fail
                    go_roundw
                    case rel => exact ⟨k + 1, by omega, by omega, by go_num, by rw [Hid, ← HR.out, HS.out]; rfl, hq1, hq2⟩
                    case measure => simp [intOf]; omega
                · have f35 := eq35 y _ hy35
                  rw [hy35] at hS
                  have HS := Lib.hid hS
                  clear hS hy35 e43 exy
                  go_wp2_with fail
                  go_quiet (fail)
                  generalize hw2 : World.drewN wr _ = w9
                  have hq := below_draws hw2
                  clear hw2
                  have hq2 := Below.then hb7 hq
                  go_wp2_with fail
                  go_ret
                  exact FIN.out _ _ (by rw [← HR.out, HS.out]; rfl) hq2
              · have hyT : (B.map bl)[k]? = none := List.getElem?_eq_none (by simp; omega)
                rw [hyT] at hS
                obtain rfl : k = B.length := by omega
                have hge : decide ((B.length : Int) ≤ (B.length : Int)) = true := by simp
                have HS := Lib.hid hS
                clear hS hyT hx
                go_wp2_with fail
                go_quiet (fail)
                generalize hw2 : World.drewN wr _ = w9
                have hq := below_draws hw2
                clear hw2
                have hq2 := Below.then hb7 hq
                go_wp2_with fail
                go_ret
                exact FIN.out _ _ (by rw [← HR.out, HS.out]; rfl) hq2
            · have e35 := eq35 x _ hx35
              rw [hx35] at hS
              have HS := Lib.hid hS
              clear hS hx
              go_wp2_with fail
              go_ret
              exact FIN.out _ _ (by rw [← HR.out, HS.out]; rfl) hb7
          · have : k = A.length := by omega
            subst this
            go_wp2_with fail
            go_ret
            refine FIN.out _ _ ?_ hb7
            rw [← HR.out]
            have h := coversLv_end (A.map bl) ((B.map bl).drop A.length)
            rw [List.length_map] at h
            rw [h, Bool.eq_iff_iff]
            simp; omega
    rcases hway with hv | ⟨hv, hn⟩
    · exact step false hv (by intro h; cases h)
    · exact step true hv (fun _ => hn)

theorem ref07_Covers (a b : ByteArray) (w : World) (ha : a.size < 4294967281) (hb : b.size < 4294967281) :
    Calls Tryd.prog 55 #[.string a, .string b] w fun e w' => e = .returned (.bool (coversL (bl a) (bl b))) ∧ Below w.heap.size w w' := by
  cases hfa : filterL (bl a)
  · exact ref07_Covers_false a b w ha hb (Or.inl hfa)
  · cases hfb : filterL (bl b)
    · exact ref07_Covers_false a b w ha hb (Or.inr hfb)
    · exact ref07_Covers_round a b w ha hb hfa hfb

theorem ref07_Match (a b : ByteArray) (w : World) (ha : a.size < 4294967281) (hb : b.size < 4294967281) :
    Calls Tryd.prog 42 #[.string a, .string b] w fun e w' => e = .returned (.bool (matchL (bl a) (bl b))) ∧ Below w.heap.size w w' := by
  have hN := Lib.hid (ref07_Name b w hb)
  have hC := Lib.hid (fun w1 => ref07_Covers a b w1 ha hb)
  cases hn : nameL (bl b)
  all_goals rw [hn] at hN
  all_goals go_enter Tryd.func42, Tryd.ntmps42
  all_goals go_wp2_with (first | (go_at_call 54; refine hN.out.mono ?_; rintro e w1 ⟨rfl, hb1⟩) | (go_at_call 55; refine (hC.out _).mono ?_; rintro e w2 ⟨rfl, hb2⟩; replace hb2 := Below.then hb1 hb2))
  all_goals go_ret
  · exact ⟨ret_bool (by unfold matchL; rw [hn]; rfl), hb1⟩
  · exact ⟨ret_bool (by unfold matchL; rw [hn]; rfl), hb2⟩
end Go.Proofs.YtbhmflkhcadaeaaDoor
