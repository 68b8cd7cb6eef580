/- The walks of the program's package packet on texts: names and filters. Conditions: the decoder's tables lie as Go lays them; texts shorter than the model's bound for a search. -/
import Derived.Test.YtcghokbcjbbbhaaDoorIndex2
import Derived.Test.YtcghokbcjbbbhaaDoorJoinA
namespace Go.Proofs.YtcghokbcjbbbhaaDoor
open Go.RowKit

/-- A text's levels, by the library's Split. -/
theorem split_levels (s : ByteArray) (w : World) (hE : Env w) (hs : s.size < 4294967281) : Calls Tryd.prog 110 #[.string s, .string ⟨#[47]⟩] w (RetTexts (levelsL (bl s)) w) := by
  obtain ⟨m, hm⟩ := hE.most
  have hL := Lib.splitB_all ⟨#[47]⟩ (by decide) 0 _ s rfl
  have hD := Lib.splitB_data ⟨#[47]⟩ 0 (Lib.countB s ⟨#[47]⟩) s
  have hC := Tryd.strings_Split s ⟨#[47]⟩ m w hs hm (by decide)
  rw [← hL] at hC
  generalize Lib.splitB ⟨#[47]⟩ 0 (Lib.countB s ⟨#[47]⟩) s = L at *
  have hD' : L.map bl = levelsL (bl s) := by
    show L.map (·.data.toList) = _
    rw [hD]
    exact splitK_levels _
  refine hC.mono ?_
  rintro e w' ⟨rfl, hw⟩
  subst hw
  refine ⟨L, _, _, rfl, hD', ?_, by go_grown⟩
  intro j v hv
  refine ⟨_, _, rfl, ?_⟩
  rw [Nat.zero_add]
  rw [cell_of_row _ _ _ _ _ _ (heap_alloc_new w _)]
  simpa using hv

theorem packet_name (s : ByteArray) (w : World) (hE : Env w) (hs : s.size < 4294967281) :
    Calls Tryd.prog 96 #[.string s] w fun e w' => e = .returned (.bool (nameL (bl s))) ∧ Below w.heap.size w w' := by
  have hV := Lib.hid (text_Valid s w hE (by omega))
  have hC := Lib.hid (fun w1 => ContainsAny_pm s w1 hs)
  rw [show s.data.toList = bl s from rfl] at hV hC
  cases hemp : (bl s).isEmpty
  · have h1 : s.toList.isEmpty = false := by rw [empty_toList]; exact hemp
    cases hv : validL (bl s)
    · rw [hv] at hV
      go_enter Tryd.func96, Tryd.ntmps96
      go_wp2_with (first | (go_at_call 95; refine hV.out.mono ?_; rintro e w1 ⟨rfl, hb⟩))
      go_ret
      exact ⟨ret_bool (by unfold nameL; rw [hv]; simp), hb⟩
    · rw [hv] at hV
      go_enter Tryd.func96, Tryd.ntmps96
      go_wp2_with (first | (go_at_call 95; refine hV.out.mono ?_; rintro e w1 ⟨rfl, hb⟩) | (go_at_call 109; refine (hC.out _).mono ?_; rintro e w2 ⟨rfl, hb2⟩; replace hb2 := Below.then hb hb2))
      go_ret
      exact ⟨ret_bool (by unfold nameL; rw [hv, hemp]; simp), hb2⟩
  · have h1 : s.toList.isEmpty = true := by rw [empty_toList]; exact hemp
    go_enter Tryd.func96, Tryd.ntmps96
    go_wp2_with fail
    go_ret
    exact ⟨ret_bool (by unfold nameL; rw [hemp]; rfl), Below.refl _ _⟩

theorem packet_filter (s : ByteArray) (w : World) (hE : Env w) (hs : s.size < 4294967281) :
    Calls Tryd.prog 97 #[.string s] w fun e w' => e = .returned (.bool (filterL (bl s))) ∧ Below w.heap.size w w' := by
  have hV := Lib.hid (text_Valid s w hE (by omega))
  have hL := Lib.hid (fun w1 (h : Env w1) => split_levels s w1 h hs)
  by_cases hemp : (bl s).isEmpty = true
  · have h1 : s.toList.isEmpty = true := by rw [empty_toList]; exact hemp
    go_enter Tryd.func97, Tryd.ntmps97
    go_wp2_with fail
    go_ret
    exact ⟨ret_bool (by unfold filterL; rw [hemp]; rfl), Below.refl _ _⟩
  · have hemp' : (bl s).isEmpty = false := by simpa using hemp
    have h1 : s.toList.isEmpty = false := by rw [empty_toList]; exact hemp'
    cases hv : validL (bl s)
    · rw [show s.data.toList = bl s from rfl, hv] at hV
      go_enter Tryd.func97, Tryd.ntmps97
      go_wp2_with (first | (go_at_call 95; refine hV.out.mono ?_; rintro e w1 ⟨rfl, hb⟩))
      go_ret
      exact ⟨ret_bool (by unfold filterL; rw [hv]; simp), hb⟩
    · rw [show s.data.toList = bl s from rfl, hv] at hV
      have fin : ∀ (b : Bool) (w' : World), filterLv (levelsL (bl s)) = b → Below w.heap.size w w' → Ending.returned (.bool b) = .returned (.bool (filterL (bl s))) ∧ Below w.heap.size w w' := by
        rintro b w' rfl h
        refine ⟨ret_bool ?_, h⟩
        unfold filterL; rw [hemp', hv]; rfl
      have FIN := Lib.hid fin
      clear fin
      go_enter Tryd.func97, Tryd.ntmps97
      go_wp2_with (first | (go_at_call 95; refine hV.out.mono ?_; rintro e w1 ⟨rfl, hb1⟩) | (go_at_call 110; refine (hL.out _ (hE.below hb1)).mono ?_; rintro e w2 ⟨L, a, c, rfl, hT, hcells, hb⟩; replace hb := Below.then hb1 hb; have HT := Lib.hid hT; clear hT hb1))
      have hlen : L.length = (levelsL (bl s)).length := by rw [← HT.out]; simp
      have hlen2 := levelsL_len (bl s)
      have hsz : (bl s).length = s.size := (Lib.size_eq s).symm
      have hll : L.length ≤ 4294967281 := by omega
      have hlp : 1 ≤ L.length := by
        have := levelsL_ne (bl s)
        rw [← HT.out] at this
        cases L with
        | nil => exact absurd rfl this
        | cons x r => simp
      clear hlen hlen2 hsz
      go_loopw [17] (fun i wr => ∃ k : Nat, k ≤ L.length ∧ i = .int .i64 k ∧ Hid (filterLv ((L.map bl).drop k) = filterLv (levelsL (bl s))) ∧ Below w.heap.size w wr ∧ Below w2.heap.size w2 wr) (fun i _ => L.length - (intOf i).toNat)
      case atStart => exact ⟨0, by omega, rfl, by rw [Hid, ← HT.out]; rfl, hb, Below.refl _ _⟩
      case round =>
        obtain ⟨k, hk, rfl, HP, hbr, hb2⟩ := hrel
        by_cases hlt : k < L.length
        · obtain ⟨x, hx⟩ : ∃ x, L[k]? = some x := ⟨_, List.getElem?_eq_getElem hlt⟩
          obtain ⟨b, o, rfl, hcell⟩ := (hcells.below hb2).text hx
          have hxT : (L.map bl)[k]? = some (bl x) := by rw [List.getElem?_map, hx]; rfl
          have hst := filterLv_drop _ _ _ hxT
          rw [drop_empty, List.length_map] at hst
          have hxs : x.size < 4294967281 := by
            have h1 : bl x ∈ levelsL (bl s) := by rw [← HT.out]; exact List.mem_of_getElem? hxT
            have h2 := levelsL_mem _ _ h1
            have h3 : (bl x).length = x.size := (Lib.size_eq x).symm
            have h4 : (bl s).length = s.size := (Lib.size_eq s).symm
            omega
          have hC := Lib.hid (fun w1 => ContainsAny_pm x w1 hxs)
          rw [show x.data.toList = bl x from rfl] at hC
          cases h35 : (bl x == [35]) with
          | true =>
            have e1 := eq35 x _ h35
            have hx35 : bl x = [35] := beq_iff_eq.1 h35
            by_cases hl : L.length ≤ k + 1
            · have e2 : (((k : Int) == (L.length : Int) - 1) : Bool) = true := by rw [beq_iff_eq]; omega
              have HS := Lib.hid (hst.trans (by rw [hx35, decide_eq_true hl]; rfl : _ = filterLv (List.drop (k + 1) (L.map bl))))
              clear hst hxT hx h35 hx35
              go_wp2_with fail
              go_roundw
              case rel => exact ⟨k + 1, by omega, by go_num, by rw [Hid, ← HP.out, HS.out], hbr, hb2⟩
              case measure => simp [intOf]; omega
            · have e2 : (((k : Int) == (L.length : Int) - 1) : Bool) = false := by rw [beq_eq_false_iff_ne]; omega
              have e3 : (x.toList == [43]) = false := eq43 x _ (by rw [hx35]; rfl)
              have HS := Lib.hid (hst.trans (by rw [hx35, decide_eq_false hl]; rfl : _ = false))
              have hp : plainL (bl x) = false := by rw [hx35]; rfl
              rw [hp] at hC
              clear hst hxT hx h35 hx35 hp
              go_wp2_with (first | (go_at_call 109; refine (hC.out _).mono ?_; rintro e w3 ⟨rfl, hb3⟩; replace hb3 := Below.then hbr hb3))
              go_ret
              exact FIN.out _ _ (by rw [← HP.out, HS.out]) hb3
          | false =>
            have e1 := eq35 x _ h35
            cases h43 : (bl x == [43]) with
            | true =>
              have e2 := eq43 x _ h43
              have hx43 : bl x = [43] := beq_iff_eq.1 h43
              have HS := Lib.hid (hst.trans (by rw [hx43]; rfl : _ = filterLv (List.drop (k + 1) (L.map bl))))
              clear hst hxT hx h35 h43 hx43
              go_wp2_with fail
              go_roundw
              case rel => exact ⟨k + 1, by omega, by go_num, by rw [Hid, ← HP.out, HS.out], hbr, hb2⟩
              case measure => simp [intOf]; omega
            | false =>
              have e2 := eq43 x _ h43
              have hlv : levelL (bl x) (decide (L.length ≤ k + 1)) = plainL (bl x) := by unfold levelL; rw [h43, h35]; rfl
              rw [hlv] at hst
              cases hp : plainL (bl x) with
              | true =>
                rw [hp] at hC hst
                have HS := Lib.hid (hst.trans (Bool.true_and _))
                clear hst hxT hx h35 h43 hlv hp
                go_wp2_with (first | (go_at_call 109; refine (hC.out _).mono ?_; rintro e w3 ⟨rfl, hb3⟩; have hb4 := Below.then hb2 hb3; replace hb3 := Below.then hbr hb3))
                go_roundw
                case rel => exact ⟨k + 1, by omega, by go_num, by rw [Hid, ← HP.out, HS.out], hb3, hb4⟩
                case measure => simp [intOf]; omega
              | false =>
                rw [hp] at hC hst
                have HS := Lib.hid (hst.trans (Bool.false_and _))
                clear hst hxT hx h35 h43 hlv hp
                go_wp2_with (first | (go_at_call 109; refine (hC.out _).mono ?_; rintro e w3 ⟨rfl, hb3⟩; replace hb3 := Below.then hbr hb3))
                go_ret
                exact FIN.out _ _ (by rw [← HP.out, HS.out]) hb3
        · have : k = L.length := by omega
          subst this
          go_wp2_with fail
          go_ret
          exact FIN.out _ _ (by rw [← HP.out, List.drop_eq_nil_of_le (by simp)]; rfl) hbr
end Go.Proofs.YtcghokbcjbbbhaaDoor
