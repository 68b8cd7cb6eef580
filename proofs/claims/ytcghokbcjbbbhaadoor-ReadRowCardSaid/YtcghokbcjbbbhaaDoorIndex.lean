/- Whether a text has a + or a #: strings.ContainsAny at that cutset, of any text shorter than the model's bound for a search. -/
import Derived.Test.YtcghokbcjbbbhaaDoorText2
import Derived.Test.YtcghokbcjbbbhaaDoorJoinA
import Derived.Lib.IndexAny
import Derived.Laws.Runes
namespace Go.Proofs.YtcghokbcjbbbhaaDoor
open Go.RowKit

abbrev pmS : ByteArray := { data := #[43, 35] }
theorem pm0 (h : 0 < pmS.size) : (pmS[0]'h) = 43 := rfl
theorem pm1 (h : 1 < pmS.size) : (pmS[1]'h) = 35 := rfl
theorem pm_size : pmS.size = 2 := rfl

set_option maxRecDepth 100000 in
/-- A rune that is none of the cutset's, which is ASCII: it is not found. -/
theorem IndexRune_high (r : Int) (w : World) (h0 : 128 ≤ r) (h9 : r ≤ 1114111) (hv : Utf8.valid r = true) :
    Calls Tryd.prog 123 #[.string pmS, .int .i32 r] w fun e w' => e = .returned (.int .i64 (-1)) ∧ Below w.heap.size w w' := by
  have hps : pmS.size = 2 := rfl
  by_cases hr : r = 65533
  · subst hr
    have n0 : ∀ ty, (Instr.next (.pointer (some ⟨w.heap.size, 0, none⟩)) true ty).run Tryd.prog (w.iter pmS 0) = _ := fun ty => run_next_ascii w pmS 0 ty (by decide) (by decide)
    have n1 : ∀ ty, (Instr.next (.pointer (some ⟨w.heap.size, 0, none⟩)) true ty).run Tryd.prog (w.iter pmS 1) = _ := fun ty => run_next_ascii w pmS 1 ty (by decide) (by decide)
    have n2 : ∀ ty, (Instr.next (.pointer (some ⟨w.heap.size, 0, none⟩)) true ty).run Tryd.prog (w.iter pmS 2) = _ := fun ty => run_next_end w pmS 2 ty (by decide)
    rw [pm0] at n0
    rw [pm1] at n1
    go_enter Tryd.func123, Tryd.ntmps123
    go_wp2_with fail
    refine wp_loop_rounds 3 ?_
    iterate 3 (rw [rounds_succ]; go_wp2_with fail)
    go_ret
    exact ⟨rfl, by unfold World.iter; go_grown⟩
  · have hvr : Lib.validRune r = true := by rw [← hv]; exact (validRune_eq r).symm
    have hvr' := Lib.hid hvr
    obtain ⟨e1, e2, e3⟩ := encode_facts r hv h0
    generalize hs : Utf8.encode r = t at *
    have hr' : ((r : Int) == 65533) = false := beq_eq_false_iff_ne.2 hr
    have CB := Lib.hid (Tryd.strings_IndexByte)
    have hconv : ∀ w : World, (convert 21 9 (.int .i32 r)).run Tryd.prog w = .ok (.string t) w := fun w => by rw [run_convert_int_string w _ _ _ _ (by kernel_rfl) Tryd.underlying9, hs]
    clear hs hv hvr
    have CV : Calls Tryd.prog 134 #[.int .i32 r] w fun e w' => e = .returned (.bool true) ∧ w = w' := by rw [← hvr'.out]; exact (Tryd.utf8_ValidRune r w).mono fun _ _ h => ⟨h.1, h.2.symm⟩
    have HV := Lib.hid CV
    clear CV
    by_cases ht : t.size = 2
    · have hlast := e3 (by omega)
      have e3' : ∀ h : 1 < t.size, 128 ≤ (t[1]'h).toNat := by
        intro h
        have : t.size - 1 = 1 := by omega
        simpa only [this] using hlast
      clear e3 hlast
      have g1 := e3' (by omega)
      generalize hb : (t[1]'(by omega)).toNat = b at *
      have hne : (((pmS[1]'(by decide)).toNat : Int) != (b : Int)) = true := by rw [pm1]; rw [bne_iff_ne]; show (35 : Int) ≠ _; omega
      go_enter Tryd.func123, Tryd.ntmps123
      go_wp2_with (first | (go_at_call 134; refine HV.out.mono ?_; rintro e w' ⟨rfl, rfl⟩))
      go_step3
      go_wp2_with fail
      refine wp_loop_rounds 1 ?_
      rw [rounds_succ]
      go_wp2_with fail
      go_step3
      go_wp2_with fail
      go_quiet (fail)
      generalize hw2 : World.drewN w _ = w2
      have hq := below_draws hw2; clear hw2
      go_wp2_with fail
      go_quiet ((go_at_call 133; exact Calls.quiet_of_same (CB.out _ _ _)))
      generalize hw3 : World.drewN w2 _ = w3
      have hq3 := Below.then hq (below_draws hw3); clear hw3
      go_wp2_with fail
      repeat (first | rw [Exit.noGoto_ret] | simp only [Exit.inBlock, Exit.then])
      go_ret
      exact ⟨rfl, by go_grown⟩
    · go_enter Tryd.func123, Tryd.ntmps123
      go_wp2_with (first | (go_at_call 134; refine HV.out.mono ?_; rintro e w' ⟨rfl, rfl⟩))
      go_step3
      go_wp2_with fail
      refine wp_loop_rounds 1 ?_
      rw [rounds_succ]
      go_wp2_with fail
      try rw [Exit.noGoto_ret]
      go_ret
      exact ⟨rfl, Below.refl _ _⟩

theorem pm_list : pmS.data.toList = [43, 35] := rfl
theorem plain_contains (b : UInt8) : ([43, 35] : List UInt8).contains b = (b == 43 || b == 35) := by
  by_cases h : b = 43
  · subst h; rfl
  · by_cases h2 : b = 35
    · subst h2; rfl
    · have e1 : (b == 43) = false := by simpa using h
      have e2 : (b == 35) = false := by simpa using h2
      simp [List.contains, List.elem, e1, e2]
theorem indexAny_pm : ∀ s : List UInt8, decide (0 ≤ Lib.indexAny s [43, 35]) = !plainL s
  | [] => by simp [Lib.indexAny, plainL]
  | b :: l => by
    have ih := indexAny_pm l
    have hge := Lib.indexAny_ge [43, 35] l
    have hc := plain_contains b
    unfold Lib.indexAny
    have hp : plainL (b :: l) = (!(b == 43 || b == 35) && plainL l) := rfl
    rw [hc, hp]
    cases hb : (b == 43 || b == 35)
    · simp only [Bool.not_false, Bool.true_and, Bool.false_eq_true, if_false]
      rw [← ih]
      by_cases h : Lib.indexAny l [43, 35] = -1
      · rw [h]; decide
      · rw [if_neg (by simpa using h)]
        have h1 : (0 : Int) ≤ Lib.indexAny l [43, 35] + 1 := by omega
        have h2 : (0 : Int) ≤ Lib.indexAny l [43, 35] := by omega
        rw [decide_eq_true h1, decide_eq_true h2]
    · simp
theorem plainL_drop (s : List UInt8) (k : Nat) (h : k < s.length) : plainL (s.drop k) = (!(s[k] == 43 || s[k] == 35) && plainL (s.drop (k + 1))) := by
  rw [List.drop_eq_getElem_cons h]; rfl


theorem utf8_valid_decode (s : ByteArray) (k : Nat) (h : 128 ≤ (Utf8.decode s k).1) : Utf8.valid ((Utf8.decode s k).1 : Int) = true := by
  rw [validRune_eq, validRune]
  have hN := Lib.decode_at s k
  generalize s.size - k = n at hN
  generalize (s.get! k).toNat = b0 at hN
  generalize (s.get! (k + 1)).toNat = b1 at hN
  generalize (s.get! (k + 2)).toNat = b2 at hN
  generalize (s.get! (k + 3)).toNat = b3 at hN
  rw [hN] at h ⊢
  clear hN
  rw [decide_eq_true_eq]
  generalize hd : Lib.decodeN n b0 b1 b2 b3 = d at h ⊢
  unfold Lib.decodeN at hd
  repeat' split at hd
  all_goals subst hd
  all_goals simp only at h ⊢
  all_goals omega
theorem decode_byte (s : ByteArray) (k : Nat) (h : k < s.size) : ((Utf8.decode s k).1 < 128 → (Utf8.decode s k).1 = (s[k]'h).toNat ∧ (Utf8.decode s k).2 = 1) ∧ (128 ≤ (Utf8.decode s k).1 → 128 ≤ (s[k]'h).toNat) := by
  by_cases ha : (s[k]'h).toNat < 128
  · rw [decode_ascii s k h ha]
    exact ⟨fun _ => ⟨rfl, rfl⟩, fun h => absurd h (by simp only; omega)⟩
  · have := decode_high s k h (by omega)
    exact ⟨fun h => by omega, fun _ => by omega⟩

theorem width_ge (s : ByteArray) (k : Nat) (h : k < s.size) : 1 ≤ (Utf8.decode s k).2 ∧ k + (Utf8.decode s k).2 ≤ s.size := by
  have hne : s.data.toList.drop k ≠ [] := by
    intro e; have := congrArg List.length e; have hL := Lib.size_eq s; simp at this; omega
  have h1 := Lib.decodeL_le _ hne
  have h2 := Lib.decodeL_width (s.data.toList.drop k)
  rw [Lib.decodeL_drop] at h1 h2
  rw [List.length_drop, ← Lib.size_eq] at h1
  omega

/-- The bytes of one character beyond ASCII are all beyond ASCII. -/
theorem plain_char (s : ByteArray) (k : Nat) (h : k < s.size) (hc : 128 ≤ (Utf8.decode s k).1) : plainL (s.data.toList.drop k) = plainL (s.data.toList.drop (k + (Utf8.decode s k).2)) := by
  have hw := width_ge s k h
  have hL := Lib.size_eq s
  have key : ∀ j, k ≤ j → j < k + (Utf8.decode s k).2 → 128 ≤ (s.get! j).toNat := by
    have hN := Lib.decode_at s k
    have h0 : (s.get! k).toNat < 128 → (Utf8.decode s k).1 < 128 := by
      intro h1
      rw [hN]; unfold Lib.decodeN; rw [if_pos h1]; exact h1
    intro j hj1 hj2
    have g0 : 128 ≤ (s.get! k).toNat := by
      apply Nat.le_of_not_lt
      intro h1
      have := h0 h1
      omega
    rw [hN] at hj2
    have hjk : j = k ∨ j = k + 1 ∨ j = k + 2 ∨ j = k + 3 := by
      have : (Lib.decodeN (s.size - k) (s.get! k).toNat (s.get! (k + 1)).toNat (s.get! (k + 2)).toNat (s.get! (k + 3)).toNat).2 ≤ 4 := by
        unfold Lib.decodeN
        repeat' split
        all_goals simp
      omega
    clear hN h0
    rcases hjk with rfl | rfl | rfl | rfl
    · exact g0
    all_goals
      generalize s.size - k = n at hj2
      generalize (s.get! k).toNat = b0 at hj2 g0
      generalize (s.get! (k + 1)).toNat = b1 at hj2 ⊢
      generalize (s.get! (k + 2)).toNat = b2 at hj2 ⊢
      generalize (s.get! (k + 3)).toNat = b3 at hj2 ⊢
      generalize hd : Lib.decodeN n b0 b1 b2 b3 = d at hj2
      unfold Lib.decodeN at hd
      repeat' split at hd
      all_goals subst hd
      all_goals simp only at hj2
      all_goals omega
  generalize (Utf8.decode s k).2 = z at hw key
  clear hc
  obtain ⟨hz, hle⟩ := hw
  have step : ∀ m, m ≤ z → plainL (s.data.toList.drop k) = plainL (s.data.toList.drop (k + m)) := by
    intro m
    induction m with
    | zero => intro _; rfl
    | succ m ih =>
      intro hm
      rw [ih (by omega)]
      have hlt : k + m < s.data.toList.length := by omega
      rw [plainL_drop _ _ hlt]
      have hb := key (k + m) (by omega) (by omega)
      have e : s.data.toList[k + m] = s.get! (k + m) := by
        have h1 : k + m < s.size := by omega
        have := get_at s (k + m) h1
        rw [Nat.add_zero] at this
        rw [this]
        rfl
      rw [e]
      have n1 : (s.get! (k + m) == 43) = false := by
        rw [beq_eq_false_iff_ne]; intro h; rw [h] at hb; revert hb; decide
      have n2 : (s.get! (k + m) == 35) = false := by
        rw [beq_eq_false_iff_ne]; intro h; rw [h] at hb; revert hb; decide
      rw [n1, n2]
      rfl
  exact step z (Nat.le_refl _)
end Go.Proofs.YtcghokbcjbbbhaaDoor
