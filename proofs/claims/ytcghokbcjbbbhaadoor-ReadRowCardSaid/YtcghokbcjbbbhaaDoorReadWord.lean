/- The walks of num.ReadWord, text.GetData, text.Get, read.First. Conditions: the decoder's tables lie as Go lays them; a machine's bound on the text's size. -/
import Derived.Test.YtcghokbcjbbbhaaDoorAtBl
import Derived.Test.YtcghokbcjbbbhaaDoorPlainAgain
import Derived.Test.YtcghokbcjbbbhaaDoorText2
import Derived.Test.YtcghokbcjbbbhaaDoorWordOr
namespace Go.Proofs.YtcghokbcjbbbhaaDoor
open Go.RowKit
theorem and3_low : ∀ c : Nat, c < 256 → bits BinOp.and IntKind.u8 ((c : Int) % 16 / 2) 3 = ((c / 2 % 4 : Nat) : Int) := by decide +kernel
theorem read_First (c : Nat) (hc : c < 256) (w : World) : Calls Tryd.prog 31 #[.int .u8 (c : Int)] w fun e w' => e = .returned (.bool (firstOk c)) ∧ w = w' := by
  have FIN := Lib.hid (show ∀ (b : Bool), firstOk c = b → ∀ w' : World, w = w' → Ending.returned (.bool b) = .returned (.bool (firstOk c)) ∧ w = w' from by rintro b rfl w' rfl; exact ⟨rfl, rfl⟩)
  have HB := Lib.hid (and3_low c hc)
  go_enter Tryd.func31, Tryd.ntmps31
  go_wp2_with fail
  all_goals go_ret
  all_goals
    refine FIN.out _ ?_ _ rfl
    clear FIN
    have hb := HB.out
    clear HB
    simp only [beq_iff_eq, beq_eq_false_iff_ne] at *
    unfold firstOk
    first
      | (rw [if_pos (by omega)]; done)
      | (rw [if_neg (by omega), if_pos (by omega), hb, decide_eq_decide]; omega)
      | (rw [if_neg (by omega), if_neg (by omega), if_pos (by omega)]; rw [Bool.eq_iff_iff]; simp only [decide_eq_true_eq, beq_iff_eq]; omega)
      | (rw [if_neg (by omega), if_neg (by omega), if_neg (by omega)]; rw [Bool.eq_iff_iff]; simp only [decide_eq_true_eq, beq_iff_eq]; omega)
def readW : Bs → Nat × Nat × Nat
  | a :: b :: _ => (a.toNat * 256 + b.toNat, 2, 0)
  | _ => (0, 0, 2)
def RetW (x : Nat × Nat × Nat) (w : World) (e : Ending) (w' : World) : Prop := e = .returned (.tuple #[.int .i64 (x.1 : Int), .int .i64 (x.2.1 : Int), .int .i64 (x.2.2 : Int)]) ∧ Below w.heap.size w w'
theorem num_ReadWord (s : ByteArray) (w : World) : Calls Tryd.prog 107 #[.string s] w (RetW (readW (bl s)) w) := by
  have FIN := Lib.hid (show ∀ (x y z : Int), x = ((readW (bl s)).1 : Int) → y = ((readW (bl s)).2.1 : Int) → z = ((readW (bl s)).2.2 : Int) → ∀ w' : World, Below w.heap.size w w' → RetW (readW (bl s)) w (.returned (.tuple #[.int .i64 x, .int .i64 y, .int .i64 z])) w' from by rintro x y z rfl rfl rfl w' h; exact ⟨rfl, h⟩)
  have hl := bl_len s
  obtain ⟨L, hb⟩ : ∃ L, bl s = L := ⟨_, rfl⟩
  rw [hb] at FIN hl ⊢
  rcases L with _ | ⟨a, _ | ⟨b, t⟩⟩
  · simp only [List.length_nil] at hl
    have hz : decide ((s.size : Int) < 2) = true := by rw [decide_eq_true_eq]; omega
    clear hb hl
    go_enter Tryd.func107, Tryd.ntmps107
    go_wp2_with fail
    go_ret3
    exact FIN.out _ _ _ rfl rfl rfl _ (Below.refl _ _)
  · simp only [List.length_cons, List.length_nil] at hl
    have hz : decide ((s.size : Int) < 2) = true := by rw [decide_eq_true_eq]; omega
    clear hb hl
    go_enter Tryd.func107, Tryd.ntmps107
    go_wp2_with fail
    go_ret3
    exact FIN.out _ _ _ rfl rfl rfl _ (Below.refl _ _)
  · have h0 := at_bl s 0 a (by rw [hb]; rfl)
    have h1 := at_bl s 1 b (by rw [hb]; rfl)
    obtain ⟨h01, h02⟩ := h0
    obtain ⟨h11, h12⟩ := h1
    simp only [List.length_cons] at hl
    have HO := Lib.hid (word_or a.toNat a.toNat_lt b.toNat b.toNat_lt)
    have hz : decide ((s.size : Int) < 2) = false := by rw [decide_eq_false_iff_not]; omega
    clear hb hl
    go_enter Tryd.func107, Tryd.ntmps107
    go_wp2_with fail
    go_quiet (fail)
    generalize hw2 : World.drewN w _ = w9
    have hq2 := below_draws hw2
    clear hw2
    go_wp2_with fail
    go_ret3
    exact FIN.out _ _ _ HO.out rfl rfl _ hq2
def readD (L : Bs) : ByteArray × Nat × Nat := if (readW L).2.2 ≠ 0 ∨ L.length - (readW L).2.1 < (readW L).1 then (e0, 0, 2) else (baB ((L.drop 2).take (readW L).1), 2 + (readW L).1, 0)
def RetD (x : ByteArray × Nat × Nat) (w : World) (e : Ending) (w' : World) : Prop := e = .returned (.tuple #[.string x.1, .int .i64 (x.2.1 : Int), .int .i64 (x.2.2 : Int)]) ∧ Below w.heap.size w w'
theorem readW_cases (L : Bs) : (∃ a b t, L = a :: b :: t ∧ readW L = (a.toNat * 256 + b.toNat, 2, 0)) ∨ (L.length < 2 ∧ readW L = (0, 0, 2)) := by
  rcases L with _ | ⟨a, _ | ⟨b, t⟩⟩
  · exact Or.inr ⟨by simp, rfl⟩
  · exact Or.inr ⟨by simp, rfl⟩
  · exact Or.inl ⟨a, b, t, rfl, rfl⟩
theorem bl_extract (s : ByteArray) (i j : Nat) : bl (s.extract i j) = ((bl s).drop i).take (j - i) := by
  unfold bl
  simp [List.take_drop]
theorem text_GetData (s : ByteArray) (hs : s.size ≤ 300000000) (w : World) : Calls Tryd.prog 115 #[.string s] w (RetD (readD (bl s)) w) := by
  have FIN := Lib.hid (show ∀ (x : ByteArray) (y z : Int), x = (readD (bl s)).1 → y = ((readD (bl s)).2.1 : Int) → z = ((readD (bl s)).2.2 : Int) → ∀ w' : World, Below w.heap.size w w' → RetD (readD (bl s)) w (.returned (.tuple #[.string x, .int .i64 y, .int .i64 z])) w' from by rintro x y z rfl rfl rfl w' h; exact ⟨rfl, h⟩)
  have hW := num_ReadWord s w
  have hl := bl_len s
  rcases readW_cases (bl s) with ⟨a, b, t, hb, hr⟩ | ⟨hlt, hr⟩
  · have h1 := a.toNat_lt
    have h2 := b.toNat_lt
    rw [hr] at hW
    rw [hb] at hl
    simp only [List.length_cons] at hl
    have hD : readD (bl s) = if t.length < a.toNat * 256 + b.toNat then (e0, 0, 2) else (baB (t.take (a.toNat * 256 + b.toNat)), 2 + (a.toNat * 256 + b.toNat), 0) := by
      unfold readD
      rw [hr, hb]
      simp
    have HX := Lib.hid (show bl (s.extract 2 (2 + (a.toNat * 256 + b.toNat))) = t.take (a.toNat * 256 + b.toNat) by rw [bl_extract, hb]; simp)
    generalize hn : a.toNat * 256 + b.toNat = n at *
    have hn2 : n < 65536 := by omega
    have HW := Lib.hid hW
    by_cases hc : t.length < n
    · rw [if_pos hc] at hD
      rw [hD] at FIN ⊢
      have hg : decide ((n : Int) > (s.size : Int) - 2) = true := by rw [decide_eq_true_eq]; omega
      have hg2 : (s.size : Int) - 2 < (n : Int) := by omega
      clear hD hr hb hn hW h1 h2
      go_enter Tryd.func115, Tryd.ntmps115
      go_wp2_with (go_at_call 107; refine Calls.mono HW.out ?_; rintro e w1 ⟨rfl, hb1⟩)
      go_ret3
      exact FIN.out _ _ _ rfl rfl rfl _ hb1
    · rw [if_neg hc] at hD
      rw [hD] at FIN ⊢
      have hg : decide ((s.size : Int) - 2 < (n : Int)) = false := by rw [decide_eq_false_iff_not]; omega
      have hg2 : ¬ (s.size : Int) - 2 < (n : Int) := by omega
      clear hD hr hb hn hW h1 h2
      go_enter Tryd.func115, Tryd.ntmps115
      go_wp2_with (go_at_call 107; refine Calls.mono HW.out ?_; rintro e w1 ⟨rfl, hb1⟩)
      go_ret3
      refine FIN.out _ _ _ ?_ ?_ rfl _ hb1
      · apply bl_inj
        rw [bl_baB]
        exact HX.out
      · push_cast; rfl
  · rw [hr] at hW
    have hD : readD (bl s) = (e0, 0, 2) := by
      unfold readD
      rw [hr, if_pos (Or.inl (by decide))]
    rw [hD] at FIN ⊢
    have HW := Lib.hid hW
    clear hD hr hW
    go_enter Tryd.func115, Tryd.ntmps115
    go_wp2_with (go_at_call 107; refine Calls.mono HW.out ?_; rintro e w1 ⟨rfl, hb1⟩)
    go_ret3
    exact FIN.out _ _ _ rfl rfl rfl _ hb1
end Go.Proofs.YtcghokbcjbbbhaaDoor
