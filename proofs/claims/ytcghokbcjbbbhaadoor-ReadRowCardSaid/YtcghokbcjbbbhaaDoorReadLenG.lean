/- The walk of num.ReadLen at any bytes. Conditions: none. -/
import Derived.Test.YtcghokbcjbbbhaaDoorAtBl
import Derived.Test.YtcghokbcjbbbhaaDoorPlainAgain
import Derived.OwnWalk
namespace Go.Proofs.YtcghokbcjbbbhaaDoor
open Go.RowKit
def RetL (x : Nat × Nat × Nat) (w : World) (e : Ending) (w' : World) : Prop := e = .returned (.tuple #[.int .i64 (x.1 : Int), .int .i64 (x.2.1 : Int), .int .i64 (x.2.2 : Int)]) ∧ w = w'
set_option maxRecDepth 100000 in
set_option maxHeartbeats 1000000 in
theorem num_ReadLenG (s : ByteArray) (w : World) : Calls Tryd.prog 33 #[.string s] w (RetL (lenR (bl s)) w) := by
  have FIN := Lib.hid (show ∀ (i j z : Int) (x : Nat × Nat × Nat), x = lenR (bl s) → i = (x.1 : Int) → j = (x.2.1 : Int) → z = (x.2.2 : Int) → ∀ w' : World, w = w' → RetL (lenR (bl s)) w (.returned (.tuple #[.int .i64 i, .int .i64 j, .int .i64 z])) w' from by rintro i j z x rfl rfl rfl rfl w' rfl; exact ⟨rfl, rfl⟩)
  have HL := Lib.hid (bl_len s)
  obtain ⟨r, hr⟩ : ∃ r, lenR (bl s) = r := ⟨_, rfl⟩
  have HR := Lib.hid hr
  have HR0 := Lib.hid (show lenRf 4 1 0 0 ((bl s).drop 0) = r from hr)
  rw [hr] at FIN ⊢
  clear hr
  go_enter Tryd.func33, Tryd.ntmps33
  go_wp2_with fail
  go_loopw [2, 3, 5] (fun a u c wr => ∃ (k y : Nat), k ≤ 4 ∧ k ≤ s.size ∧ a = .int .i64 (y : Int) ∧ u = .int .i64 (k : Int) ∧ c = .int .i64 ((128 ^ k : Nat) : Int) ∧ Hid (y < 128 ^ k ∧ lenRf (4 - k) (128 ^ k) y k ((bl s).drop k) = r) ∧ w = wr) (fun _ u _ _ => 4 - (intOf u).toNat)
  case atStart => exact ⟨0, 0, by omega, by omega, rfl, rfl, rfl, ⟨by decide, HR0.out⟩, rfl⟩
  case round =>
    obtain ⟨k, y, hk, hks, rfl, rfl, rfl, HP, hw⟩ := hrel
    subst hw
    clear HR0 HR
    by_cases h4 : k = 4
    · subst h4
      have HX := Lib.hid (show ((0, 0, 4) : Nat × Nat × Nat) = r from HP.out.2)
      clear HP
      go_wp2_with fail
      go_ret3
      exact FIN.out _ _ _ _ HX.out rfl rfl rfl _ rfl
    · have hk3 : k ≤ 3 := by omega
      clear hk
      by_cases hs : k = s.size
      · have hd : (bl s).drop k = [] := List.drop_eq_nil_of_le (by have := HL.out; omega)
        have hh := HP.out.2
        rw [hd] at hh
        have hne : ((k : Int) == (s.size : Int)) = true := by rw [beq_iff_eq]; omega
        have HX := Lib.hid (show ((0, 0, 2) : Nat × Nat × Nat) = r by
          rw [← hh]
          have hk4 : k = 0 ∨ k = 1 ∨ k = 2 ∨ k = 3 := by omega
          rcases hk4 with rfl | rfl | rfl | rfl <;> rfl)
        clear HP hd hh
        have hlt : decide ((k : Int) < 4) = true := by rw [decide_eq_true_eq]; omega
        go_wp2_with fail
        go_ret3
        exact FIN.out _ _ _ _ HX.out rfl rfl rfl _ rfl
      · have hlt2 : k < s.size := by omega
        have hlb : k < (bl s).length := by have := HL.out; omega
        obtain ⟨b, hb⟩ : ∃ b, (bl s)[k]? = some b := ⟨_, List.getElem?_eq_getElem hlb⟩
        have hd : (bl s).drop k = b :: (bl s).drop (k + 1) := by
          rw [List.drop_eq_getElem_cons hlb]
          obtain ⟨_, e⟩ := List.getElem?_eq_some_iff.1 hb
          rw [e]
        obtain ⟨hg1, hg2⟩ := at_bl s k b hb
        have hne : ((k : Int) == (s.size : Int)) = false := by rw [beq_eq_false_iff_ne]; omega
        have hh := HP.out.2
        have hy := HP.out.1
        rw [hd] at hh
        have hv : (s[k]'hg1).toNat = b.toNat := by rw [hg2]
        have hb2 := b.toNat_lt
        clear HP hd hb hlb hg2 hs hlt2
        by_cases h1 : b.toNat < 128
        · have HX := Lib.hid (show (y + b.toNat * 128 ^ k, k + 1, 0) = r by
            rw [← hh]
            have hk4 : k = 0 ∨ k = 1 ∨ k = 2 ∨ k = 3 := by omega
            rcases hk4 with rfl | rfl | rfl | rfl
            all_goals
              simp only [lenRf, Nat.reduceSub]
              rw [if_pos h1, Nat.mod_eq_of_lt h1])
          clear hh
          generalize b.toNat = x at HX hv h1 hb2
          clear b
          have hk4 : k = 0 ∨ k = 1 ∨ k = 2 ∨ k = 3 := by omega
          rcases hk4 with rfl | rfl | rfl | rfl
          all_goals
            simp only [Nat.reducePow] at hy ⊢
            go_wp2_with fail
            go_ret3
            exact FIN.out _ _ _ _ HX.out (by simp only [Nat.reducePow]; omega) (by simp only; omega) rfl _ rfl
        · have HN := Lib.hid (show lenRf (4 - (k + 1)) (128 ^ (k + 1)) (y + b.toNat % 128 * 128 ^ k) (k + 1) ((bl s).drop (k + 1)) = r by
            rw [← hh]
            have hk4 : k = 0 ∨ k = 1 ∨ k = 2 ∨ k = 3 := by omega
            rcases hk4 with rfl | rfl | rfl | rfl
            all_goals
              conv => rhs; rw [show (4 : Nat) - _ = _ + 1 from rfl, lenRf, if_neg h1])
          clear hh
          generalize b.toNat = x at HN hv h1 hb2
          clear b
          have hr2 : x % 128 < 128 := by omega
          have hk4 : k = 0 ∨ k = 1 ∨ k = 2 ∨ k = 3 := by omega
          rcases hk4 with rfl | rfl | rfl | rfl
          all_goals
            simp only [Nat.reducePow] at hy ⊢
            go_wp2_with fail
            go_roundw
            case rel => exact ⟨_, y + x % 128 * 128 ^ _, by omega, by omega, by first | rfl | go_num | (congr 1; omega), by first | rfl | go_num, by first | rfl | go_num, ⟨by simp only [Nat.reducePow, Nat.reduceAdd]; omega, HN.out⟩, by first | trivial | rfl⟩
            case measure => simp [intOf]
end Go.Proofs.YtcghokbcjbbbhaaDoor
