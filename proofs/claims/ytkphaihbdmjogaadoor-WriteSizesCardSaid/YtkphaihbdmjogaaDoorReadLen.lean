/- The walk of num.ReadLen at bytes that begin with a length. Conditions: none. -/
import Derived.Test.YtkphaihbdmjogaaDoorLaw04
import Derived.OwnWalk
namespace Go.Proofs.YtkphaihbdmjogaaDoor
open Go.RowKit
theorem at_bl (s : ByteArray) (k : Nat) (b : UInt8) (h : (bl s)[k]? = some b) : ∃ hk : k < s.size, s[k]'hk = b := by
  obtain ⟨hk, hb⟩ := List.getElem?_eq_some_iff.1 h
  have hk' : k < s.size := by rw [← bl_len]; exact hk
  have h2 := get_bl s k hk'
  rw [h] at h2
  injection h2 with h2
  exact ⟨hk', h2.symm⟩
theorem head_at {s : ByteArray} {A L R : Bs} {b : UInt8} {M : Bs} (hs : bl s = A ++ R) (h : A = L ++ b :: M) : ∃ hk : L.length < s.size, s[L.length]'hk = b := by
  apply at_bl
  rw [hs, h]
  simp
set_option maxRecDepth 100000 in
set_option maxHeartbeats 1000000 in
theorem num_ReadLen (n : Nat) (s : ByteArray) (R : Bs) (h : n ≤ 268435455) (hs : bl s = lenB n ++ R) (w : World) : Calls Tryd.prog 38 #[.string s] w fun e w' => e = .returned (.tuple #[.int .i64 (n : Int), .int .i64 (lenS n : Nat), .int .i64 0]) ∧ w = w' := by
  have FIN := Lib.hid (show ∀ (i j : Int), i = (n : Int) → j = (lenS n : Nat) → ∀ w' : World, w = w' → Ending.returned (.tuple #[.int .i64 i, .int .i64 j, .int .i64 0]) = .returned (.tuple #[.int .i64 (n : Int), .int .i64 (lenS n : Nat), .int .i64 0]) ∧ w = w' from by rintro i j rfl rfl w' rfl; exact ⟨rfl, rfl⟩)
  have HL := Lib.hid (lenB_len n h)
  have HS := Lib.hid hs
  have HX := Lib.hid h
  clear hs h
  go_enter Tryd.func38, Tryd.ntmps38
  go_wp2_with fail
  go_loopw [2, 3, 5] (fun a u c wr => ∃ (k x y : Nat) (L : Bs), k ≤ 3 ∧ a = .int .i64 (y : Int) ∧ u = .int .i64 (k : Int) ∧ c = .int .i64 ((128 ^ k : Nat) : Int) ∧ Hid (L.length = k ∧ lenB n = L ++ lenF (3 - k) x ∧ x < 128 ^ (4 - k) ∧ y + x * 128 ^ k = n) ∧ w = wr) (fun _ u _ _ => 4 - (intOf u).toNat)
  case atStart => exact ⟨0, n, 0, [], by omega, rfl, rfl, rfl, ⟨rfl, rfl, by have := HX.out; omega, by omega⟩, rfl⟩
  case round =>
    obtain ⟨k, x, y, L, hk, rfl, rfl, rfl, HP, hw⟩ := hrel
    subst hw
    have hn := HX.out
    obtain ⟨hl, hb, hx, hy⟩ := HP.out
    by_cases h1 : x < 128
    · rw [lenF_last _ _ h1] at hb
      have hg := head_at HS.out hb
      simp only [hl] at hg
      have hsz := HL.out
      rw [hb, List.length_append, List.length_singleton, hl] at hsz
      obtain ⟨hg1, hg2⟩ := hg
      have hne : ((k : Int) == (s.size : Int)) = false := by rw [beq_eq_false_iff_ne]; omega
      have hv : (s[k]'hg1).toNat = x := by rw [hg2, byteN_toNat, Nat.mod_eq_of_lt (by omega)]
      have HF := Lib.hid hsz
      clear hb hx hsz HP hg2
      have hk4 : k = 0 ∨ k = 1 ∨ k = 2 ∨ k = 3 := by omega
      rcases hk4 with rfl | rfl | rfl | rfl
      all_goals
        simp only [Nat.reducePow] at hy ⊢
        go_wp2_with fail
        go_ret3
        exact FIN.out _ _ (by omega) (by have := HF.out; omega) _ rfl
    · obtain ⟨f, hf⟩ : ∃ f, 3 - k = f + 1 := by
        refine ⟨2 - k, ?_⟩
        have : k ≠ 3 := by rintro rfl; simp at hx; omega
        omega
      rw [hf, lenF_step _ _ (by omega)] at hb
      have hg := head_at HS.out hb
      simp only [hl] at hg
      obtain ⟨hg1, hg2⟩ := hg
      have hne : ((k : Int) == (s.size : Int)) = false := by rw [beq_eq_false_iff_ne]; omega
      have hv : (s[k]'hg1).toNat = x % 128 + 128 := by rw [hg2, byteN_toNat, Nat.mod_eq_of_lt (by omega)]
      have HN := Lib.hid (show lenB n = (L ++ [byteN (x % 128 + 128)]) ++ lenF (3 - (k + 1)) (x / 128) by rw [hb, show 3 - (k + 1) = f by omega]; simp)
      have hl2 : (L ++ [byteN (x % 128 + 128)]).length = k + 1 := by rw [List.length_append, hl]; rfl
      generalize L ++ [byteN (x % 128 + 128)] = L2 at HN hl2
      clear hb HP hg2
      obtain ⟨r, hr⟩ : ∃ r, x % 128 = r := ⟨_, rfl⟩
      rw [hr] at hv
      have hr2 : r < 128 := by omega
      have hk4 : k = 0 ∨ k = 1 ∨ k = 2 := by omega
      rcases hk4 with rfl | rfl | rfl
      all_goals
        simp only [Nat.reducePow, Nat.reduceSub] at hx hy ⊢
        go_wp2_with fail
        go_roundw
        case rel => exact ⟨_, x / 128, _, L2, by omega, by first | rfl | go_num | (congr 1; omega), by first | rfl | go_num, by first | rfl | go_num, ⟨hl2, HN.out, by simp only [Nat.reducePow, Nat.reduceSub, Nat.reduceAdd]; omega, by have e128 : Int.natAbs 128 = 128 := rfl; simp only [Nat.reducePow, Nat.reduceAdd, e128]; omega⟩, by first | trivial | rfl⟩
        case measure => simp [intOf]
end Go.Proofs.YtkphaihbdmjogaaDoor
