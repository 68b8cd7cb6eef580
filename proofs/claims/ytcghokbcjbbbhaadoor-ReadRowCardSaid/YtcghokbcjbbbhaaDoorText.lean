/- The walks of the texts' functions: the reference's and the program's Count and Valid tell the same plain function of the bytes. Conditions: the decoder's tables lie as Go lays them. -/
import Derived.Test.YtcghokbcjbbbhaaDoorBase
import Derived.Test.YtcghokbcjbbbhaaDoorPlainText
import Derived.Test.YtcghokbcjbbbhaaDoorShelf
import Derived.Laws.RangeAny
namespace Go.Proofs.YtcghokbcjbbbhaaDoor
open Go.RowKit

theorem get_bN (s : ByteArray) : ∀ (n : Nat) (h : n < s.size), (s[n]'h).toNat = bN s.data.toList n := by
  intro n h
  unfold bN
  rw [List.getD_eq_getElem?_getD, List.getElem?_eq_getElem (by rw [← Lib.size_eq]; exact h)]
  rfl

set_option maxRecDepth 100000 in
theorem ref02_size (n : Nat) (w : World) : Calls Tryd.prog 130 #[.int .u8 n] w fun e w' => e = .returned (.int .i64 (szB n)) ∧ w = w' := by
  go_enter Tryd.func130, Tryd.ntmps130
  go_wp2
  all_goals go_ret
  all_goals (refine ⟨ret_int ?_, rfl⟩)
  all_goals (unfold szB; repeat' split)
  all_goals omega

def leastN (n : Nat) : Int := if n = 0 then 0 else if n = 1 then 1 else if n = 2 then 128 else if n = 3 then 2048 else 65536
theorem ref02_least (n : Nat) (hn : n ≤ 4) (w : World) : Calls Tryd.prog 131 #[.int .i64 n] w fun e w' => e = .returned (.int .i64 (leastN n)) ∧ Below w.heap.size w w' := by
  obtain rfl | rfl | rfl | rfl | rfl : n = 0 ∨ n = 1 ∨ n = 2 ∨ n = 3 ∨ n = 4 := by omega
  all_goals
    go_enter Tryd.func131, Tryd.ntmps131
    go_wp2
    go_ret
    exact ⟨rfl, by go_grown⟩

theorem ret_two {k l : IntKind} {a b c d : Int} (h : a = b) (g : c = d) : Ending.returned (.tuple #[.int k a, .int l c]) = .returned (.tuple #[.int k b, .int l d]) := by rw [h, g]
theorem size_at (n : Nat) (k : Int) (h : (szB n : Int) = k) (w : World) : Calls Tryd.prog 130 #[.int .u8 n] w fun e w' => e = .returned (.int .i64 k) ∧ w = w' := by
  subst h; exact ref02_size n w
theorem least_at (n k : Int) (h : (n = 1 ∧ k = 1) ∨ (n = 2 ∧ k = 128) ∨ (n = 3 ∧ k = 2048) ∨ (n = 4 ∧ k = 65536)) (w : World) : Calls Tryd.prog 131 #[.int .i64 n] w fun e w' => e = .returned (.int .i64 k) ∧ Below w.heap.size w w' := by
  rcases h with ⟨rfl, rfl⟩ | ⟨rfl, rfl⟩ | ⟨rfl, rfl⟩ | ⟨rfl, rfl⟩
  · exact ref02_least 1 (by decide) w
  · exact ref02_least 2 (by decide) w
  · exact ref02_least 3 (by decide) w
  · exact ref02_least 4 (by decide) w
theorem szB_1 {b : Nat} (h : b < 128) : (szB b : Int) = 1 := by unfold szB; rw [if_pos h]; rfl
theorem szB_2 {b : Nat} (h : 192 ≤ b ∧ b < 224) : (szB b : Int) = 2 := by unfold szB; rw [if_neg (by omega), if_pos h]; rfl
theorem szB_3 {b : Nat} (h : 224 ≤ b ∧ b < 240) : (szB b : Int) = 3 := by unfold szB; rw [if_neg (by omega), if_neg (by omega), if_pos h]; rfl
theorem szB_4 {b : Nat} (h : 240 ≤ b ∧ b < 248) : (szB b : Int) = 4 := by unfold szB; rw [if_neg (by omega), if_neg (by omega), if_neg (by omega), if_pos h]; rfl
theorem szB_0 {b : Nat} (h : (128 ≤ b ∧ b < 192) ∨ 248 ≤ b) : (szB b : Int) = 0 := by unfold szB; rw [if_neg (by omega), if_neg (by omega), if_neg (by omega), if_neg (by omega)]; rfl

set_option maxRecDepth 100000 in
set_option maxHeartbeats 1000000 in
theorem ref02_character (s : ByteArray) (w : World) (h0 : 0 < s.size) (hs : s.size ≤ 9223372036854775807) :
    Calls Tryd.prog 121 #[.string s] w fun e w' => e = .returned (.tuple #[.int .i64 (chrD s.data.toList).1, .int .i64 (chrD s.data.toList).2]) ∧ Below w.heap.size w w' := by
  have hne : s.data.toList ≠ [] := by intro e; rw [Lib.size_eq, e] at h0; simp at h0
  rw [chrD_N _ hne, ← Lib.size_eq]
  have g0 : ∀ h : 0 < s.size, (s[0]'h).toNat = bN s.data.toList 0 := fun h => get_bN s _ h
  have g1 : ∀ h : 1 < s.size, (s[1]'h).toNat = bN s.data.toList 1 := fun h => get_bN s _ h
  have g2 : ∀ h : 2 < s.size, (s[2]'h).toNat = bN s.data.toList 2 := fun h => get_bN s _ h
  have g3 : ∀ h : 3 < s.size, (s[3]'h).toNat = bN s.data.toList 3 := fun h => get_bN s _ h
  have h1 := bN_lt s.data.toList 0
  have h2 := bN_lt s.data.toList 1
  have h3 := bN_lt s.data.toList 2
  have h4 := bN_lt s.data.toList 3
  generalize bN s.data.toList 0 = b0 at *
  generalize bN s.data.toList 1 = b1 at *
  generalize bN s.data.toList 2 = b2 at *
  generalize bN s.data.toList 3 = b3 at *
  clear hne
  have fin : ∀ (c d : Int) (w' : World), (c = (chrN s.size b0 b1 b2 b3).1 ∧ d = (chrN s.size b0 b1 b2 b3).2) → Below w.heap.size w w' → Ending.returned (.tuple #[.int .i64 c, .int .i64 d]) = Ending.returned (.tuple #[.int .i64 (chrN s.size b0 b1 b2 b3).1, .int .i64 (chrN s.size b0 b1 b2 b3).2]) ∧ Below w.heap.size w w' := by
    rintro c d w' ⟨rfl, rfl⟩ h; exact ⟨rfl, h⟩
  have FIN := Lib.hid fin; clear fin
  rcases (by omega : b0 < 128 ∨ (192 ≤ b0 ∧ b0 < 224) ∨ (224 ≤ b0 ∧ b0 < 240) ∨ (240 ≤ b0 ∧ b0 < 248) ∨ ((128 ≤ b0 ∧ b0 < 192) ∨ 248 ≤ b0)) with hc | hc | hc | hc | hc
  · have hz := Lib.hid (szB_1 hc)
    go_enter Tryd.func121, Tryd.ntmps121
    go_wp2_with (first | (go_at_call 130; refine (size_at _ _ hz.out _).mono ?_; rintro e w' ⟨rfl, rfl⟩))
    all_goals try (refine wp_loop_rounds 1 ?_; rw [rounds_succ]; go_wp2_with (first | (go_at_call 131; refine (least_at _ 1 (by omega) _).mono ?_; rintro e w1 ⟨rfl, hb⟩; replace hb := Below.then (w := w) (by go_grown) hb)))
    all_goals go_ret2
    all_goals refine FIN.out _ _ _ ?_ (by go_grown)
    all_goals (unfold chrN; repeat' split)
    all_goals (constructor <;> first | rfl | omega | (simp only []; omega))
  · have hz := Lib.hid (szB_2 hc)
    go_enter Tryd.func121, Tryd.ntmps121
    go_wp2_with (first | (go_at_call 130; refine (size_at _ _ hz.out _).mono ?_; rintro e w' ⟨rfl, rfl⟩))
    all_goals try (refine wp_loop_rounds 2 ?_; rw [rounds_succ]; go_wp2_with (first | (go_at_call 131; refine (least_at _ 128 (by omega) _).mono ?_; rintro e w1 ⟨rfl, hb⟩; replace hb := Below.then (w := w) (by go_grown) hb)))
    all_goals try (rw [rounds_succ]; go_wp2_with (first | (go_at_call 131; refine (least_at _ 128 (by omega) _).mono ?_; rintro e w1 ⟨rfl, hb⟩; replace hb := Below.then (w := w) (by go_grown) hb)))
    all_goals go_ret2
    all_goals refine FIN.out _ _ _ ?_ (by go_grown)
    all_goals (unfold chrN; repeat' split)
    all_goals (constructor <;> first | rfl | omega | (simp only []; omega))
  · have hz := Lib.hid (szB_3 hc)
    go_enter Tryd.func121, Tryd.ntmps121
    go_wp2_with (first | (go_at_call 130; refine (size_at _ _ hz.out _).mono ?_; rintro e w' ⟨rfl, rfl⟩))
    all_goals try (refine wp_loop_rounds 3 ?_; rw [rounds_succ]; go_wp2_with (first | (go_at_call 131; refine (least_at _ 2048 (by omega) _).mono ?_; rintro e w1 ⟨rfl, hb⟩; replace hb := Below.then (w := w) (by go_grown) hb)))
    all_goals try (rw [rounds_succ]; go_wp2_with (first | (go_at_call 131; refine (least_at _ 2048 (by omega) _).mono ?_; rintro e w1 ⟨rfl, hb⟩; replace hb := Below.then (w := w) (by go_grown) hb)))
    all_goals try (rw [rounds_succ]; go_wp2_with (first | (go_at_call 131; refine (least_at _ 2048 (by omega) _).mono ?_; rintro e w1 ⟨rfl, hb⟩; replace hb := Below.then (w := w) (by go_grown) hb)))
    all_goals go_ret2
    all_goals refine FIN.out _ _ _ ?_ (by go_grown)
    all_goals (unfold chrN; repeat' split)
    all_goals (constructor <;> first | rfl | omega | (simp only []; omega))
  · have hz := Lib.hid (szB_4 hc)
    go_enter Tryd.func121, Tryd.ntmps121
    go_wp2_with (first | (go_at_call 130; refine (size_at _ _ hz.out _).mono ?_; rintro e w' ⟨rfl, rfl⟩))
    all_goals try (refine wp_loop_rounds 4 ?_; rw [rounds_succ]; go_wp2_with (first | (go_at_call 131; refine (least_at _ 65536 (by omega) _).mono ?_; rintro e w1 ⟨rfl, hb⟩; replace hb := Below.then (w := w) (by go_grown) hb)))
    all_goals try (rw [rounds_succ]; go_wp2_with (first | (go_at_call 131; refine (least_at _ 65536 (by omega) _).mono ?_; rintro e w1 ⟨rfl, hb⟩; replace hb := Below.then (w := w) (by go_grown) hb)))
    all_goals try (rw [rounds_succ]; go_wp2_with (first | (go_at_call 131; refine (least_at _ 65536 (by omega) _).mono ?_; rintro e w1 ⟨rfl, hb⟩; replace hb := Below.then (w := w) (by go_grown) hb)))
    all_goals try (rw [rounds_succ]; go_wp2_with (first | (go_at_call 131; refine (least_at _ 65536 (by omega) _).mono ?_; rintro e w1 ⟨rfl, hb⟩; replace hb := Below.then (w := w) (by go_grown) hb)))
    all_goals go_ret2
    all_goals refine FIN.out _ _ _ ?_ (by go_grown)
    all_goals (unfold chrN; repeat' split)
    all_goals (constructor <;> first | rfl | omega | (simp only []; omega))
  · have hz := Lib.hid (szB_0 hc)
    go_enter Tryd.func121, Tryd.ntmps121
    go_wp2_with (first | (go_at_call 130; refine (size_at _ _ hz.out _).mono ?_; rintro e w' ⟨rfl, rfl⟩))
    all_goals go_ret2
    all_goals refine FIN.out _ _ _ ?_ (by go_grown)
    all_goals (unfold chrN; repeat' split)
    all_goals (constructor <;> first | rfl | omega | (simp only []; omega))
end Go.Proofs.YtcghokbcjbbbhaaDoor
