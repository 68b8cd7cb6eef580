/- The walks of the references' numbers: powers, lengths, words, fields. Conditions: a machine's bounds. -/
import Derived.Test.YtfljdlaelanliaaDoorJoinD
import Derived.Deep.DeepCutAuto
namespace Go.Proofs.YtfljdlaelanliaaDoor
open Go.RowKit
set_option maxRecDepth 100000 in
theorem ref01_Power (k : Nat) (h : k ≤ 4) (w : World) : Calls Tryd.prog 68 #[.int .i64 (k : Int)] w fun e w' => e = .returned (.int .i64 ((128 ^ k : Nat) : Int)) ∧ w = w' := by
  go_enter Tryd.func68, Tryd.ntmps68
  go_wp2_with fail
  go_loopw [3, 4] (fun p i wr => ∃ j : Nat, j ≤ k ∧ i = .int .i64 (j : Int) ∧ p = .int .i64 ((128 ^ j : Nat) : Int) ∧ w = wr) (fun _ i _ => k - (intOf i).toNat)
  case atStart => exact ⟨0, by omega, rfl, rfl, rfl⟩
  case round =>
    obtain ⟨j, hj, rfl, rfl, hw⟩ := hrel
    subst hw
    have hb : 128 ^ j ≤ 268435456 := by
      have : j = 0 ∨ j = 1 ∨ j = 2 ∨ j = 3 ∨ j = 4 := by omega
      rcases this with rfl | rfl | rfl | rfl | rfl <;> decide
    have hs : 128 ^ (j + 1) = 128 ^ j * 128 := Nat.pow_succ ..
    obtain ⟨x, hx⟩ : ∃ x, 128 ^ j = x := ⟨_, rfl⟩
    rw [hx] at hb hs ⊢
    by_cases hlt : j < k
    · go_wp2_with fail
      go_roundw
      case rel => exact ⟨j + 1, by omega, by first | rfl | go_num, by rw [hs]; first | rfl | go_num | (congr 1; push_cast; omega), by first | rfl | trivial⟩
      case measure => simp [intOf]; omega
    · have hjk : j = k := by omega
      subst hjk
      go_wp2_with fail
      go_ret
      refine ⟨?_, rfl⟩
      rw [hx]
      rfl
theorem lenS_ge (n : Nat) : 1 ≤ lenS n := by unfold lenS; (repeat' split) <;> omega
theorem pow_vals : (128 ^ 0 = 1) ∧ (128 ^ 1 = 128) ∧ (128 ^ 2 = 16384) ∧ (128 ^ 3 = 2097152) := by decide
set_option maxRecDepth 100000 in
set_option maxHeartbeats 1000000 in
theorem ref01_Size (n : Nat) (h : n ≤ 268435455) (w : World) : Calls Tryd.prog 85 #[.int .i64 (n : Int)] w fun e w' => e = .returned (.int .i64 (lenS n : Nat)) ∧ w = w' := by
  have FIN := Lib.hid (show ∀ (k : Int), ((lenS n : Nat) : Int) = k → ∀ w' : World, w = w' → Ending.returned (.int .i64 k) = .returned (.int .i64 (lenS n : Nat)) ∧ w = w' from by rintro k rfl w' rfl; exact ⟨rfl, rfl⟩)
  have h0 : decide ((n : Int) < 0) = false := by rw [decide_eq_false_iff_not]; omega
  have h1 : decide ((268435455 : Int) < (n : Int)) = false := by rw [decide_eq_false_iff_not]; omega
  have HP := Lib.hid (fun (k : Nat) (hk : k ≤ 4) => ref01_Power k hk)
  go_enter Tryd.func85, Tryd.ntmps85
  go_wp2_with fail
  go_loopw [3] (fun i wr => ∃ j : Nat, 1 ≤ j ∧ j ≤ 4 ∧ i = .int .i64 (j : Int) ∧ Hid (lenS n ≤ j) ∧ w = wr) (fun i _ => (intOf i).toNat)
  case atStart => exact ⟨4, by omega, by omega, rfl, (show lenS n ≤ 4 by unfold lenS; (repeat' split) <;> omega), rfl⟩
  case round =>
    obtain ⟨j, hj1, hj4, rfl, HL, hw⟩ := hrel
    subst hw
    have hj : j = 1 ∨ j = 2 ∨ j = 3 ∨ j = 4 := by omega
    rcases hj with rfl | rfl | rfl | rfl
    · have HX := Lib.hid (show lenS n = 1 from by
        have h3 := HL.out
        have h2 : 1 ≤ lenS n := (lenS_ge n)
        omega)
      go_wp2_with fail
      go_ret
      exact FIN.out _ (by rw [HX.out] <;> rfl) _ rfl
    · by_cases hn : n < 128
      · have hn2 : decide ((n : Int) < 128) = true := by rw [decide_eq_true_eq]; omega
        have HN := Lib.hid (show lenS n ≤ 1 by unfold lenS; (repeat' split) <;> omega)
        clear hn
        go_wp2_with (go_at_call 68; refine Calls.mono (HP.out 1 (by decide) _) ?_; rintro e w9 ⟨rfl, rfl⟩)
        go_roundw
        case rel => exact ⟨1, by omega, by omega, by first | rfl | go_num, HN, by first | rfl | trivial⟩
        case measure => simp [intOf]
      · have hn2 : decide ((n : Int) < 128) = false := by rw [decide_eq_false_iff_not]; omega
        have HX := Lib.hid (show lenS n = 2 from by
          have h3 := HL.out
          have h2 : 2 ≤ lenS n := by unfold lenS; (repeat' split) <;> omega
          omega)
        clear hn
        go_wp2_with (go_at_call 68; refine Calls.mono (HP.out 1 (by decide) _) ?_; rintro e w9 ⟨rfl, rfl⟩)
        go_ret
        exact FIN.out _ (by rw [HX.out] <;> rfl) _ rfl
    · by_cases hn : n < 16384
      · have hn2 : decide ((n : Int) < 16384) = true := by rw [decide_eq_true_eq]; omega
        have HN := Lib.hid (show lenS n ≤ 2 by unfold lenS; (repeat' split) <;> omega)
        clear hn
        go_wp2_with (go_at_call 68; refine Calls.mono (HP.out 2 (by decide) _) ?_; rintro e w9 ⟨rfl, rfl⟩)
        go_roundw
        case rel => exact ⟨2, by omega, by omega, by first | rfl | go_num, HN, by first | rfl | trivial⟩
        case measure => simp [intOf]
      · have hn2 : decide ((n : Int) < 16384) = false := by rw [decide_eq_false_iff_not]; omega
        have HX := Lib.hid (show lenS n = 3 from by
          have h3 := HL.out
          have h2 : 3 ≤ lenS n := by unfold lenS; (repeat' split) <;> omega
          omega)
        clear hn
        go_wp2_with (go_at_call 68; refine Calls.mono (HP.out 2 (by decide) _) ?_; rintro e w9 ⟨rfl, rfl⟩)
        go_ret
        exact FIN.out _ (by rw [HX.out] <;> rfl) _ rfl
    · by_cases hn : n < 2097152
      · have hn2 : decide ((n : Int) < 2097152) = true := by rw [decide_eq_true_eq]; omega
        have HN := Lib.hid (show lenS n ≤ 3 by unfold lenS; (repeat' split) <;> omega)
        clear hn
        go_wp2_with (go_at_call 68; refine Calls.mono (HP.out 3 (by decide) _) ?_; rintro e w9 ⟨rfl, rfl⟩)
        go_roundw
        case rel => exact ⟨3, by omega, by omega, by first | rfl | go_num, HN, by first | rfl | trivial⟩
        case measure => simp [intOf]
      · have hn2 : decide ((n : Int) < 2097152) = false := by rw [decide_eq_false_iff_not]; omega
        have HX := Lib.hid (show lenS n = 4 from by
          have h3 := HL.out
          have h2 : 4 ≤ lenS n := by unfold lenS; (repeat' split) <;> omega
          omega)
        clear hn
        go_wp2_with (go_at_call 68; refine Calls.mono (HP.out 3 (by decide) _) ?_; rintro e w9 ⟨rfl, rfl⟩)
        go_ret
        exact FIN.out _ (by rw [HX.out] <;> rfl) _ rfl
theorem row_cell {w : World} {b o : Nat} {v : Value} (h : CellsA w (some ⟨b, o, none⟩) [v]) : w.cell? ⟨b, o, none⟩ = some v := by
  have := cells_at h 0 v rfl
  rwa [Addr.add_lit, Nat.add_zero] at this
theorem newsL1 {w w' : World} {xs : List Value} {T : TypeId} (h : w.alloc (.cells xs.toArray T) = w') : CellsA w' (some ⟨w.heap.size, 0, none⟩) xs := h ▸ cells_new
theorem wrap8 : ∀ t : Nat, t < 256 → IntKind.u8.wrap (t : Int) = (t : Int) := by decide +kernel
theorem wrapI64 : ∀ t : Nat, t < 256 → IntKind.i64.wrap (t : Int) = (t : Int) := by decide +kernel
theorem e_app (s : ByteArray) : (⟨#[]⟩ : ByteArray) ++ s = s := by
  apply bl_inj
  unfold bl
  simp
set_option maxRecDepth 100000 in
set_option maxHeartbeats 2000000 in
theorem ref01_Word (n : Nat) (h : n ≤ 65535) (b o c : Nat) (w : World) (hE : Env w) (hc : CellsA w (some ⟨b, o, none⟩) [.int .i64 (n : Int)]) : Calls Tryd.prog 101 #[.slice (some ⟨b, o, none⟩) 1 c] w fun e w' => e = .returned (.tuple #[.string (bB (wordB n)), .int .i64 0]) ∧ Below w.heap.size w w' := by
  have HK := Lib.hid (Keep.begin hE [(some ⟨b, o, none⟩, [.int .i64 (n : Int)])] (by intro r hr; simp at hr; subst hr; exact hc))
  have h0 : decide ((n : Int) < 0) = false := by rw [decide_eq_false_iff_not]; omega
  have h1 : decide ((65535 : Int) < (n : Int)) = false := by rw [decide_eq_false_iff_not]; omega
  clear hE hc
  obtain ⟨x, hx⟩ : ∃ x, n / 256 = x := ⟨_, rfl⟩
  obtain ⟨y, hy⟩ : ∃ y, n % 256 = y := ⟨_, rfl⟩
  have hS : strN [x, y] = bB (wordB n) := by subst hx hy; rfl
  have e1 : IntKind.u8.wrap (IntKind.i64.wrap ((n : Int) / 256)) = (x : Int) := by
    rw [show (n : Int) / 256 = (x : Int) by omega, wrapI64 x (by omega), wrap8 x (by omega)]
  have e2 : IntKind.u8.wrap (Int.tmod (n : Int) 256) = (y : Int) := by
    rw [Int.tmod_eq_emod_of_nonneg (by omega), show (n : Int) % 256 = (y : Int) by omega, wrap8 y (by omega)]
  clear hx hy
  have hzw : ¬ 9223372036854775807 < (bB (wordB n)).size := by show ¬ 9223372036854775807 < 2; omega
  go_enter Tryd.func101, Tryd.ntmps101
  go_wp2_with fail
  go_loopw [4, 5] (fun s i wr => ∃ k : Nat, k ≤ 1 ∧ i = .int .i64 (k : Int) ∧ s = .string (if k = 0 then ⟨#[]⟩ else bB (wordB n)) ∧ Hid (Keep w [] [(some ⟨b, o, none⟩, [.int .i64 (n : Int)])] wr)) (fun _ i _ => 1 - (intOf i).toNat)
  case atStart => exact ⟨0, by omega, rfl, rfl, HK⟩
  case round =>
    clear HK
    obtain ⟨k, hk, rfl, rfl, HK⟩ := hrel
    have hk2 : k = 0 ∨ k = 1 := by omega
    have hX := row_cell (HK.out.rowAt 0 rfl)
    rcases hk2 with rfl | rfl
    · go_upto_region 7 with fail
      clear hX
      refine wp_region_noPanic ?_
      refine wp_region_held_drew (S := fun w' => Keep w [] [(some ⟨b, o, none⟩, [.int .i64 (n : Int)])] w') (by kernel_rfl) ?_ (fun hHeld => ?_)
      · (first | exact HK.out | exact HK.out.drew | exact HK.out.drewN _)
      replace HK := Lib.hid hHeld
      generalize World.drew _ = wd at HK hHeld ⊢
      refine wpAnyH_take (i := 0) (oi := ⟨some 24, _, _, _, _, _⟩) (v := ?_) rfl (by kernel_rfl) (by kernel_rfl) (by kernel_rfl) (fun _ _ _ h => h) (Or.inl ⟨by rfl, ?_⟩) (by assumption) ?_
      rotate_left
      · (intro w hSw; (try dsimp only at hSw); have hXw := row_cell (Keep.rowAt hSw 0 rfl); go_simp; try with_reducible rfl)
      try simp only [Act.put, List.setIfInBounds_toArray, List.set_cons_zero, List.set_cons_succ]
      refine wpAnyH_take (i := 1) (oi := ⟨some 25, _, _, _, _, _⟩) (v := ?_) rfl (by kernel_rfl) (by kernel_rfl) (by kernel_rfl) (fun _ _ _ h => h) (Or.inl ⟨by rfl, ?_⟩) (by assumption) ?_
      rotate_left
      · (intro w hSw; (try dsimp only at hSw); have hXw := row_cell (Keep.rowAt hSw 0 rfl); go_simp; try with_reducible rfl)
      try simp only [Act.put, List.setIfInBounds_toArray, List.set_cons_zero, List.set_cons_succ]
      refine wpAnyH_take (i := 2) (oi := ⟨some 26, _, _, _, _, _⟩) (v := ?_) rfl (by kernel_rfl) (by kernel_rfl) (by kernel_rfl) (fun _ _ _ h => h) (Or.inl ⟨by rfl, ?_⟩) (by assumption) ?_
      rotate_left
      · (intro w hSw; (try dsimp only at hSw); have hXw := row_cell (Keep.rowAt hSw 0 rfl); go_simp; try with_reducible rfl)
      try simp only [Act.put, List.setIfInBounds_toArray, List.set_cons_zero, List.set_cons_succ]
      refine wpAnyH_take (i := 3) (oi := ⟨some 27, _, _, _, _, _⟩) (v := ?_) rfl (by kernel_rfl) (by kernel_rfl) (by kernel_rfl) (fun _ _ _ h => h) (Or.inl ⟨by rfl, ?_⟩) (by assumption) ?_
      rotate_left
      · (intro w hSw; (try dsimp only at hSw); have hXw := row_cell (Keep.rowAt hSw 0 rfl); go_simp; try with_reducible rfl)
      try simp only [Act.put, List.setIfInBounds_toArray, List.set_cons_zero, List.set_cons_succ]
      refine wpAnyH_take (i := 4) (oi := ⟨some 28, _, _, _, _, _⟩) (v := ?_) rfl (by kernel_rfl) (by kernel_rfl) (by kernel_rfl) (fun _ _ _ h => h) (Or.inl ⟨by rfl, ?_⟩) (by assumption) ?_
      rotate_left
      · (intro w hSw; (try dsimp only at hSw); have hXw := row_cell (Keep.rowAt hSw 0 rfl); go_simp; try with_reducible rfl)
      try simp only [Act.put, List.setIfInBounds_toArray, List.set_cons_zero, List.set_cons_succ]
      refine wpAnyH_take (i := 5) (oi := ⟨some 29, _, _, _, _, _⟩) (v := ?_) rfl (by kernel_rfl) (by kernel_rfl) (by kernel_rfl) (fun _ _ _ h => h) (Or.inl ⟨by rfl, ?_⟩) (by assumption) ?_
      rotate_left
      · (intro w hSw; (try dsimp only at hSw); have hXw := row_cell (Keep.rowAt hSw 0 rfl); go_simp; try with_reducible rfl)
      try simp only [Act.put, List.setIfInBounds_toArray, List.set_cons_zero, List.set_cons_succ]
      refine wpAnyH_take (i := 6) (oi := ⟨some 30, _, _, _, _, _⟩) (v := ?_) rfl (by kernel_rfl) (by kernel_rfl) (by kernel_rfl) (fun _ _ _ h => h) (Or.inl ⟨by rfl, ?_⟩) (by assumption) ?_
      rotate_left
      · (intro w hSw; (try dsimp only at hSw); have hXw := row_cell (Keep.rowAt hSw 0 rfl); go_simp; try with_reducible rfl)
      try simp only [Act.put, List.setIfInBounds_toArray, List.set_cons_zero, List.set_cons_succ]
      refine wpAnyH_take (i := 7) (oi := ⟨some 31, _, _, _, _, _⟩) (v := ?_) rfl (by kernel_rfl) (by kernel_rfl) (by kernel_rfl) (fun _ _ _ h => h) (Or.inl ⟨by rfl, ?_⟩) (by assumption) ?_
      rotate_left
      · (intro w hSw; (try dsimp only at hSw); have hXw := row_cell (Keep.rowAt hSw 0 rfl); go_simp; try with_reducible rfl)
      try simp only [Act.put, List.setIfInBounds_toArray, List.set_cons_zero, List.set_cons_succ]
      refine wpAnyH_take (i := 8) (oi := ⟨some 32, _, _, _, _, _⟩) (v := ?_) rfl (by kernel_rfl) (by kernel_rfl) (by kernel_rfl) (fun _ _ _ h => h) (Or.inl ⟨by rfl, ?_⟩) (by assumption) ?_
      rotate_left
      · (intro w hSw; (try dsimp only at hSw); have hXw := row_cell (Keep.rowAt hSw 0 rfl); go_simp; try with_reducible rfl)
      try simp only [Act.put, List.setIfInBounds_toArray, List.set_cons_zero, List.set_cons_succ]
      refine wpAnyH_take (i := 9) (oi := ⟨some 33, _, _, _, _, _⟩) (v := ?_) rfl (by kernel_rfl) (by kernel_rfl) (by kernel_rfl) (fun _ _ _ h => h) (Or.inl ⟨by rfl, ?_⟩) (by assumption) ?_
      rotate_left
      · (intro w hSw; (try dsimp only at hSw); have hXw := row_cell (Keep.rowAt hSw 0 rfl); go_simp; try with_reducible rfl)
      try simp only [Act.put, List.setIfInBounds_toArray, List.set_cons_zero, List.set_cons_succ]
      refine wpAnyH_take (i := 10) (oi := ⟨some 34, _, _, _, _, _⟩) (v := ?_) rfl (by kernel_rfl) (by kernel_rfl) (by kernel_rfl) (fun _ _ _ h => h) (Or.inl ⟨by rfl, ?_⟩) (by assumption) ?_
      rotate_left
      · (intro w hSw; (try dsimp only at hSw); have hXw := row_cell (Keep.rowAt hSw 0 rfl); go_simp; try with_reducible rfl)
      try simp only [Act.put, List.setIfInBounds_toArray, List.set_cons_zero, List.set_cons_succ]
      refine wpAnyH_take (i := 11) (oi := ⟨some 35, _, _, _, _, _⟩) (v := ?_) rfl (by kernel_rfl) (by kernel_rfl) (by kernel_rfl) (fun _ _ _ h => h) (Or.inl ⟨by rfl, ?_⟩) (by assumption) ?_
      rotate_left
      · (intro w hSw; (try dsimp only at hSw); have hXw := row_cell (Keep.rowAt hSw 0 rfl); go_simp; try with_reducible rfl)
      try simp only [Act.put, List.setIfInBounds_toArray, List.set_cons_zero, List.set_cons_succ]
      refine wpAnyH_take (i := 12) (oi := ⟨some 36, _, _, _, _, _⟩) (v := ?_) rfl (by kernel_rfl) (by kernel_rfl) (by kernel_rfl) (fun _ _ _ h => h) (Or.inl ⟨by rfl, ?_⟩) (by assumption) ?_
      rotate_left
      · (intro w hSw; (try dsimp only at hSw); have hXw := row_cell (Keep.rowAt hSw 0 rfl); go_simp; try with_reducible rfl)
      try simp only [Act.put, List.setIfInBounds_toArray, List.set_cons_zero, List.set_cons_succ]
      refine wpAnyH_ready (rs := [13]) (by kernel_rfl) (by simp) ?_
      refine AllReadyH.cons (o := ⟨some 37, _, _, _, _, _⟩) rfl (fun K hK => ?_) AllReadyH.nil
      go_simp
      refine hK.out _ _ ?_ (fun hHeld => ?_)
      · (first | exact HK.out | exact HK.out.drew | exact HK.out.below ((Below.refl _ _).alloc (Nat.le_refl _) _))
      clear hK K
      replace HK := Lib.hid hHeld
      generalize hgw : World.alloc _ _ = w8 at hHeld HK ⊢; have HN := newsL1 hgw; have kc := conv_nats (P := Tryd.prog) w8 52 5 Tryd.underlying52 Tryd.underlying5 (some ⟨wd.heap.size, 0, none⟩) 2 [x, y] 2 rfl HN 9 Tryd.underlying9; rw [hS] at kc; clear HN hgw
      try simp only [Act.put, List.setIfInBounds_toArray, List.set_cons_zero, List.set_cons_succ]
      refine wpAnyH_ready (rs := [14]) (by kernel_rfl) (by simp) ?_
      refine AllReadyH.cons (o := ⟨some 38, _, _, _, _, _⟩) rfl (fun K hK => ?_) AllReadyH.nil
      go_simp
      refine hK.out _ _ ?_ (fun hHeld => ?_)
      · (first | exact HK.out | exact HK.out.drew | exact HK.out.below ((Below.refl _ _).alloc (Nat.le_refl _) _))
      clear hK K
      replace HK := Lib.hid hHeld
      try simp only [Act.put, List.setIfInBounds_toArray, List.set_cons_zero, List.set_cons_succ]
      refine wpAnyH_take (i := 15) (oi := ⟨some 39, _, _, _, _, _⟩) (v := ?_) rfl (by kernel_rfl) (by kernel_rfl) (by kernel_rfl) (fun _ _ _ h => h) (Or.inl ⟨by rfl, ?_⟩) (by assumption) ?_
      rotate_left
      · (intro w hSw; (try dsimp only at hSw); have hXw := row_cell (Keep.rowAt hSw 0 rfl); go_simp; try with_reducible rfl)
      try simp only [Act.put, List.setIfInBounds_toArray, List.set_cons_zero, List.set_cons_succ]
      refine wpAnyH_take (i := 16) (oi := ⟨some 4, _, _, _, _, _⟩) (v := ?_) rfl (by kernel_rfl) (by kernel_rfl) (by kernel_rfl) (fun _ _ _ h => h) (Or.inl ⟨by rfl, ?_⟩) (by assumption) ?_
      rotate_left
      · (intro w hSw; (try dsimp only at hSw); have hXw := row_cell (Keep.rowAt hSw 0 rfl); go_simp; try with_reducible rfl)
      try simp only [Act.put, List.setIfInBounds_toArray, List.set_cons_zero, List.set_cons_succ]
      refine wpAnyH_done (by kernel_rfl) ?_ _
      refine NoPanic.normal ?_
      go_wp2_with fail
      go_roundw
      case rel => exact ⟨1, by omega, by first | rfl | go_num, by first | rfl | (rw [if_neg (by decide)]; congr 1; exact e_app _), HK⟩
      case measure => simp [intOf]
    · go_wp2_with fail
      go_ret2
      exact ⟨rfl, HK.out.low⟩
set_option maxRecDepth 100000 in
theorem ref02_PutData (s : ByteArray) (h : s.size ≤ 65535) (w : World) (hE : Env w) : Calls Tryd.prog 100 #[.string s] w fun e w' => e = .returned (.tuple #[.string (bB (dataB s)), .int .i64 0]) ∧ Below w.heap.size w w' := by
  have hbw : Below w.heap.size w (w.alloc (.cells #[.int .i64 (s.size : Int)] 3)) := (Below.refl _ _).alloc (Nat.le_refl _) _
  have HW := Lib.hid (ref01_Word s.size h w.heap.size 0 1 (w.alloc (.cells #[.int .i64 (s.size : Int)] 3)) (hE.below hbw) cells_new)
  have HS := Lib.hid (show bB (wordB s.size) ++ s = bB (dataB s) by
    unfold dataB
    apply bl_inj
    unfold bl bB
    simp)
  have hz2 : ¬ 9223372036854775807 < (bB (wordB s.size)).size + s.size := by show ¬ 9223372036854775807 < 2 + s.size; omega
  go_enter Tryd.func100, Tryd.ntmps100
  go_wp2_with (go_at_call 101; refine Calls.mono HW.out ?_; rintro e w1 ⟨rfl, hb1⟩; replace hb1 := Below.then hbw hb1)
  go_ret2
  exact ⟨by rw [← HS.out]; rfl, hb1⟩
theorem bB_two (A B : Bs) : bB (A ++ B) = bB A ++ bB B := by
  apply bl_inj
  unfold bl bB
  simp
theorem str1 (v : Nat) : strN [v] = bB [byteN v] := rfl
theorem lenB_at (n : Nat) (h : n ≤ 268435455) (k : Nat) (hk : k < lenS n) : (lenB n)[k]? = some (byteN (n / 128 ^ k % 128 + if k + 1 < lenS n then 128 else 0)) := by
  have hk4 : k = 0 ∨ k = 1 ∨ k = 2 ∨ k = 3 := by
    have : lenS n ≤ 4 := by unfold lenS; (repeat' split) <;> omega
    omega
  unfold lenB lenF lenF lenF lenF
  unfold lenS at hk ⊢
  by_cases h1 : n < 128
  · simp only [h1, if_true] at hk ⊢
    obtain rfl : k = 0 := by omega
    have : n / 128 ^ 0 % 128 = n := by rw [Nat.pow_zero, Nat.div_one]; omega
    rw [this]; rfl
  · by_cases h2 : n < 16384
    · have a1 : n / 128 < 128 := by omega
      simp only [h1, h2, a1, if_true, if_false] at hk ⊢
      rcases hk4 with rfl | rfl | rfl | rfl
      · simp
      · simp; congr 1; omega
      · omega
      · omega
    · by_cases h3 : n < 2097152
      · have a1 : ¬ n / 128 < 128 := by omega
        have a2 : n / 128 / 128 < 128 := by omega
        simp only [h1, h2, h3, a1, a2, if_true, if_false] at hk ⊢
        rcases hk4 with rfl | rfl | rfl | rfl
        · simp
        · simp
        · simp; congr 1; omega
        · omega
      · have a1 : ¬ n / 128 < 128 := by omega
        have a2 : ¬ n / 128 / 128 < 128 := by omega
        simp only [h1, h2, h3, a1, a2, if_false] at hk ⊢
        rcases hk4 with rfl | rfl | rfl | rfl
        · simp
        · simp
        · simp; congr 1; omega
        · simp; congr 1; omega
set_option maxRecDepth 100000 in
set_option maxHeartbeats 2000000 in
theorem ref01_Len (n : Nat) (h : n ≤ 268435455) (w : World) (hE : Env w) : Calls Tryd.prog 62 #[.int .i64 (n : Int)] w fun e w' => e = .returned (.tuple #[.string (bB (lenB n)), .int .i64 0]) ∧ Below w.heap.size w w' := by
  have HK := Lib.hid (Keep.begin hE [] (by intro r hr; cases hr))
  have HZ := Lib.hid (fun w1 => ref01_Size n h w1)
  have HA := Lib.hid (lenB_at n h)
  have HLL := Lib.hid (lenB_len n h)
  have hz4 : 1 ≤ lenS n ∧ lenS n ≤ 4 := by unfold lenS; (repeat' split) <;> omega
  have FIN := Lib.hid (show ∀ (L : Bs) (w' : World), L = lenB n → Below w.heap.size w w' → Ending.returned (.tuple #[.string (bB L), .int .i64 0]) = .returned (.tuple #[.string (bB (lenB n)), .int .i64 0]) ∧ Below w.heap.size w w' from by rintro L w' rfl h; exact ⟨rfl, h⟩)
  generalize lenB n = L at *
  generalize lenS n = z at *
  have hzz : ((z : Int) == 0) = false := by rw [beq_eq_false_iff_ne]; omega
  clear hE
  go_enter Tryd.func62, Tryd.ntmps62
  go_wp2_with (go_at_call 85; refine Calls.mono (HZ.out _) ?_; rintro e w9 ⟨rfl, rfl⟩)
  go_loopw [5, 6] (fun s i wr => ∃ k : Nat, k ≤ z ∧ i = .int .i64 (k : Int) ∧ s = .string (bB (L.take k)) ∧ Hid (Keep w [] [] wr)) (fun _ i _ => z - (intOf i).toNat)
  case atStart => exact ⟨0, by omega, rfl, rfl, HK⟩
  case round =>
    clear HK
    obtain ⟨k, hk, rfl, rfl, HK⟩ := hrel
    by_cases hlt : k < z
    · have HP := Lib.hid (fun w1 => ref01_Power k (by omega) w1)
      have ha := HA.out k hlt
      have hm : 0 < 128 ^ k := Nat.pow_pos (by omega)
      obtain ⟨m, hm2⟩ : ∃ m, 128 ^ k = m := ⟨_, rfl⟩
      rw [hm2] at ha hm HP
      have hm0 : ((m : Int) == 0) = false := by rw [beq_eq_false_iff_ne]; omega
      clear hm2
      have hk4 : (L.take k).length ≤ 4 := by rw [List.length_take]; omega
      have hsn : L.take (k + 1) = L.take k ++ [byteN (n / m % 128 + if k + 1 < z then 128 else 0)] := by rw [List.take_add_one, ha]; rfl
      obtain ⟨q, hq⟩ : ∃ q, n / m = q := ⟨_, rfl⟩
      rw [hq] at hsn
      have hqn : q ≤ n := by rw [← hq]; exact Nat.div_le_self _ _
      have e1 : wrap64 ((n : Int) / (m : Int)) = (q : Int) := by
        rw [← hq, Int.natCast_ediv]
        have : (0 : Int) ≤ (n : Int) / (m : Int) := Int.ediv_nonneg (by omega) (by omega)
        have h9 : (n : Int) / (m : Int) ≤ (n : Int) := Int.ediv_le_self _ (by omega)
        unfold wrap64; omega
      obtain ⟨d, hd⟩ : ∃ d, q % 128 = d := ⟨_, rfl⟩
      rw [hd] at hsn
      have e2 : Int.tmod (q : Int) 128 = (d : Int) := by rw [Int.tmod_eq_emod_of_nonneg (by omega)]; omega
      have hdl : d < 128 := by omega
      clear hq hd ha
      by_cases hl : k + 1 < z
      · have hl2 : decide ((k : Int) < (z : Int) - 1) = true := by rw [decide_eq_true_eq]; omega
        rw [if_pos hl] at hsn
        have HS := Lib.hid (show bB (L.take (k + 1)) = bB (L.take k) ++ strN [d + 128] by rw [hsn, str1]; exact bB_two _ _)
        have hcat : ¬ 9223372036854775807 < (bB (L.take k)).size + (strN [d + 128]).size := by
          have h5 : (strN [d + 128]).size = 1 := rfl
          have h6 : (bB (L.take k)).size = (L.take k).length := rfl
          omega
        clear hsn
        go_wp2_with (first
          | (go_at_call 68; refine Calls.mono (HP.out _) ?_; rintro e w9 ⟨rfl, rfl⟩)
          | ((with_reducible show wpList _ _ _ (⟨some 31, .buildSlice _ _ _, _, _, _, _⟩ :: _) _ _); refine Great.wpList_buildSliceTo rfl 52 5 1 _ rfl _ rfl _ rfl Tryd.underlying52 (List.toArray (natV [d + 128])) (by kernel_rfl) ?_; replace HK := Lib.hid (HK.out.allocRow (natV [d + 128]) 5); generalize hgw : World.alloc _ _ = wg at HK ⊢; clear hgw; have kc := conv_nats (P := Tryd.prog) wg 52 5 Tryd.underlying52 Tryd.underlying5 _ 1 [d + 128] 1 rfl (HK.out.rowAt 0 rfl) 9 Tryd.underlying9))
        go_roundw
        case rel => exact ⟨k + 1, by omega, by first | rfl | go_num, by rw [HS.out], Lib.hid (HK.out.sub (List.nil_sublist _) (fun r hr => by cases hr))⟩
        case measure => simp [intOf]; omega
      · have hl2 : decide ((k : Int) < (z : Int) - 1) = false := by rw [decide_eq_false_iff_not]; omega
        rw [if_neg hl, Nat.add_zero] at hsn
        have HS := Lib.hid (show bB (L.take (k + 1)) = bB (L.take k) ++ strN [d] by rw [hsn, str1]; exact bB_two _ _)
        have hcat : ¬ 9223372036854775807 < (bB (L.take k)).size + (strN [d]).size := by
          have h5 : (strN [d]).size = 1 := rfl
          have h6 : (bB (L.take k)).size = (L.take k).length := rfl
          omega
        clear hsn
        go_wp2_with (first
          | (go_at_call 68; refine Calls.mono (HP.out _) ?_; rintro e w9 ⟨rfl, rfl⟩)
          | ((with_reducible show wpList _ _ _ (⟨some 31, .buildSlice _ _ _, _, _, _, _⟩ :: _) _ _); refine Great.wpList_buildSliceTo rfl 52 5 1 _ rfl _ rfl _ rfl Tryd.underlying52 (List.toArray (natV [d])) (by kernel_rfl) ?_; replace HK := Lib.hid (HK.out.allocRow (natV [d]) 5); generalize hgw : World.alloc _ _ = wg at HK ⊢; clear hgw; have kc := conv_nats (P := Tryd.prog) wg 52 5 Tryd.underlying52 Tryd.underlying5 _ 1 [d] 1 rfl (HK.out.rowAt 0 rfl) 9 Tryd.underlying9))
        go_roundw
        case rel => exact ⟨k + 1, by omega, by first | rfl | go_num, by rw [HS.out], Lib.hid (HK.out.sub (List.nil_sublist _) (fun r hr => by cases hr))⟩
        case measure => simp [intOf]; omega
    · have hkz : k = z := by omega
      subst hkz
      have ht : L.take k = L := List.take_of_length_le (by rw [HLL.out]; omega)
      rw [ht]
      go_wp2_with fail
      go_ret2
      exact FIN.out _ _ rfl HK.out.low
end Go.Proofs.YtfljdlaelanliaaDoor
