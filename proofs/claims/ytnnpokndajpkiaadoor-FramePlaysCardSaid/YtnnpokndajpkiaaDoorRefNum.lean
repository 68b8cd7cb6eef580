import Derived.Test.YtnnpokndajpkiaaDoorJoinD
import Derived.Deep.DeepCutAuto
namespace Go.Proofs.YtnnpokndajpkiaaDoor
open Go.RowKit
set_option maxRecDepth 100000 in
theorem ref01_Power (k : Nat) (h : k ≤ 4) (w : World) : Calls Tryd.prog 64 #[.int .i64 (k : Int)] w fun e w' => e = .returned (.int .i64 ((128 ^ k : Nat) : Int)) ∧ w = w' := by
  go_enter Tryd.func64, Tryd.ntmps64
  go_wp2_with fail
  go_loopw [3, 4] (fun p i wr => ∃ j : Nat, j ≤ k ∧ i = .int .i64 (j : Int) ∧ p = .int .i64 ((128 ^ j : Nat) : Int) ∧ w = wr) (fun _ i _ => k - (intOf i).toNat)
  case atStart => exact ⟨0, by omega, rfl, rfl, rfl⟩
  case round =>
    obtain ⟨j, hj, rfl, rfl, hw⟩ := hrel; subst hw; have hb : 128 ^ j ≤ 268435456 := by
      have : j = 0 ∨ j = 1 ∨ j = 2 ∨ j = 3 ∨ j = 4 := by omega
      rcases this with rfl | rfl | rfl | rfl | rfl <;> decide
    have hs : 128 ^ (j + 1) = 128 ^ j * 128 := Nat.pow_succ ..; obtain ⟨x, hx⟩ : ∃ x, 128 ^ j = x := ⟨_, rfl⟩
    rw [hx] at hb hs ⊢; by_cases hlt : j < k
    · go_wp2_with fail
      go_roundw
      case rel => exact ⟨j + 1, by omega, by first | rfl | go_num, by rw [hs]; first | rfl | go_num | (congr 1; push_cast; omega), by first | rfl | trivial⟩
      case measure => simp [intOf]; omega
    · have hjk : j = k := by omega
      subst hjk; go_wp2_with fail
      go_ret
      refine ⟨?_, rfl⟩; rw [hx]; rfl
theorem row_cell {w : World} {b o : Nat} {v : Value} (h : CellsA w (some ⟨b, o, none⟩) [v]) : w.cell? ⟨b, o, none⟩ = some v := by
  have := cells_at h 0 v rfl; rwa [Addr.add_lit, Nat.add_zero] at this
theorem newsL1 {w w' : World} {xs : List Value} {T : TypeId} (h : w.alloc (.cells xs.toArray T) = w') : CellsA w' (some ⟨w.heap.size, 0, none⟩) xs := h ▸ cells_new
theorem wrap8 : ∀ t : Nat, t < 256 → IntKind.u8.wrap (t : Int) = (t : Int) := by decide +kernel
theorem wrapI64 : ∀ t : Nat, t < 256 → IntKind.i64.wrap (t : Int) = (t : Int) := by decide +kernel
theorem e_app (s : ByteArray) : (⟨#[]⟩ : ByteArray) ++ s = s := by
  apply bl_inj
  unfold bl; simp
set_option maxRecDepth 100000 in
set_option maxHeartbeats 2000000 in
theorem ref01_Word (n : Nat) (h : n ≤ 65535) (b o c : Nat) (w : World) (hE : Env w) (hc : CellsA w (some ⟨b, o, none⟩) [.int .i64 (n : Int)]) : Calls Tryd.prog 117 #[.slice (some ⟨b, o, none⟩) 1 c] w fun e w' => e = .returned (.tuple #[.string (bB (wordB n)), .int .i64 0]) ∧ Below w.heap.size w w' := by
  have HK := Lib.hid (Keep.begin hE [(some ⟨b, o, none⟩, [.int .i64 (n : Int)])] (by intro r hr; simp at hr; subst hr; exact hc)); have h0 : decide ((n : Int) < 0) = false := by rw [decide_eq_false_iff_not]; omega
  have h1 : decide ((65535 : Int) < (n : Int)) = false := by rw [decide_eq_false_iff_not]; omega
  clear hE hc; obtain ⟨x, hx⟩ : ∃ x, n / 256 = x := ⟨_, rfl⟩
  obtain ⟨y, hy⟩ : ∃ y, n % 256 = y := ⟨_, rfl⟩
  have hS : strN [x, y] = bB (wordB n) := by subst hx hy; rfl
  have e1 : IntKind.u8.wrap (IntKind.i64.wrap ((n : Int) / 256)) = (x : Int) := by
    rw [show (n : Int) / 256 = (x : Int) by omega, wrapI64 x (by omega), wrap8 x (by omega)]
  have e2 : IntKind.u8.wrap (Int.tmod (n : Int) 256) = (y : Int) := by
    rw [Int.tmod_eq_emod_of_nonneg (by omega), show (n : Int) % 256 = (y : Int) by omega, wrap8 y (by omega)]
  clear hx hy; have hzw : ¬ 9223372036854775807 < (bB (wordB n)).size := by show ¬ 9223372036854775807 < 2; omega
  go_enter Tryd.func117, Tryd.ntmps117
  go_wp2_with fail
  go_loopw [4, 5] (fun s i wr => ∃ k : Nat, k ≤ 1 ∧ i = .int .i64 (k : Int) ∧ s = .string (if k = 0 then ⟨#[]⟩ else bB (wordB n)) ∧ Hid (Keep w [] [(some ⟨b, o, none⟩, [.int .i64 (n : Int)])] wr)) (fun _ i _ => 1 - (intOf i).toNat)
  case atStart => exact ⟨0, by omega, rfl, rfl, HK⟩
  case round =>
    clear HK; obtain ⟨k, hk, rfl, rfl, HK⟩ := hrel; have hk2 : k = 0 ∨ k = 1 := by omega
    have hX := row_cell (HK.out.rowAt 0 rfl); rcases hk2 with rfl | rfl
    · go_upto_region 7 with fail
      clear hX; refine wp_region_noPanic ?_; refine wp_region_held_drew (S := fun w' => Keep w [] [(some ⟨b, o, none⟩, [.int .i64 (n : Int)])] w') (by kernel_rfl) ?_ (fun hHeld => ?_)
      · (first | exact HK.out | exact HK.out.drew | exact HK.out.drewN _)
      replace HK := Lib.hid hHeld; generalize World.drew _ = wd at HK hHeld ⊢; refine wpAnyH_take (i := 0) (oi := ⟨some 24, _, _, _, _, _⟩) (v := ?_) rfl (by kernel_rfl) (by kernel_rfl) (by kernel_rfl) (fun _ _ _ h => h) (Or.inl ⟨by rfl, ?_⟩) (by assumption) ?_; rotate_left
      · (intro w hSw; (try dsimp only at hSw); have hXw := row_cell (Keep.rowAt hSw 0 rfl); go_simp; try with_reducible rfl)
      try simp only [Act.put, List.setIfInBounds_toArray, List.set_cons_zero, List.set_cons_succ]
      refine wpAnyH_take (i := 1) (oi := ⟨some 25, _, _, _, _, _⟩) (v := ?_) rfl (by kernel_rfl) (by kernel_rfl) (by kernel_rfl) (fun _ _ _ h => h) (Or.inl ⟨by rfl, ?_⟩) (by assumption) ?_; rotate_left
      · (intro w hSw; (try dsimp only at hSw); have hXw := row_cell (Keep.rowAt hSw 0 rfl); go_simp; try with_reducible rfl)
      try simp only [Act.put, List.setIfInBounds_toArray, List.set_cons_zero, List.set_cons_succ]
      refine wpAnyH_take (i := 2) (oi := ⟨some 26, _, _, _, _, _⟩) (v := ?_) rfl (by kernel_rfl) (by kernel_rfl) (by kernel_rfl) (fun _ _ _ h => h) (Or.inl ⟨by rfl, ?_⟩) (by assumption) ?_; rotate_left
      · (intro w hSw; (try dsimp only at hSw); have hXw := row_cell (Keep.rowAt hSw 0 rfl); go_simp; try with_reducible rfl)
      try simp only [Act.put, List.setIfInBounds_toArray, List.set_cons_zero, List.set_cons_succ]
      refine wpAnyH_take (i := 3) (oi := ⟨some 27, _, _, _, _, _⟩) (v := ?_) rfl (by kernel_rfl) (by kernel_rfl) (by kernel_rfl) (fun _ _ _ h => h) (Or.inl ⟨by rfl, ?_⟩) (by assumption) ?_; rotate_left
      · (intro w hSw; (try dsimp only at hSw); have hXw := row_cell (Keep.rowAt hSw 0 rfl); go_simp; try with_reducible rfl)
      try simp only [Act.put, List.setIfInBounds_toArray, List.set_cons_zero, List.set_cons_succ]
      refine wpAnyH_take (i := 4) (oi := ⟨some 28, _, _, _, _, _⟩) (v := ?_) rfl (by kernel_rfl) (by kernel_rfl) (by kernel_rfl) (fun _ _ _ h => h) (Or.inl ⟨by rfl, ?_⟩) (by assumption) ?_; rotate_left
      · (intro w hSw; (try dsimp only at hSw); have hXw := row_cell (Keep.rowAt hSw 0 rfl); go_simp; try with_reducible rfl)
      try simp only [Act.put, List.setIfInBounds_toArray, List.set_cons_zero, List.set_cons_succ]
      refine wpAnyH_take (i := 5) (oi := ⟨some 29, _, _, _, _, _⟩) (v := ?_) rfl (by kernel_rfl) (by kernel_rfl) (by kernel_rfl) (fun _ _ _ h => h) (Or.inl ⟨by rfl, ?_⟩) (by assumption) ?_; rotate_left
      · (intro w hSw; (try dsimp only at hSw); have hXw := row_cell (Keep.rowAt hSw 0 rfl); go_simp; try with_reducible rfl)
      try simp only [Act.put, List.setIfInBounds_toArray, List.set_cons_zero, List.set_cons_succ]
      refine wpAnyH_take (i := 6) (oi := ⟨some 30, _, _, _, _, _⟩) (v := ?_) rfl (by kernel_rfl) (by kernel_rfl) (by kernel_rfl) (fun _ _ _ h => h) (Or.inl ⟨by rfl, ?_⟩) (by assumption) ?_; rotate_left
      · (intro w hSw; (try dsimp only at hSw); have hXw := row_cell (Keep.rowAt hSw 0 rfl); go_simp; try with_reducible rfl)
      try simp only [Act.put, List.setIfInBounds_toArray, List.set_cons_zero, List.set_cons_succ]
      refine wpAnyH_take (i := 7) (oi := ⟨some 31, _, _, _, _, _⟩) (v := ?_) rfl (by kernel_rfl) (by kernel_rfl) (by kernel_rfl) (fun _ _ _ h => h) (Or.inl ⟨by rfl, ?_⟩) (by assumption) ?_; rotate_left
      · (intro w hSw; (try dsimp only at hSw); have hXw := row_cell (Keep.rowAt hSw 0 rfl); go_simp; try with_reducible rfl)
      try simp only [Act.put, List.setIfInBounds_toArray, List.set_cons_zero, List.set_cons_succ]
      refine wpAnyH_take (i := 8) (oi := ⟨some 32, _, _, _, _, _⟩) (v := ?_) rfl (by kernel_rfl) (by kernel_rfl) (by kernel_rfl) (fun _ _ _ h => h) (Or.inl ⟨by rfl, ?_⟩) (by assumption) ?_; rotate_left
      · (intro w hSw; (try dsimp only at hSw); have hXw := row_cell (Keep.rowAt hSw 0 rfl); go_simp; try with_reducible rfl)
      try simp only [Act.put, List.setIfInBounds_toArray, List.set_cons_zero, List.set_cons_succ]
      refine wpAnyH_take (i := 9) (oi := ⟨some 33, _, _, _, _, _⟩) (v := ?_) rfl (by kernel_rfl) (by kernel_rfl) (by kernel_rfl) (fun _ _ _ h => h) (Or.inl ⟨by rfl, ?_⟩) (by assumption) ?_; rotate_left
      · (intro w hSw; (try dsimp only at hSw); have hXw := row_cell (Keep.rowAt hSw 0 rfl); go_simp; try with_reducible rfl)
      try simp only [Act.put, List.setIfInBounds_toArray, List.set_cons_zero, List.set_cons_succ]
      refine wpAnyH_take (i := 10) (oi := ⟨some 34, _, _, _, _, _⟩) (v := ?_) rfl (by kernel_rfl) (by kernel_rfl) (by kernel_rfl) (fun _ _ _ h => h) (Or.inl ⟨by rfl, ?_⟩) (by assumption) ?_; rotate_left
      · (intro w hSw; (try dsimp only at hSw); have hXw := row_cell (Keep.rowAt hSw 0 rfl); go_simp; try with_reducible rfl)
      try simp only [Act.put, List.setIfInBounds_toArray, List.set_cons_zero, List.set_cons_succ]
      refine wpAnyH_take (i := 11) (oi := ⟨some 35, _, _, _, _, _⟩) (v := ?_) rfl (by kernel_rfl) (by kernel_rfl) (by kernel_rfl) (fun _ _ _ h => h) (Or.inl ⟨by rfl, ?_⟩) (by assumption) ?_; rotate_left
      · (intro w hSw; (try dsimp only at hSw); have hXw := row_cell (Keep.rowAt hSw 0 rfl); go_simp; try with_reducible rfl)
      try simp only [Act.put, List.setIfInBounds_toArray, List.set_cons_zero, List.set_cons_succ]
      refine wpAnyH_take (i := 12) (oi := ⟨some 36, _, _, _, _, _⟩) (v := ?_) rfl (by kernel_rfl) (by kernel_rfl) (by kernel_rfl) (fun _ _ _ h => h) (Or.inl ⟨by rfl, ?_⟩) (by assumption) ?_; rotate_left
      · (intro w hSw; (try dsimp only at hSw); have hXw := row_cell (Keep.rowAt hSw 0 rfl); go_simp; try with_reducible rfl)
      try simp only [Act.put, List.setIfInBounds_toArray, List.set_cons_zero, List.set_cons_succ]
      refine wpAnyH_ready (rs := [13]) (by kernel_rfl) (by simp) ?_; refine AllReadyH.cons (o := ⟨some 37, _, _, _, _, _⟩) rfl (fun K hK => ?_) AllReadyH.nil; go_simp; refine hK.out _ _ ?_ (fun hHeld => ?_)
      · (first | exact HK.out | exact HK.out.drew | exact HK.out.below ((Below.refl _ _).alloc (Nat.le_refl _) _))
      clear hK K; replace HK := Lib.hid hHeld; generalize hgw : World.alloc _ _ = w8 at hHeld HK ⊢; have HN := newsL1 hgw; have kc := conv_nats (P := Tryd.prog) w8 28 5 Tryd.underlying28 Tryd.underlying5 (some ⟨wd.heap.size, 0, none⟩) 2 [x, y] 2 rfl HN 9 Tryd.underlying9; rw [hS] at kc; clear HN hgw; try simp only [Act.put, List.setIfInBounds_toArray, List.set_cons_zero, List.set_cons_succ]
      refine wpAnyH_ready (rs := [14]) (by kernel_rfl) (by simp) ?_; refine AllReadyH.cons (o := ⟨some 38, _, _, _, _, _⟩) rfl (fun K hK => ?_) AllReadyH.nil; go_simp; refine hK.out _ _ ?_ (fun hHeld => ?_)
      · (first | exact HK.out | exact HK.out.drew | exact HK.out.below ((Below.refl _ _).alloc (Nat.le_refl _) _))
      clear hK K; replace HK := Lib.hid hHeld; try simp only [Act.put, List.setIfInBounds_toArray, List.set_cons_zero, List.set_cons_succ]
      refine wpAnyH_take (i := 15) (oi := ⟨some 39, _, _, _, _, _⟩) (v := ?_) rfl (by kernel_rfl) (by kernel_rfl) (by kernel_rfl) (fun _ _ _ h => h) (Or.inl ⟨by rfl, ?_⟩) (by assumption) ?_; rotate_left
      · (intro w hSw; (try dsimp only at hSw); have hXw := row_cell (Keep.rowAt hSw 0 rfl); go_simp; try with_reducible rfl)
      try simp only [Act.put, List.setIfInBounds_toArray, List.set_cons_zero, List.set_cons_succ]
      refine wpAnyH_take (i := 16) (oi := ⟨some 4, _, _, _, _, _⟩) (v := ?_) rfl (by kernel_rfl) (by kernel_rfl) (by kernel_rfl) (fun _ _ _ h => h) (Or.inl ⟨by rfl, ?_⟩) (by assumption) ?_; rotate_left
      · (intro w hSw; (try dsimp only at hSw); have hXw := row_cell (Keep.rowAt hSw 0 rfl); go_simp; try with_reducible rfl)
      try simp only [Act.put, List.setIfInBounds_toArray, List.set_cons_zero, List.set_cons_succ]
      refine wpAnyH_done (by kernel_rfl) ?_ _; refine NoPanic.normal ?_; go_wp2_with fail
      go_roundw
      case rel => exact ⟨1, by omega, by first | rfl | go_num, by first | rfl | (rw [if_neg (by decide)]; congr 1; exact e_app _), HK⟩
      case measure => simp [intOf]
    · go_wp2_with fail
      go_ret2
      exact ⟨rfl, HK.out.low⟩
set_option maxRecDepth 100000 in
theorem ref02_PutData (s : ByteArray) (h : s.size ≤ 65535) (w : World) (hE : Env w) : Calls Tryd.prog 116 #[.string s] w fun e w' => e = .returned (.tuple #[.string (bB (dataB s)), .int .i64 0]) ∧ Below w.heap.size w w' := by
  have hbw : Below w.heap.size w (w.alloc (.cells #[.int .i64 (s.size : Int)] 3)) := (Below.refl _ _).alloc (Nat.le_refl _) _; have HW := Lib.hid (ref01_Word s.size h w.heap.size 0 1 (w.alloc (.cells #[.int .i64 (s.size : Int)] 3)) (hE.below hbw) cells_new); have HS := Lib.hid (show bB (wordB s.size) ++ s = bB (dataB s) by
    unfold dataB; apply bl_inj
    unfold bl bB; simp)
  have hz2 : ¬ 9223372036854775807 < (bB (wordB s.size)).size + s.size := by show ¬ 9223372036854775807 < 2 + s.size; omega
  go_enter Tryd.func116, Tryd.ntmps116
  go_wp2_with (go_at_call 117; refine Calls.mono HW.out ?_; rintro e w1 ⟨rfl, hb1⟩; replace hb1 := Below.then hbw hb1)
  go_ret2
  exact ⟨by rw [← HS.out]; rfl, hb1⟩
theorem str1 (v : Nat) : strN [v] = bB [byteN v] := rfl
end Go.Proofs.YtnnpokndajpkiaaDoor
