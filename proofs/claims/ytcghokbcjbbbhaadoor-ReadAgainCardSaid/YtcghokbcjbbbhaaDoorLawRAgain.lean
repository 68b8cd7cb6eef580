/- The walk of ReadAgain. Conditions: the decoder's tables lie as Go lays them. -/
import Derived.Test.YtcghokbcjbbbhaaDoorLaw05
import Derived.Test.YtcghokbcjbbbhaaDoorLaw04
import Derived.Test.YtcghokbcjbbbhaaDoorAtBl
import Derived.Test.YtcghokbcjbbbhaaDoorPacketSame
namespace Go.Proofs.YtcghokbcjbbbhaaDoor
open Go.RowKit
set_option maxRecDepth 100000 in
set_option maxHeartbeats 4000000 in
theorem ragain_great (s : ByteArray) (w : World) (hE : Env w) (hgb : decide (20000 < s.size) = true) : Calls Tryd.prog 7 #[.string s] w fun e w' => e = .returned (.bool true) ∧ Below w.heap.size w w' := by
  have HB := Lib.hid (show ∀ w9, Calls Tryd.prog 27 #[.string s] w9 fun e w' => e = .returned (.bool true) ∧ w9 = w' from fun w9 => by
    have h2 := law05_Great s w9
    rw [hgb] at h2
    exact h2)
  have hsz : s.size ≤ 20000 ∨ true = true := by
    cases hz : decide (20000 < s.size)
    · left; simpa using hz
    · right; rw [← hgb, hz]
  clear hgb
  obtain ⟨RR, hRR⟩ : ∃ RR : Ending → World → Prop, RR = fun e w' => e = .returned (.bool true) ∧ Below w.heap.size w w' := ⟨_, rfl⟩
  have FIN := Lib.hid (show ∀ w', Below w.heap.size w w' → RR (.returned (.bool true)) w' from fun w' hb => by rw [hRR]; exact ⟨rfl, hb⟩)
  rw [← hRR]
  obtain ⟨w9, hw9⟩ : ∃ w9, w9 = w := ⟨_, rfl⟩
  have HK : Keep w [] [] w9 := by rw [hw9]; exact Keep.begin hE _ (by intro r hr; cases hr)
  suffices hgo : Calls Tryd.prog 7 #[.string s] w9 RR by rw [hw9] at hgo; exact hgo
  clear hw9 hRR hE
  go_enter Tryd.func7, Tryd.ntmps7
  refine wp_forget (n := 133) (L := [(0, .string s)]) (FrL.add (FrL.nil ?_ ?_) _ _ ?_) ?_
  iterate 3 rfl
  intro a9 F
  refine wp_seq ?_
  refine wp_region_lit ?_
  refine fr_do F (wanted_free rfl) 2 rfl (by decide) (.bool false) (by intro a' F'; go_simp) ?_
  clear F a9
  intro a9 F
  refine wpList_nil ?_
  show Code.wp _ _ _ _ _
  replace F : FrL 133 [(0, .string s)] a9 := ((FrL.nil F.size F.defers).add 0 _ (F.at' 0 _ rfl))
  refine wp_seq ?_
  refine wp_seq ?_
  refine wp_region_lit ?_
  refine fr_do F (wanted_free rfl) 11 rfl (by decide) (.string s) (by intro a' F'; have h0 := F'.at' 0 _ rfl; go_simp) ?_
  clear F a9
  intro a9 F
  refine fr_call F (wanted_free rfl) 12 rfl (by decide) 27 #[.string s] (by intro a' F'; have h11 := F'.at' 11 _ rfl; go_simp) (HB.out _) ?_
  rintro e9 w8 ⟨rfl, rfl⟩
  refine ⟨_, rfl, ?_⟩
  clear F a9
  intro a9 F
  refine wpList_nil ?_
  show Code.wp _ _ _ _ _
  refine wp_cond_true (F.ev 12 rfl) ?_
  refine wp_seq ?_
  refine wp_region_lit ?_
  refine fr_call F (wanted_free rfl) 13 rfl (by decide) 28 #[] (by intro a' F'; go_simp) (law05_awake _ HK.env) ?_
  rintro e9 w8 ⟨rfl, hb8⟩
  replace HK := HK.below hb8
  clear hb8
  clear w9
  rename World => w9
  refine ⟨_, rfl, ?_⟩
  clear F a9
  intro a9 F
  refine fr_do F (wanted_free rfl) 2 rfl (by decide) (.bool true) (by intro a' F'; have h13 := F'.at' 13 _ rfl; go_simp) ?_
  clear F a9
  intro a9 F
  refine wpList_nil ?_
  show Code.wp _ _ _ _ _
  refine wp_ret ?_
  exact fr_ret1 F rfl _ rfl (FIN.out _ HK.low)
set_option maxRecDepth 100000 in
set_option maxHeartbeats 4000000 in
theorem ragain_err2 (s : ByteArray) (w : World) (hE : Env w) (hgb : decide (20000 < s.size) = false) (hd : decR (bl s) = (Pk.zero, 0, 2)) : Calls Tryd.prog 7 #[.string s] w fun e w' => e = .returned (.bool true) ∧ Below w.heap.size w w' := by
  have HB := Lib.hid (show ∀ w9, Calls Tryd.prog 27 #[.string s] w9 fun e w' => e = .returned (.bool false) ∧ w9 = w' from fun w9 => by
    have h2 := law05_Great s w9
    rw [hgb] at h2
    exact h2)
  have hsz : s.size ≤ 20000 ∨ true = false := by
    cases hz : decide (20000 < s.size)
    · left; simpa using hz
    · right; rw [← hgb, hz]
  clear hgb
  have hs2 : s.size ≤ 20000 := by rcases hsz with h | h; exact h; cases h
  clear hsz
  have HD := Lib.hid (show ∀ w9, Env w9 → Calls Tryd.prog 29 #[.string s] w9 (RetDec w9 (Pk.zero, 0, 2)) from fun w9 h1 => by
    have h2 := read_Decode s (by omega) w9 h1
    rw [hd] at h2
    exact h2)
  have HF := Lib.hid (fun w9 (h1 : Env w9) => law05_fails s (by omega) 2 hd w9 h1)
  obtain ⟨RR, hRR⟩ : ∃ RR : Ending → World → Prop, RR = fun e w' => e = .returned (.bool true) ∧ Below w.heap.size w w' := ⟨_, rfl⟩
  have FIN := Lib.hid (show ∀ w', Below w.heap.size w w' → RR (.returned (.bool true)) w' from fun w' hb => by rw [hRR]; exact ⟨rfl, hb⟩)
  rw [← hRR]
  obtain ⟨w9, hw9⟩ : ∃ w9, w9 = w := ⟨_, rfl⟩
  have HK : Keep w [] [] w9 := by rw [hw9]; exact Keep.begin hE _ (by intro r hr; cases hr)
  suffices hgo : Calls Tryd.prog 7 #[.string s] w9 RR by rw [hw9] at hgo; exact hgo
  clear hw9 hRR hE hd
  go_enter Tryd.func7, Tryd.ntmps7
  refine wp_forget (n := 133) (L := [(0, .string s)]) (FrL.add (FrL.nil ?_ ?_) _ _ ?_) ?_
  iterate 3 rfl
  intro a9 F
  refine wp_seq ?_
  refine wp_region_lit ?_
  refine fr_do F (wanted_free rfl) 2 rfl (by decide) (.bool false) (by intro a' F'; go_simp) ?_
  clear F a9
  intro a9 F
  refine wpList_nil ?_
  show Code.wp _ _ _ _ _
  replace F : FrL 133 [(0, .string s)] a9 := ((FrL.nil F.size F.defers).add 0 _ (F.at' 0 _ rfl))
  refine wp_seq ?_
  refine wp_seq ?_
  refine wp_region_lit ?_
  refine fr_do F (wanted_free rfl) 11 rfl (by decide) (.string s) (by intro a' F'; have h0 := F'.at' 0 _ rfl; go_simp) ?_
  clear F a9
  intro a9 F
  refine fr_call F (wanted_free rfl) 12 rfl (by decide) 27 #[.string s] (by intro a' F'; have h11 := F'.at' 11 _ rfl; go_simp) (HB.out _) ?_
  rintro e9 w8 ⟨rfl, rfl⟩
  refine ⟨_, rfl, ?_⟩
  clear F a9
  intro a9 F
  refine wpList_nil ?_
  show Code.wp _ _ _ _ _
  refine wp_cond_false (F.ev 12 rfl) ?_
  refine wp_skip ?_
  show Code.wp _ _ _ _ _
  replace F : FrL 133 [(0, .string s)] a9 := ((FrL.nil F.size F.defers).add 0 _ (F.at' 0 _ rfl))
  refine wp_seq ?_
  refine wp_region_lit ?_
  refine fr_do F (wanted_free rfl) 15 rfl (by decide) (.string s) (by intro a' F'; have h0 := F'.at' 0 _ rfl; go_simp) ?_
  clear F a9
  intro a9 F
  refine fr_call F (wanted_free rfl) 16 rfl (by decide) 29 #[.string s] (by intro a' F'; have h15 := F'.at' 15 _ rfl; go_simp) (HD.out _ HK.env) ?_
  rintro e9 w8 ⟨al, cap, rfl, hown, hb8⟩
  replace HK := HK.ownRow hb8 hown
  clear hb8 hown
  clear w9
  rename World => w9
  refine ⟨_, rfl, ?_⟩
  clear F a9
  intro a9 F
  refine fr_do F (wanted_free rfl) 14 rfl (by decide) (.tuple #[.agg (pkV Pk.zero al cap), .int .i64 ((0 : Nat) : Int), .int .i64 ((2 : Nat) : Int)]) (by intro a' F'; have h16 := F'.at' 16 _ rfl; go_simp) ?_
  clear F a9
  intro a9 F
  refine fr_do F (wanted_free rfl) 17 rfl (by decide) (.agg (pkV Pk.zero al cap)) (by intro a' F'; have h14 := F'.at' 14 _ rfl; go_simp) ?_
  clear F a9
  intro a9 F
  refine fr_do F (wanted_free rfl) 18 rfl (by decide) (.int .i64 ((0 : Nat) : Int)) (by intro a' F'; have h14 := F'.at' 14 _ rfl; go_simp) ?_
  clear F a9
  intro a9 F
  refine fr_do F (wanted_free rfl) 19 rfl (by decide) (.int .i64 ((2 : Nat) : Int)) (by intro a' F'; have h14 := F'.at' 14 _ rfl; go_simp) ?_
  clear F a9
  intro a9 F
  obtain ⟨i0, hi, hz0, hz1, hz2⟩ := info_parts infoPkR
  refine fr_new F HK 3 (by decide) rfl 27 rfl rfl rfl (.tmp 17) rfl rfl i0 _ hi hz0 (cells := (pkV Pk.zero al cap)) hz1 rfl (pk_one _ _ _) (fun a' Y F' => F'.ev 17 rfl) ?_
  rintro Q a10 w10 hX F' HK' hb
  clear HK F hb hX hi hz0 hz1 hz2 i0
  clear a9 w9
  rename World => w9
  rename Act => a9
  have HK := HK'
  have F := F'
  clear HK' F'
  replace HK : Keep w [(Q, (pkV Pk.zero al cap), 27)] [(al, subCells (Pk.zero).subs)] w9 := HK
  refine fr_do F (wanted_free rfl) 4 rfl (by decide) (.int .i64 ((0 : Nat) : Int)) (by intro a' F'; have h18 := F'.at' 18 _ rfl; go_simp) ?_
  clear F a9
  intro a9 F
  refine fr_do F (wanted_free rfl) 5 rfl (by decide) (.int .i64 ((2 : Nat) : Int)) (by intro a' F'; have h19 := F'.at' 19 _ rfl; go_simp) ?_
  clear F a9
  intro a9 F
  refine wpList_nil ?_
  show Code.wp _ _ _ _ _
  replace F : FrL 133 [(5, .int .i64 ((2 : Nat) : Int)), (0, .string s)] a9 := (((FrL.nil F.size F.defers).add 0 _ (F.at' 0 _ rfl)).add 5 _ (F.at' 5 _ rfl))
  refine wp_seq ?_
  refine wp_seq ?_
  refine wp_region_lit ?_
  refine fr_do F (wanted_free rfl) 20 rfl (by decide) (.int .i64 ((2 : Nat) : Int)) (by intro a' F'; have h5 := F'.at' 5 _ rfl; go_simp) ?_
  clear F a9
  intro a9 F
  refine fr_do F (wanted_free rfl) 21 rfl (by decide) (.bool true) (by intro a' F'; have h20 := F'.at' 20 _ rfl; go_simp) ?_
  clear F a9
  intro a9 F
  refine wpList_nil ?_
  show Code.wp _ _ _ _ _
  refine wp_cond_true (F.ev 21 rfl) ?_
  refine wp_seq ?_
  refine wp_region_lit ?_
  refine fr_do F (wanted_free rfl) 22 rfl (by decide) (.int .i64 ((2 : Nat) : Int)) (by intro a' F'; have h5 := F'.at' 5 _ rfl; go_simp) ?_
  clear F a9
  intro a9 F
  refine fr_do F (wanted_free rfl) 23 rfl (by decide) (.bool true) (by intro a' F'; have h22 := F'.at' 22 _ rfl; go_simp) ?_
  clear F a9
  intro a9 F
  refine fr_do F (wanted_free rfl) 24 rfl (by decide) (.bool true) (by intro a' F'; have h23 := F'.at' 23 _ rfl; go_simp) ?_
  clear F a9
  intro a9 F
  refine fr_left F (by rw [wanted_at F rfl (t := 24) (b := true) (by kernel_rfl) rfl]; rfl) 25 rfl (by decide) ?_
  clear F a9
  intro a9 F
  refine fr_left F (by rw [wanted_at F rfl (t := 24) (b := true) (by kernel_rfl) rfl]; rfl) 26 rfl (by decide) ?_
  clear F a9
  intro a9 F
  refine fr_do F (wanted_free rfl) 27 rfl (by decide) (.bool true) (by intro a' F'; have h24 := F'.at' 24 _ rfl; have h26 := F'.at' 26 _ rfl; go_simp) ?_
  clear F a9
  intro a9 F
  refine fr_do F (wanted_free rfl) 28 rfl (by decide) (.bool true) (by intro a' F'; have h27 := F'.at' 27 _ rfl; go_simp) ?_
  clear F a9
  intro a9 F
  refine fr_do F (by rw [wanted_at F rfl (t := 28) (b := true) (by kernel_rfl) rfl]; rfl) 29 rfl (by decide) (.string s) (by intro a' F'; have h0 := F'.at' 0 _ rfl; go_simp) ?_
  clear F a9
  intro a9 F
  refine fr_do F (by rw [wanted_at F rfl (t := 28) (b := true) (by kernel_rfl) rfl]; rfl) 30 rfl (by decide) (.int .i64 ((2 : Nat) : Int)) (by intro a' F'; have h5 := F'.at' 5 _ rfl; go_simp) ?_
  clear F a9
  intro a9 F
  refine fr_call F (by rw [wanted_at F rfl (t := 28) (b := true) (by kernel_rfl) rfl]; rfl) 31 rfl (by decide) 32 #[.string s, .int .i64 ((2 : Nat) : Int)] (by intro a' F'; have h29 := F'.at' 29 _ rfl; have h30 := F'.at' 30 _ rfl; go_simp) (HF.out _ HK.env) ?_
  rintro e9 w8 ⟨rfl, hb8⟩
  replace HK := HK.below hb8
  clear hb8
  clear w9
  rename World => w9
  refine ⟨_, rfl, ?_⟩
  clear F a9
  intro a9 F
  refine fr_do F (wanted_free rfl) 32 rfl (by decide) (.bool true) (by intro a' F'; have h28 := F'.at' 28 _ rfl; have h31 := F'.at' 31 _ rfl; go_simp) ?_
  clear F a9
  intro a9 F
  refine fr_do F (wanted_free rfl) 33 rfl (by decide) (.bool true) (by intro a' F'; have h32 := F'.at' 32 _ rfl; go_simp) ?_
  clear F a9
  intro a9 F
  refine fr_call F (by rw [wanted_at F rfl (t := 33) (b := true) (by kernel_rfl) rfl]; rfl) 34 rfl (by decide) 28 #[] (by intro a' F'; go_simp) (law05_awake _ HK.env) ?_
  rintro e9 w8 ⟨rfl, hb8⟩
  replace HK := HK.below hb8
  clear hb8
  clear w9
  rename World => w9
  refine ⟨_, rfl, ?_⟩
  clear F a9
  intro a9 F
  refine fr_do F (wanted_free rfl) 35 rfl (by decide) (.bool true) (by intro a' F'; have h33 := F'.at' 33 _ rfl; have h34 := F'.at' 34 _ rfl; go_simp) ?_
  clear F a9
  intro a9 F
  refine fr_do F (wanted_free rfl) 2 rfl (by decide) (.bool true) (by intro a' F'; have h35 := F'.at' 35 _ rfl; go_simp) ?_
  clear F a9
  intro a9 F
  refine wpList_nil ?_
  show Code.wp _ _ _ _ _
  refine wp_ret ?_
  exact fr_ret1 F rfl _ rfl (FIN.out _ HK.low)
set_option maxRecDepth 100000 in
set_option maxHeartbeats 4000000 in
theorem ragain_err4 (s : ByteArray) (w : World) (hE : Env w) (hgb : decide (20000 < s.size) = false) (hd : decR (bl s) = (Pk.zero, 0, 4)) : Calls Tryd.prog 7 #[.string s] w fun e w' => e = .returned (.bool true) ∧ Below w.heap.size w w' := by
  have HB := Lib.hid (show ∀ w9, Calls Tryd.prog 27 #[.string s] w9 fun e w' => e = .returned (.bool false) ∧ w9 = w' from fun w9 => by
    have h2 := law05_Great s w9
    rw [hgb] at h2
    exact h2)
  have hsz : s.size ≤ 20000 ∨ true = false := by
    cases hz : decide (20000 < s.size)
    · left; simpa using hz
    · right; rw [← hgb, hz]
  clear hgb
  have hs2 : s.size ≤ 20000 := by rcases hsz with h | h; exact h; cases h
  clear hsz
  have HD := Lib.hid (show ∀ w9, Env w9 → Calls Tryd.prog 29 #[.string s] w9 (RetDec w9 (Pk.zero, 0, 4)) from fun w9 h1 => by
    have h2 := read_Decode s (by omega) w9 h1
    rw [hd] at h2
    exact h2)
  have HF := Lib.hid (fun w9 (h1 : Env w9) => law05_fails s (by omega) 4 hd w9 h1)
  obtain ⟨RR, hRR⟩ : ∃ RR : Ending → World → Prop, RR = fun e w' => e = .returned (.bool true) ∧ Below w.heap.size w w' := ⟨_, rfl⟩
  have FIN := Lib.hid (show ∀ w', Below w.heap.size w w' → RR (.returned (.bool true)) w' from fun w' hb => by rw [hRR]; exact ⟨rfl, hb⟩)
  rw [← hRR]
  obtain ⟨w9, hw9⟩ : ∃ w9, w9 = w := ⟨_, rfl⟩
  have HK : Keep w [] [] w9 := by rw [hw9]; exact Keep.begin hE _ (by intro r hr; cases hr)
  suffices hgo : Calls Tryd.prog 7 #[.string s] w9 RR by rw [hw9] at hgo; exact hgo
  clear hw9 hRR hE hd
  go_enter Tryd.func7, Tryd.ntmps7
  refine wp_forget (n := 133) (L := [(0, .string s)]) (FrL.add (FrL.nil ?_ ?_) _ _ ?_) ?_
  iterate 3 rfl
  intro a9 F
  refine wp_seq ?_
  refine wp_region_lit ?_
  refine fr_do F (wanted_free rfl) 2 rfl (by decide) (.bool false) (by intro a' F'; go_simp) ?_
  clear F a9
  intro a9 F
  refine wpList_nil ?_
  show Code.wp _ _ _ _ _
  replace F : FrL 133 [(0, .string s)] a9 := ((FrL.nil F.size F.defers).add 0 _ (F.at' 0 _ rfl))
  refine wp_seq ?_
  refine wp_seq ?_
  refine wp_region_lit ?_
  refine fr_do F (wanted_free rfl) 11 rfl (by decide) (.string s) (by intro a' F'; have h0 := F'.at' 0 _ rfl; go_simp) ?_
  clear F a9
  intro a9 F
  refine fr_call F (wanted_free rfl) 12 rfl (by decide) 27 #[.string s] (by intro a' F'; have h11 := F'.at' 11 _ rfl; go_simp) (HB.out _) ?_
  rintro e9 w8 ⟨rfl, rfl⟩
  refine ⟨_, rfl, ?_⟩
  clear F a9
  intro a9 F
  refine wpList_nil ?_
  show Code.wp _ _ _ _ _
  refine wp_cond_false (F.ev 12 rfl) ?_
  refine wp_skip ?_
  show Code.wp _ _ _ _ _
  replace F : FrL 133 [(0, .string s)] a9 := ((FrL.nil F.size F.defers).add 0 _ (F.at' 0 _ rfl))
  refine wp_seq ?_
  refine wp_region_lit ?_
  refine fr_do F (wanted_free rfl) 15 rfl (by decide) (.string s) (by intro a' F'; have h0 := F'.at' 0 _ rfl; go_simp) ?_
  clear F a9
  intro a9 F
  refine fr_call F (wanted_free rfl) 16 rfl (by decide) 29 #[.string s] (by intro a' F'; have h15 := F'.at' 15 _ rfl; go_simp) (HD.out _ HK.env) ?_
  rintro e9 w8 ⟨al, cap, rfl, hown, hb8⟩
  replace HK := HK.ownRow hb8 hown
  clear hb8 hown
  clear w9
  rename World => w9
  refine ⟨_, rfl, ?_⟩
  clear F a9
  intro a9 F
  refine fr_do F (wanted_free rfl) 14 rfl (by decide) (.tuple #[.agg (pkV Pk.zero al cap), .int .i64 ((0 : Nat) : Int), .int .i64 ((4 : Nat) : Int)]) (by intro a' F'; have h16 := F'.at' 16 _ rfl; go_simp) ?_
  clear F a9
  intro a9 F
  refine fr_do F (wanted_free rfl) 17 rfl (by decide) (.agg (pkV Pk.zero al cap)) (by intro a' F'; have h14 := F'.at' 14 _ rfl; go_simp) ?_
  clear F a9
  intro a9 F
  refine fr_do F (wanted_free rfl) 18 rfl (by decide) (.int .i64 ((0 : Nat) : Int)) (by intro a' F'; have h14 := F'.at' 14 _ rfl; go_simp) ?_
  clear F a9
  intro a9 F
  refine fr_do F (wanted_free rfl) 19 rfl (by decide) (.int .i64 ((4 : Nat) : Int)) (by intro a' F'; have h14 := F'.at' 14 _ rfl; go_simp) ?_
  clear F a9
  intro a9 F
  obtain ⟨i0, hi, hz0, hz1, hz2⟩ := info_parts infoPkR
  refine fr_new F HK 3 (by decide) rfl 27 rfl rfl rfl (.tmp 17) rfl rfl i0 _ hi hz0 (cells := (pkV Pk.zero al cap)) hz1 rfl (pk_one _ _ _) (fun a' Y F' => F'.ev 17 rfl) ?_
  rintro Q a10 w10 hX F' HK' hb
  clear HK F hb hX hi hz0 hz1 hz2 i0
  clear a9 w9
  rename World => w9
  rename Act => a9
  have HK := HK'
  have F := F'
  clear HK' F'
  replace HK : Keep w [(Q, (pkV Pk.zero al cap), 27)] [(al, subCells (Pk.zero).subs)] w9 := HK
  refine fr_do F (wanted_free rfl) 4 rfl (by decide) (.int .i64 ((0 : Nat) : Int)) (by intro a' F'; have h18 := F'.at' 18 _ rfl; go_simp) ?_
  clear F a9
  intro a9 F
  refine fr_do F (wanted_free rfl) 5 rfl (by decide) (.int .i64 ((4 : Nat) : Int)) (by intro a' F'; have h19 := F'.at' 19 _ rfl; go_simp) ?_
  clear F a9
  intro a9 F
  refine wpList_nil ?_
  show Code.wp _ _ _ _ _
  replace F : FrL 133 [(5, .int .i64 ((4 : Nat) : Int)), (0, .string s)] a9 := (((FrL.nil F.size F.defers).add 0 _ (F.at' 0 _ rfl)).add 5 _ (F.at' 5 _ rfl))
  refine wp_seq ?_
  refine wp_seq ?_
  refine wp_region_lit ?_
  refine fr_do F (wanted_free rfl) 20 rfl (by decide) (.int .i64 ((4 : Nat) : Int)) (by intro a' F'; have h5 := F'.at' 5 _ rfl; go_simp) ?_
  clear F a9
  intro a9 F
  refine fr_do F (wanted_free rfl) 21 rfl (by decide) (.bool true) (by intro a' F'; have h20 := F'.at' 20 _ rfl; go_simp) ?_
  clear F a9
  intro a9 F
  refine wpList_nil ?_
  show Code.wp _ _ _ _ _
  refine wp_cond_true (F.ev 21 rfl) ?_
  refine wp_seq ?_
  refine wp_region_lit ?_
  refine fr_do F (wanted_free rfl) 22 rfl (by decide) (.int .i64 ((4 : Nat) : Int)) (by intro a' F'; have h5 := F'.at' 5 _ rfl; go_simp) ?_
  clear F a9
  intro a9 F
  refine fr_do F (wanted_free rfl) 23 rfl (by decide) (.bool false) (by intro a' F'; have h22 := F'.at' 22 _ rfl; go_simp) ?_
  clear F a9
  intro a9 F
  refine fr_do F (wanted_free rfl) 24 rfl (by decide) (.bool false) (by intro a' F'; have h23 := F'.at' 23 _ rfl; go_simp) ?_
  clear F a9
  intro a9 F
  refine fr_do F (by rw [wanted_at F rfl (t := 24) (b := false) (by kernel_rfl) rfl]; rfl) 25 rfl (by decide) (.int .i64 ((4 : Nat) : Int)) (by intro a' F'; have h5 := F'.at' 5 _ rfl; go_simp) ?_
  clear F a9
  intro a9 F
  refine fr_do F (by rw [wanted_at F rfl (t := 24) (b := false) (by kernel_rfl) rfl]; rfl) 26 rfl (by decide) (.bool true) (by intro a' F'; have h25 := F'.at' 25 _ rfl; go_simp) ?_
  clear F a9
  intro a9 F
  refine fr_do F (wanted_free rfl) 27 rfl (by decide) (.bool true) (by intro a' F'; have h24 := F'.at' 24 _ rfl; have h26 := F'.at' 26 _ rfl; go_simp) ?_
  clear F a9
  intro a9 F
  refine fr_do F (wanted_free rfl) 28 rfl (by decide) (.bool true) (by intro a' F'; have h27 := F'.at' 27 _ rfl; go_simp) ?_
  clear F a9
  intro a9 F
  refine fr_do F (by rw [wanted_at F rfl (t := 28) (b := true) (by kernel_rfl) rfl]; rfl) 29 rfl (by decide) (.string s) (by intro a' F'; have h0 := F'.at' 0 _ rfl; go_simp) ?_
  clear F a9
  intro a9 F
  refine fr_do F (by rw [wanted_at F rfl (t := 28) (b := true) (by kernel_rfl) rfl]; rfl) 30 rfl (by decide) (.int .i64 ((4 : Nat) : Int)) (by intro a' F'; have h5 := F'.at' 5 _ rfl; go_simp) ?_
  clear F a9
  intro a9 F
  refine fr_call F (by rw [wanted_at F rfl (t := 28) (b := true) (by kernel_rfl) rfl]; rfl) 31 rfl (by decide) 32 #[.string s, .int .i64 ((4 : Nat) : Int)] (by intro a' F'; have h29 := F'.at' 29 _ rfl; have h30 := F'.at' 30 _ rfl; go_simp) (HF.out _ HK.env) ?_
  rintro e9 w8 ⟨rfl, hb8⟩
  replace HK := HK.below hb8
  clear hb8
  clear w9
  rename World => w9
  refine ⟨_, rfl, ?_⟩
  clear F a9
  intro a9 F
  refine fr_do F (wanted_free rfl) 32 rfl (by decide) (.bool true) (by intro a' F'; have h28 := F'.at' 28 _ rfl; have h31 := F'.at' 31 _ rfl; go_simp) ?_
  clear F a9
  intro a9 F
  refine fr_do F (wanted_free rfl) 33 rfl (by decide) (.bool true) (by intro a' F'; have h32 := F'.at' 32 _ rfl; go_simp) ?_
  clear F a9
  intro a9 F
  refine fr_call F (by rw [wanted_at F rfl (t := 33) (b := true) (by kernel_rfl) rfl]; rfl) 34 rfl (by decide) 28 #[] (by intro a' F'; go_simp) (law05_awake _ HK.env) ?_
  rintro e9 w8 ⟨rfl, hb8⟩
  replace HK := HK.below hb8
  clear hb8
  clear w9
  rename World => w9
  refine ⟨_, rfl, ?_⟩
  clear F a9
  intro a9 F
  refine fr_do F (wanted_free rfl) 35 rfl (by decide) (.bool true) (by intro a' F'; have h33 := F'.at' 33 _ rfl; have h34 := F'.at' 34 _ rfl; go_simp) ?_
  clear F a9
  intro a9 F
  refine fr_do F (wanted_free rfl) 2 rfl (by decide) (.bool true) (by intro a' F'; have h35 := F'.at' 35 _ rfl; go_simp) ?_
  clear F a9
  intro a9 F
  refine wpList_nil ?_
  show Code.wp _ _ _ _ _
  refine wp_ret ?_
  exact fr_ret1 F rfl _ rfl (FIN.out _ HK.low)
set_option maxRecDepth 100000 in
set_option maxHeartbeats 4000000 in
theorem ragain_level (s : ByteArray) (w : World) (hE : Env w) (hgb : decide (20000 < s.size) = false) (p : Pk) (m u : Nat) (b : UInt8) (t : Bs) (hd : decR (bl s) = (p, 1 + u + m, 0)) (h0 : bl s = b :: t) (_hlr : lenR t = (m, u, 0)) (hum : u + m ≤ t.length) (hu1 : 1 ≤ u) (hp : PkOk p) (hty : p.ty = b.toNat / 16) (h1 : p.ty = 1) (h4 : p.level ≠ 4) (hlv : p = { Pk.zero with ty := 1, level := p.level }) : Calls Tryd.prog 7 #[.string s] w fun e w' => e = .returned (.bool true) ∧ Below w.heap.size w w' := by
  have HB := Lib.hid (show ∀ w9, Calls Tryd.prog 27 #[.string s] w9 fun e w' => e = .returned (.bool false) ∧ w9 = w' from fun w9 => by
    have h2 := law05_Great s w9
    rw [hgb] at h2
    exact h2)
  have hsz : s.size ≤ 20000 ∨ true = false := by
    cases hz : decide (20000 < s.size)
    · left; simpa using hz
    · right; rw [← hgb, hz]
  clear hgb
  have hs2 : s.size ≤ 20000 := by rcases hsz with h | h; exact h; cases h
  clear hsz
  have hsz : s.size = t.length + 1 := by rw [← bl_len, h0]; rfl
  have HD := Lib.hid (show ∀ w9, Env w9 → Calls Tryd.prog 29 #[.string s] w9 (RetDec w9 (p, 1 + u + m, 0)) from fun w9 h1 => by
    have h2 := read_Decode s (by omega) w9 h1
    rw [hd] at h2
    exact h2)
  obtain ⟨hg1, hg2⟩ := at_bl s 0 b (by rw [h0]; rfl)
  have hb2 := b.toNat_lt
  have hv : (s[0]'hg1).toNat = b.toNat := by rw [hg2]
  clear hg2
  have HSM := Lib.hid (show ∀ w9 al cap, Env w9 → CellsA w9 al (subCells p.subs) → Calls Tryd.prog 30 #[.agg (pkV p al cap), .agg (pkV { Pk.zero with ty := 1, level := p.level } none 0)] w9 fun e w' => e = .returned (.bool true) ∧ Below w9.heap.size w9 w' from fun w9 al cap h1 h3 => by
    have h4 := packet_Same p { Pk.zero with ty := 1, level := p.level } al none cap 0 w9 h1 hp (hlv ▸ hp) h3 (CellsA.nil _ _)
    rw [decide_eq_true hlv] at h4
    exact h4)
  obtain ⟨RR, hRR⟩ : ∃ RR : Ending → World → Prop, RR = fun e w' => e = .returned (.bool true) ∧ Below w.heap.size w w' := ⟨_, rfl⟩
  have FIN := Lib.hid (show ∀ w', Below w.heap.size w w' → RR (.returned (.bool true)) w' from fun w' hb => by rw [hRR]; exact ⟨rfl, hb⟩)
  rw [← hRR]
  obtain ⟨w9, hw9⟩ : ∃ w9, w9 = w := ⟨_, rfl⟩
  have HK : Keep w [] [] w9 := by rw [hw9]; exact Keep.begin hE _ (by intro r hr; cases hr)
  suffices hgo : Calls Tryd.prog 7 #[.string s] w9 RR by rw [hw9] at hgo; exact hgo
  clear hw9 hRR hE hd hlv
  generalize b.toNat = x at *
  clear h0 _hlr
  go_enter Tryd.func7, Tryd.ntmps7
  refine wp_forget (n := 133) (L := [(0, .string s)]) (FrL.add (FrL.nil ?_ ?_) _ _ ?_) ?_
  iterate 3 rfl
  intro a9 F
  refine wp_seq ?_
  refine wp_region_lit ?_
  refine fr_do F (wanted_free rfl) 2 rfl (by decide) (.bool false) (by intro a' F'; go_simp) ?_
  clear F a9
  intro a9 F
  refine wpList_nil ?_
  show Code.wp _ _ _ _ _
  replace F : FrL 133 [(0, .string s)] a9 := ((FrL.nil F.size F.defers).add 0 _ (F.at' 0 _ rfl))
  refine wp_seq ?_
  refine wp_seq ?_
  refine wp_region_lit ?_
  refine fr_do F (wanted_free rfl) 11 rfl (by decide) (.string s) (by intro a' F'; have h0 := F'.at' 0 _ rfl; go_simp) ?_
  clear F a9
  intro a9 F
  refine fr_call F (wanted_free rfl) 12 rfl (by decide) 27 #[.string s] (by intro a' F'; have h11 := F'.at' 11 _ rfl; go_simp) (HB.out _) ?_
  rintro e9 w8 ⟨rfl, rfl⟩
  refine ⟨_, rfl, ?_⟩
  clear F a9
  intro a9 F
  refine wpList_nil ?_
  show Code.wp _ _ _ _ _
  refine wp_cond_false (F.ev 12 rfl) ?_
  refine wp_skip ?_
  show Code.wp _ _ _ _ _
  replace F : FrL 133 [(0, .string s)] a9 := ((FrL.nil F.size F.defers).add 0 _ (F.at' 0 _ rfl))
  refine wp_seq ?_
  refine wp_region_lit ?_
  refine fr_do F (wanted_free rfl) 15 rfl (by decide) (.string s) (by intro a' F'; have h0 := F'.at' 0 _ rfl; go_simp) ?_
  clear F a9
  intro a9 F
  refine fr_call F (wanted_free rfl) 16 rfl (by decide) 29 #[.string s] (by intro a' F'; have h15 := F'.at' 15 _ rfl; go_simp) (HD.out _ HK.env) ?_
  rintro e9 w8 ⟨al, cap, rfl, hown, hb8⟩
  replace HK := HK.ownRow hb8 hown
  clear hb8 hown
  clear w9
  rename World => w9
  refine ⟨_, rfl, ?_⟩
  clear F a9
  intro a9 F
  refine fr_do F (wanted_free rfl) 14 rfl (by decide) (.tuple #[.agg (pkV p al cap), .int .i64 ((1 + u + m : Nat) : Int), .int .i64 ((0 : Nat) : Int)]) (by intro a' F'; have h16 := F'.at' 16 _ rfl; go_simp) ?_
  clear F a9
  intro a9 F
  refine fr_do F (wanted_free rfl) 17 rfl (by decide) (.agg (pkV p al cap)) (by intro a' F'; have h14 := F'.at' 14 _ rfl; go_simp) ?_
  clear F a9
  intro a9 F
  refine fr_do F (wanted_free rfl) 18 rfl (by decide) (.int .i64 ((1 + u + m : Nat) : Int)) (by intro a' F'; have h14 := F'.at' 14 _ rfl; go_simp) ?_
  clear F a9
  intro a9 F
  refine fr_do F (wanted_free rfl) 19 rfl (by decide) (.int .i64 ((0 : Nat) : Int)) (by intro a' F'; have h14 := F'.at' 14 _ rfl; go_simp) ?_
  clear F a9
  intro a9 F
  obtain ⟨i0, hi, hz0, hz1, hz2⟩ := info_parts infoPkR
  refine fr_new F HK 3 (by decide) rfl 27 rfl rfl rfl (.tmp 17) rfl rfl i0 _ hi hz0 (cells := (pkV p al cap)) hz1 rfl (pk_one _ _ _) (fun a' Y F' => F'.ev 17 rfl) ?_
  rintro Q a10 w10 hX F' HK' hb
  clear HK F hb hX hi hz0 hz1 hz2 i0
  clear a9 w9
  rename World => w9
  rename Act => a9
  have HK := HK'
  have F := F'
  clear HK' F'
  replace HK : Keep w [(Q, (pkV p al cap), 27)] [(al, subCells (p).subs)] w9 := HK
  refine fr_do F (wanted_free rfl) 4 rfl (by decide) (.int .i64 ((1 + u + m : Nat) : Int)) (by intro a' F'; have h18 := F'.at' 18 _ rfl; go_simp) ?_
  clear F a9
  intro a9 F
  refine fr_do F (wanted_free rfl) 5 rfl (by decide) (.int .i64 ((0 : Nat) : Int)) (by intro a' F'; have h19 := F'.at' 19 _ rfl; go_simp) ?_
  clear F a9
  intro a9 F
  refine wpList_nil ?_
  show Code.wp _ _ _ _ _
  replace F : FrL 133 [(5, .int .i64 ((0 : Nat) : Int)), (4, .int .i64 ((1 + u + m : Nat) : Int)), (3, .pointer (some ⟨Q, 0, none⟩)), (0, .string s)] a9 := (((((FrL.nil F.size F.defers).add 0 _ (F.at' 0 _ rfl)).add 3 _ (F.at' 3 _ rfl)).add 4 _ (F.at' 4 _ rfl)).add 5 _ (F.at' 5 _ rfl))
  refine wp_seq ?_
  refine wp_seq ?_
  refine wp_region_lit ?_
  refine fr_do F (wanted_free rfl) 20 rfl (by decide) (.int .i64 ((0 : Nat) : Int)) (by intro a' F'; have h5 := F'.at' 5 _ rfl; go_simp) ?_
  clear F a9
  intro a9 F
  refine fr_do F (wanted_free rfl) 21 rfl (by decide) (.bool false) (by intro a' F'; have h20 := F'.at' 20 _ rfl; go_simp) ?_
  clear F a9
  intro a9 F
  refine wpList_nil ?_
  show Code.wp _ _ _ _ _
  refine wp_cond_false (F.ev 21 rfl) ?_
  refine wp_skip ?_
  show Code.wp _ _ _ _ _
  replace F : FrL 133 [(4, .int .i64 ((1 + u + m : Nat) : Int)), (3, .pointer (some ⟨Q, 0, none⟩)), (0, .string s)] a9 := ((((FrL.nil F.size F.defers).add 0 _ (F.at' 0 _ rfl)).add 3 _ (F.at' 3 _ rfl)).add 4 _ (F.at' 4 _ rfl))
  refine wp_seq ?_
  refine wp_seq ?_
  refine wp_region_noPanic ?_
  have hb8 : Below w9.heap.size w9 w9.drew := below_draws (n := 1) rfl
  replace HK := HK.below hb8
  clear hb8
  refine AnyT.begin (S := fun w' => BoxAt w' Q (pkV p al cap) 27) (z := 1000) (by kernel_rfl) (HK.at 0 rfl) (fun hS0 => ?_)
  clear hS0
  generalize w9.drew = w8 at *
  clear w9
  rename World => w9
  refine fr_takeG (i := 0) (o := ⟨some 36, _, _, _, _, _⟩) F (HK.at 0 rfl) rfl (wanted_free rfl) 36 rfl (by decide) (.int .i64 ((1 + u + m : Nat) : Int)) (fun w9 hS => (by intro a' F'; have h4 := F'.at' 4 _ rfl; go_simp)) ?_
  clear F a9
  intro a9 F
  refine fr_takeG (i := 1) (o := ⟨some 37, _, _, _, _, _⟩) F (HK.at 0 rfl) rfl (wanted_free rfl) 37 rfl (by decide) (.bool false) (fun w9 hS => (by intro a' F'; have h36 := F'.at' 36 _ rfl; go_simp <;> first | rfl | omega | (rw [IntKind.wrap_i64]; omega) | (rw [IntKind.wrap_u8]; omega) | (intro hcon; exfalso; omega) | (rw [Bool.eq_iff_iff]; simp; omega) | (rw [decide_eq_decide]; omega) | (congr 1; omega) | (congr 2; omega) | (rw [if_pos (by omega)]; congr 4 <;> omega) | (rw [if_pos (by omega), if_pos (by omega)]; congr 4 <;> omega))) ?_
  clear F a9
  intro a9 F
  refine fr_takeG (i := 2) (o := ⟨some 38, _, _, _, _, _⟩) F (HK.at 0 rfl) rfl (wanted_free rfl) 38 rfl (by decide) (.bool false) (fun w9 hS => (by intro a' F'; have h37 := F'.at' 37 _ rfl; go_simp)) ?_
  clear F a9
  intro a9 F
  refine fr_takeG (i := 3) (o := ⟨some 39, _, _, _, _, _⟩) F (HK.at 0 rfl) rfl (by rw [wanted_at F rfl (t := 38) (b := false) (by kernel_rfl) rfl]; rfl) 39 rfl (by decide) (.int .i64 ((1 + u + m : Nat) : Int)) (fun w9 hS => (by intro a' F'; have h4 := F'.at' 4 _ rfl; go_simp)) ?_
  clear F a9
  intro a9 F
  refine fr_takeG (i := 4) (o := ⟨some 40, _, _, _, _, _⟩) F (HK.at 0 rfl) rfl (by rw [wanted_at F rfl (t := 38) (b := false) (by kernel_rfl) rfl]; rfl) 40 rfl (by decide) (.string s) (fun w9 hS => (by intro a' F'; have h0 := F'.at' 0 _ rfl; go_simp)) ?_
  clear F a9
  intro a9 F
  refine fr_takeG (i := 5) (o := ⟨some 41, _, _, _, _, _⟩) F (HK.at 0 rfl) rfl (by rw [wanted_at F rfl (t := 38) (b := false) (by kernel_rfl) rfl]; rfl) 41 rfl (by decide) (.int .i64 (s.size : Int)) (fun w9 hS => (by intro a' F'; have h40 := F'.at' 40 _ rfl; go_simp)) ?_
  clear F a9
  intro a9 F
  refine fr_takeG (i := 6) (o := ⟨some 42, _, _, _, _, _⟩) F (HK.at 0 rfl) rfl (by rw [wanted_at F rfl (t := 38) (b := false) (by kernel_rfl) rfl]; rfl) 42 rfl (by decide) (.bool false) (fun w9 hS => (by intro a' F'; have h39 := F'.at' 39 _ rfl; have h41 := F'.at' 41 _ rfl; go_simp <;> first | rfl | omega | (rw [IntKind.wrap_i64]; omega) | (rw [IntKind.wrap_u8]; omega) | (intro hcon; exfalso; omega) | (rw [Bool.eq_iff_iff]; simp; omega) | (rw [decide_eq_decide]; omega) | (congr 1; omega) | (congr 2; omega) | (rw [if_pos (by omega)]; congr 4 <;> omega) | (rw [if_pos (by omega), if_pos (by omega)]; congr 4 <;> omega))) ?_
  clear F a9
  intro a9 F
  refine fr_takeG (i := 7) (o := ⟨some 43, _, _, _, _, _⟩) F (HK.at 0 rfl) rfl (wanted_free rfl) 43 rfl (by decide) (.bool false) (fun w9 hS => (by intro a' F'; have h38 := F'.at' 38 _ rfl; have h42 := F'.at' 42 _ rfl; go_simp)) ?_
  clear F a9
  intro a9 F
  refine fr_takeG (i := 8) (o := ⟨some 44, _, _, _, _, _⟩) F (HK.at 0 rfl) rfl (wanted_free rfl) 44 rfl (by decide) (.bool false) (fun w9 hS => (by intro a' F'; have h43 := F'.at' 43 _ rfl; go_simp)) ?_
  clear F a9
  intro a9 F
  refine fr_takeG (i := 9) (o := ⟨some 45, _, _, _, _, _⟩) F (HK.at 0 rfl) rfl (by rw [wanted_at F rfl (t := 44) (b := false) (by kernel_rfl) rfl]; rfl) 45 rfl (by decide) (.pointer (some ⟨Q, 0, none⟩)) (fun w9 hS => (by intro a' F'; have h3 := F'.at' 3 _ rfl; go_simp)) ?_
  clear F a9
  intro a9 F
  refine fr_takeG (i := 10) (o := ⟨some 46, _, _, _, _, _⟩) F (HK.at 0 rfl) rfl (by rw [wanted_at F rfl (t := 44) (b := false) (by kernel_rfl) rfl]; rfl) 46 rfl (by decide) (.int .u8 (p.ty : Int)) (fun w9 hS => (by intro a' F'; have hc : w9.cell? ⟨Q, 0, none⟩ = some (.int .u8 (p.ty : Int)) := (show BoxAt w9 Q (pkV p al cap) 27 from hS).cells 0; have h45 := F'.at' 45 _ rfl; go_simp)) ?_
  clear F a9
  intro a9 F
  refine fr_takeG (i := 11) (o := ⟨some 47, _, _, _, _, _⟩) F (HK.at 0 rfl) rfl (by rw [wanted_at F rfl (t := 44) (b := false) (by kernel_rfl) rfl]; rfl) 47 rfl (by decide) (.string s) (fun w9 hS => (by intro a' F'; have h0 := F'.at' 0 _ rfl; go_simp)) ?_
  clear F a9
  intro a9 F
  refine fr_takeG (i := 12) (o := ⟨some 48, _, _, _, _, _⟩) F (HK.at 0 rfl) rfl (by rw [wanted_at F rfl (t := 44) (b := false) (by kernel_rfl) rfl]; rfl) 48 rfl (by decide) (.int .u8 (x : Int)) (fun w9 hS => (by intro a' F'; have h47 := F'.at' 47 _ rfl; go_simp <;> first | rfl | omega | (rw [IntKind.wrap_i64]; omega) | (rw [IntKind.wrap_u8]; omega) | (intro hcon; exfalso; omega) | (rw [Bool.eq_iff_iff]; simp; omega) | (rw [decide_eq_decide]; omega) | (congr 1; omega) | (congr 2; omega) | (rw [if_pos (by omega)]; congr 4 <;> omega) | (rw [if_pos (by omega), if_pos (by omega)]; congr 4 <;> omega))) ?_
  clear F a9
  intro a9 F
  refine fr_takeG (i := 13) (o := ⟨some 49, _, _, _, _, _⟩) F (HK.at 0 rfl) rfl (by rw [wanted_at F rfl (t := 44) (b := false) (by kernel_rfl) rfl]; rfl) 49 rfl (by decide) (.int .u8 ((x / 16 : Nat) : Int)) (fun w9 hS => (by intro a' F'; have h48 := F'.at' 48 _ rfl; go_simp <;> first | rfl | omega | (rw [IntKind.wrap_i64]; omega) | (rw [IntKind.wrap_u8]; omega) | (intro hcon; exfalso; omega) | (rw [Bool.eq_iff_iff]; simp; omega) | (rw [decide_eq_decide]; omega) | (congr 1; omega) | (congr 2; omega) | (rw [if_pos (by omega)]; congr 4 <;> omega) | (rw [if_pos (by omega), if_pos (by omega)]; congr 4 <;> omega))) ?_
  clear F a9
  intro a9 F
  refine fr_takeG (i := 14) (o := ⟨some 50, _, _, _, _, _⟩) F (HK.at 0 rfl) rfl (by rw [wanted_at F rfl (t := 44) (b := false) (by kernel_rfl) rfl]; rfl) 50 rfl (by decide) (.bool false) (fun w9 hS => (by intro a' F'; have h46 := F'.at' 46 _ rfl; have h49 := F'.at' 49 _ rfl; go_simp <;> first | rfl | omega | (rw [IntKind.wrap_i64]; omega) | (rw [IntKind.wrap_u8]; omega) | (intro hcon; exfalso; omega) | (rw [Bool.eq_iff_iff]; simp; omega) | (rw [decide_eq_decide]; omega) | (congr 1; omega) | (congr 2; omega) | (rw [if_pos (by omega)]; congr 4 <;> omega) | (rw [if_pos (by omega), if_pos (by omega)]; congr 4 <;> omega))) ?_
  clear F a9
  intro a9 F
  refine fr_takeG (i := 15) (o := ⟨some 51, _, _, _, _, _⟩) F (HK.at 0 rfl) rfl (wanted_free rfl) 51 rfl (by decide) (.bool false) (fun w9 hS => (by intro a' F'; have h44 := F'.at' 44 _ rfl; have h50 := F'.at' 50 _ rfl; go_simp)) ?_
  clear F a9
  intro a9 F
  refine AnyT.done (by kernel_rfl) ?_ _
  refine NoPanic.normal ?_
  show Code.wp _ _ _ _ _
  refine wp_cond_false (F.ev 51 rfl) ?_
  refine wp_skip ?_
  show Code.wp _ _ _ _ _
  replace F : FrL 133 [(4, .int .i64 ((1 + u + m : Nat) : Int)), (3, .pointer (some ⟨Q, 0, none⟩)), (0, .string s)] a9 := ((((FrL.nil F.size F.defers).add 0 _ (F.at' 0 _ rfl)).add 3 _ (F.at' 3 _ rfl)).add 4 _ (F.at' 4 _ rfl))
  refine wp_seq ?_
  refine wp_seq ?_
  refine wp_region_lit ?_
  refine fr_do F (wanted_free rfl) 52 rfl (by decide) (.pointer (some ⟨Q, 0, none⟩)) (by intro a' F'; have h3 := F'.at' 3 _ rfl; go_simp) ?_
  clear F a9
  intro a9 F
  refine fr_do F (wanted_free rfl) 53 rfl (by decide) (.int .u8 (p.ty : Int)) (by intro a' F'; have hc : w9.cell? ⟨Q, 0, none⟩ = some (.int .u8 (p.ty : Int)) := (HK.at 0 rfl).cells 0; have h52 := F'.at' 52 _ rfl; go_simp) ?_
  clear F a9
  intro a9 F
  refine fr_do F (wanted_free rfl) 54 rfl (by decide) (.bool true) (by intro a' F'; have h53 := F'.at' 53 _ rfl; go_simp <;> first | rfl | omega | (rw [IntKind.wrap_i64]; omega) | (rw [IntKind.wrap_u8]; omega) | (intro hcon; exfalso; omega) | (rw [Bool.eq_iff_iff]; simp; omega) | (rw [decide_eq_decide]; omega) | (congr 1; omega) | (congr 2; omega) | (rw [if_pos (by omega)]; congr 4 <;> omega) | (rw [if_pos (by omega), if_pos (by omega)]; congr 4 <;> omega)) ?_
  clear F a9
  intro a9 F
  refine fr_do F (wanted_free rfl) 55 rfl (by decide) (.bool true) (by intro a' F'; have h54 := F'.at' 54 _ rfl; go_simp) ?_
  clear F a9
  intro a9 F
  refine fr_do F (by rw [wanted_at F rfl (t := 55) (b := true) (by kernel_rfl) rfl]; rfl) 56 rfl (by decide) (.pointer (some ⟨Q, 7, none⟩)) (by intro a' F'; have h3 := F'.at' 3 _ rfl; go_simp) ?_
  clear F a9
  intro a9 F
  refine fr_do F (by rw [wanted_at F rfl (t := 55) (b := true) (by kernel_rfl) rfl]; rfl) 57 rfl (by decide) (.int .u8 (p.level : Int)) (by intro a' F'; have hc : w9.cell? ⟨Q, 7, none⟩ = some (.int .u8 (p.level : Int)) := (HK.at 0 rfl).cells 7; have h56 := F'.at' 56 _ rfl; go_simp) ?_
  clear F a9
  intro a9 F
  refine fr_do F (by rw [wanted_at F rfl (t := 55) (b := true) (by kernel_rfl) rfl]; rfl) 58 rfl (by decide) (.bool true) (by intro a' F'; have h57 := F'.at' 57 _ rfl; go_simp <;> first | rfl | omega | (rw [IntKind.wrap_i64]; omega) | (rw [IntKind.wrap_u8]; omega) | (intro hcon; exfalso; omega) | (rw [Bool.eq_iff_iff]; simp; omega) | (rw [decide_eq_decide]; omega) | (congr 1; omega) | (congr 2; omega) | (rw [if_pos (by omega)]; congr 4 <;> omega) | (rw [if_pos (by omega), if_pos (by omega)]; congr 4 <;> omega)) ?_
  clear F a9
  intro a9 F
  refine fr_do F (wanted_free rfl) 59 rfl (by decide) (.bool true) (by intro a' F'; have h55 := F'.at' 55 _ rfl; have h58 := F'.at' 58 _ rfl; go_simp) ?_
  clear F a9
  intro a9 F
  refine wpList_nil ?_
  show Code.wp _ _ _ _ _
  refine wp_cond_true (F.ev 59 rfl) ?_
  refine wp_seq ?_
  refine wp_region_lit ?_
  refine fr_do F (wanted_free rfl) 60 rfl (by decide) (.agg ((pkV p al cap))) (by intro a' F'; exact run_load_box rfl (F'.ev 3 rfl) (HK.at 0 rfl) Tryd.underlying27 rfl infoPk) ?_
  clear F a9
  intro a9 F
  refine fr_do F (wanted_free rfl) 61 rfl (by decide) (.pointer (some ⟨Q, 7, none⟩)) (by intro a' F'; have h3 := F'.at' 3 _ rfl; go_simp) ?_
  clear F a9
  intro a9 F
  refine fr_do F (wanted_free rfl) 62 rfl (by decide) (.int .u8 (p.level : Int)) (by intro a' F'; have hc : w9.cell? ⟨Q, 7, none⟩ = some (.int .u8 (p.level : Int)) := (HK.at 0 rfl).cells 7; have h61 := F'.at' 61 _ rfl; go_simp) ?_
  clear F a9
  intro a9 F
  refine fr_do F (wanted_free rfl) 63 rfl (by decide) (.agg (pkV { Pk.zero with ty := 1, level := p.level } none 0)) (by intro a' F'; have g62 := F'.get 62 rfl; exact run_build_to rfl (by simp only [List.map_toArray, List.map_cons, List.map_nil, Act.eval, g62]; kernel_rfl)) ?_
  clear F a9
  intro a9 F
  refine fr_call F (wanted_free rfl) 64 rfl (by decide) 30 #[.agg (pkV p al cap), .agg (pkV { Pk.zero with ty := 1, level := p.level } none 0)] (by intro a' F'; have h60 := F'.at' 60 _ rfl; have h63 := F'.at' 63 _ rfl; go_simp) (HSM.out _ _ _ HK.env (HK.rowAt 0 rfl)) ?_
  rintro e9 w8 ⟨rfl, hb8⟩
  replace HK := HK.below hb8
  clear hb8
  clear w9
  rename World => w9
  refine ⟨_, rfl, ?_⟩
  clear F a9
  intro a9 F
  refine fr_do F (wanted_free rfl) 65 rfl (by decide) (.bool true) (by intro a' F'; have h64 := F'.at' 64 _ rfl; go_simp) ?_
  clear F a9
  intro a9 F
  refine fr_call F (by rw [wanted_at F rfl (t := 65) (b := true) (by kernel_rfl) rfl]; rfl) 66 rfl (by decide) 28 #[] (by intro a' F'; go_simp) (law05_awake _ HK.env) ?_
  rintro e9 w8 ⟨rfl, hb8⟩
  replace HK := HK.below hb8
  clear hb8
  clear w9
  rename World => w9
  refine ⟨_, rfl, ?_⟩
  clear F a9
  intro a9 F
  refine fr_do F (wanted_free rfl) 67 rfl (by decide) (.bool true) (by intro a' F'; have h65 := F'.at' 65 _ rfl; have h66 := F'.at' 66 _ rfl; go_simp) ?_
  clear F a9
  intro a9 F
  refine fr_do F (wanted_free rfl) 2 rfl (by decide) (.bool true) (by intro a' F'; have h67 := F'.at' 67 _ rfl; go_simp) ?_
  clear F a9
  intro a9 F
  refine wpList_nil ?_
  show Code.wp _ _ _ _ _
  refine wp_ret ?_
  exact fr_ret1 F rfl _ rfl (FIN.out _ HK.low)
set_option maxRecDepth 100000 in
set_option maxHeartbeats 4000000 in
theorem ragain_again (s : ByteArray) (w : World) (hE : Env w) (hgb : decide (20000 < s.size) = false) (p : Pk) (m u : Nat) (b : UInt8) (t : Bs) (hd : decR (bl s) = (p, 1 + u + m, 0)) (h0 : bl s = b :: t) (hlr : lenR t = (m, u, 0)) (hum : u + m ≤ t.length) (hu1 : 1 ≤ u) (hp : PkOk p) (hty : p.ty = b.toNat / 16) (hnl : ¬ (p.ty = 1 ∧ p.level ≠ 4)) (hrm : restP p = (m : Int)) (hls : lenS m ≤ u) (henc : encB p = b :: (lenB m ++ (t.drop u).take m)) : Calls Tryd.prog 7 #[.string s] w fun e w' => e = .returned (.bool true) ∧ Below w.heap.size w w' := by
  have HB := Lib.hid (show ∀ w9, Calls Tryd.prog 27 #[.string s] w9 fun e w' => e = .returned (.bool false) ∧ w9 = w' from fun w9 => by
    have h2 := law05_Great s w9
    rw [hgb] at h2
    exact h2)
  have hsz : s.size ≤ 20000 ∨ true = false := by
    cases hz : decide (20000 < s.size)
    · left; simpa using hz
    · right; rw [← hgb, hz]
  clear hgb
  have hs2 : s.size ≤ 20000 := by rcases hsz with h | h; exact h; cases h
  clear hsz
  have hsz : s.size = t.length + 1 := by rw [← bl_len, h0]; rfl
  have HD := Lib.hid (show ∀ w9, Env w9 → Calls Tryd.prog 29 #[.string s] w9 (RetDec w9 (p, 1 + u + m, 0)) from fun w9 h1 => by
    have h2 := read_Decode s (by omega) w9 h1
    rw [hd] at h2
    exact h2)
  obtain ⟨hg1, hg2⟩ := at_bl s 0 b (by rw [h0]; rfl)
  have hb2 := b.toNat_lt
  have hv : (s[0]'hg1).toNat = b.toNat := by rw [hg2]
  clear hg2
  have h0r : 0 ≤ restP p := by omega
  have ht1 : bl (s.extract 1 s.size) = t := by rw [bl_from, h0]; rfl
  have hRL := num_ReadLenG (s.extract 1 s.size)
  rw [ht1, hlr] at hRL
  have HRL := Lib.hid (show ∀ w9, Calls Tryd.prog 33 #[.string (s.extract 1 s.size)] w9 (fun e9 w8 => e9 = .returned (.tuple #[.int .i64 (m : Int), .int .i64 (u : Int), .int .i64 ((0 : Nat) : Int)]) ∧ w9 = w8) from fun w9 => hRL w9)
  have HN := Lib.hid (show ∀ w9 al cap, Env w9 → CellsA w9 al (subCells p.subs) → Calls Tryd.prog 19 #[.agg (pkV p al cap)] w9 fun e w' => e = .returned (.tuple #[.string (encS p), .int .i64 0]) ∧ Below w9.heap.size w9 w' from fun w9 al cap h1 h2 => by
    have h3 := write_Encode p al cap w9 h1 hp h2
    rw [encE_good h0r] at h3
    exact h3)
  have HRT := Lib.hid (show ∀ w9 al cap, Env w9 → CellsA w9 al (subCells p.subs) → Calls Tryd.prog 34 #[.agg (pkV p al cap)] w9 fun e w' => e = .returned (.bool true) ∧ Below w9.heap.size w9 w' from fun w9 al cap h1 h2 => by
    have h3 := packet_Right p al cap w9 h1 hp h2
    rw [decide_eq_true h0r] at h3
    exact h3)
  have HRS := Lib.hid (show ∀ w9 al cap, Env w9 → CellsA w9 al (subCells p.subs) → Calls Tryd.prog 35 #[.agg (pkV p al cap)] w9 fun e w' => e = .returned (.int .i64 (m : Int)) ∧ Below w9.heap.size w9 w' from fun w9 al cap h1 h2 => by
    have h3 := packet_Rest p al cap w9 h1 hp h2
    rw [hrm] at h3
    exact h3)
  have hbt : bl (encS p) = b :: (lenB m ++ (t.drop u).take m) := by rw [encS_good h0r, ← henc]; rfl
  obtain ⟨t', ht'⟩ : ∃ t', encS p = t' := ⟨_, rfl⟩
  rw [ht'] at hbt HN
  have hml : ((t.drop u).take m).length = m := by rw [List.length_take, List.length_drop]; omega
  have hm2 := (lenR_inv hlr).2.2.2.2
  have hll := lenB_len m hm2
  have htl : t'.size = 1 + lenS m + m := by rw [← bl_len, hbt, List.length_cons, List.length_append, hll, hml]; omega
  obtain ⟨hk1, hk2⟩ := at_bl t' 0 b (by rw [hbt]; rfl)
  have hkv : (t'[0]'hk1).toNat = b.toNat := by rw [hk2]
  clear hk2
  have hAB : t'.extract (1 + lenS m) t'.size = s.extract (1 + u) (1 + u + m) := by
    apply bl_inj
    rw [bl_from, bl_extract, hbt, h0, Nat.add_comm 1 u, List.drop_succ_cons, Nat.add_comm 1 (lenS m), List.drop_succ_cons, ← hll, List.drop_left, show u + 1 + m - (u + 1) = m by omega]
  have HAB := Lib.hid hAB
  clear hAB
  obtain ⟨RR, hRR⟩ : ∃ RR : Ending → World → Prop, RR = fun e w' => e = .returned (.bool true) ∧ Below w.heap.size w w' := ⟨_, rfl⟩
  have FIN := Lib.hid (show ∀ w', Below w.heap.size w w' → RR (.returned (.bool true)) w' from fun w' hb => by rw [hRR]; exact ⟨rfl, hb⟩)
  rw [← hRR]
  obtain ⟨w9, hw9⟩ : ∃ w9, w9 = w := ⟨_, rfl⟩
  have HK : Keep w [] [] w9 := by rw [hw9]; exact Keep.begin hE _ (by intro r hr; cases hr)
  suffices hgo : Calls Tryd.prog 7 #[.string s] w9 RR by rw [hw9] at hgo; exact hgo
  clear hw9 hRR hE hd ht' hbt hml hll hm2 henc ht1 hRL
  generalize b.toNat = x at *
  clear h0 hlr
  generalize lenS m = lm at *
  go_enter Tryd.func7, Tryd.ntmps7
  refine wp_forget (n := 133) (L := [(0, .string s)]) (FrL.add (FrL.nil ?_ ?_) _ _ ?_) ?_
  iterate 3 rfl
  intro a9 F
  refine wp_seq ?_
  refine wp_region_lit ?_
  refine fr_do F (wanted_free rfl) 2 rfl (by decide) (.bool false) (by intro a' F'; go_simp) ?_
  clear F a9
  intro a9 F
  refine wpList_nil ?_
  show Code.wp _ _ _ _ _
  replace F : FrL 133 [(0, .string s)] a9 := ((FrL.nil F.size F.defers).add 0 _ (F.at' 0 _ rfl))
  refine wp_seq ?_
  refine wp_seq ?_
  refine wp_region_lit ?_
  refine fr_do F (wanted_free rfl) 11 rfl (by decide) (.string s) (by intro a' F'; have h0 := F'.at' 0 _ rfl; go_simp) ?_
  clear F a9
  intro a9 F
  refine fr_call F (wanted_free rfl) 12 rfl (by decide) 27 #[.string s] (by intro a' F'; have h11 := F'.at' 11 _ rfl; go_simp) (HB.out _) ?_
  rintro e9 w8 ⟨rfl, rfl⟩
  refine ⟨_, rfl, ?_⟩
  clear F a9
  intro a9 F
  refine wpList_nil ?_
  show Code.wp _ _ _ _ _
  refine wp_cond_false (F.ev 12 rfl) ?_
  refine wp_skip ?_
  show Code.wp _ _ _ _ _
  replace F : FrL 133 [(0, .string s)] a9 := ((FrL.nil F.size F.defers).add 0 _ (F.at' 0 _ rfl))
  refine wp_seq ?_
  refine wp_region_lit ?_
  refine fr_do F (wanted_free rfl) 15 rfl (by decide) (.string s) (by intro a' F'; have h0 := F'.at' 0 _ rfl; go_simp) ?_
  clear F a9
  intro a9 F
  refine fr_call F (wanted_free rfl) 16 rfl (by decide) 29 #[.string s] (by intro a' F'; have h15 := F'.at' 15 _ rfl; go_simp) (HD.out _ HK.env) ?_
  rintro e9 w8 ⟨al, cap, rfl, hown, hb8⟩
  replace HK := HK.ownRow hb8 hown
  clear hb8 hown
  clear w9
  rename World => w9
  refine ⟨_, rfl, ?_⟩
  clear F a9
  intro a9 F
  refine fr_do F (wanted_free rfl) 14 rfl (by decide) (.tuple #[.agg (pkV p al cap), .int .i64 ((1 + u + m : Nat) : Int), .int .i64 ((0 : Nat) : Int)]) (by intro a' F'; have h16 := F'.at' 16 _ rfl; go_simp) ?_
  clear F a9
  intro a9 F
  refine fr_do F (wanted_free rfl) 17 rfl (by decide) (.agg (pkV p al cap)) (by intro a' F'; have h14 := F'.at' 14 _ rfl; go_simp) ?_
  clear F a9
  intro a9 F
  refine fr_do F (wanted_free rfl) 18 rfl (by decide) (.int .i64 ((1 + u + m : Nat) : Int)) (by intro a' F'; have h14 := F'.at' 14 _ rfl; go_simp) ?_
  clear F a9
  intro a9 F
  refine fr_do F (wanted_free rfl) 19 rfl (by decide) (.int .i64 ((0 : Nat) : Int)) (by intro a' F'; have h14 := F'.at' 14 _ rfl; go_simp) ?_
  clear F a9
  intro a9 F
  obtain ⟨i0, hi, hz0, hz1, hz2⟩ := info_parts infoPkR
  refine fr_new F HK 3 (by decide) rfl 27 rfl rfl rfl (.tmp 17) rfl rfl i0 _ hi hz0 (cells := (pkV p al cap)) hz1 rfl (pk_one _ _ _) (fun a' Y F' => F'.ev 17 rfl) ?_
  rintro Q a10 w10 hX F' HK' hb
  clear HK F hb hX hi hz0 hz1 hz2 i0
  clear a9 w9
  rename World => w9
  rename Act => a9
  have HK := HK'
  have F := F'
  clear HK' F'
  replace HK : Keep w [(Q, (pkV p al cap), 27)] [(al, subCells (p).subs)] w9 := HK
  refine fr_do F (wanted_free rfl) 4 rfl (by decide) (.int .i64 ((1 + u + m : Nat) : Int)) (by intro a' F'; have h18 := F'.at' 18 _ rfl; go_simp) ?_
  clear F a9
  intro a9 F
  refine fr_do F (wanted_free rfl) 5 rfl (by decide) (.int .i64 ((0 : Nat) : Int)) (by intro a' F'; have h19 := F'.at' 19 _ rfl; go_simp) ?_
  clear F a9
  intro a9 F
  refine wpList_nil ?_
  show Code.wp _ _ _ _ _
  replace F : FrL 133 [(5, .int .i64 ((0 : Nat) : Int)), (4, .int .i64 ((1 + u + m : Nat) : Int)), (3, .pointer (some ⟨Q, 0, none⟩)), (0, .string s)] a9 := (((((FrL.nil F.size F.defers).add 0 _ (F.at' 0 _ rfl)).add 3 _ (F.at' 3 _ rfl)).add 4 _ (F.at' 4 _ rfl)).add 5 _ (F.at' 5 _ rfl))
  refine wp_seq ?_
  refine wp_seq ?_
  refine wp_region_lit ?_
  refine fr_do F (wanted_free rfl) 20 rfl (by decide) (.int .i64 ((0 : Nat) : Int)) (by intro a' F'; have h5 := F'.at' 5 _ rfl; go_simp) ?_
  clear F a9
  intro a9 F
  refine fr_do F (wanted_free rfl) 21 rfl (by decide) (.bool false) (by intro a' F'; have h20 := F'.at' 20 _ rfl; go_simp) ?_
  clear F a9
  intro a9 F
  refine wpList_nil ?_
  show Code.wp _ _ _ _ _
  refine wp_cond_false (F.ev 21 rfl) ?_
  refine wp_skip ?_
  show Code.wp _ _ _ _ _
  replace F : FrL 133 [(4, .int .i64 ((1 + u + m : Nat) : Int)), (3, .pointer (some ⟨Q, 0, none⟩)), (0, .string s)] a9 := ((((FrL.nil F.size F.defers).add 0 _ (F.at' 0 _ rfl)).add 3 _ (F.at' 3 _ rfl)).add 4 _ (F.at' 4 _ rfl))
  refine wp_seq ?_
  refine wp_seq ?_
  refine wp_region_noPanic ?_
  have hb8 : Below w9.heap.size w9 w9.drew := below_draws (n := 1) rfl
  replace HK := HK.below hb8
  clear hb8
  refine AnyT.begin (S := fun w' => BoxAt w' Q (pkV p al cap) 27) (z := 1000) (by kernel_rfl) (HK.at 0 rfl) (fun hS0 => ?_)
  clear hS0
  generalize w9.drew = w8 at *
  clear w9
  rename World => w9
  refine fr_takeG (i := 0) (o := ⟨some 36, _, _, _, _, _⟩) F (HK.at 0 rfl) rfl (wanted_free rfl) 36 rfl (by decide) (.int .i64 ((1 + u + m : Nat) : Int)) (fun w9 hS => (by intro a' F'; have h4 := F'.at' 4 _ rfl; go_simp)) ?_
  clear F a9
  intro a9 F
  refine fr_takeG (i := 1) (o := ⟨some 37, _, _, _, _, _⟩) F (HK.at 0 rfl) rfl (wanted_free rfl) 37 rfl (by decide) (.bool false) (fun w9 hS => (by intro a' F'; have h36 := F'.at' 36 _ rfl; go_simp <;> first | rfl | omega | (rw [IntKind.wrap_i64]; omega) | (rw [IntKind.wrap_u8]; omega) | (intro hcon; exfalso; omega) | (rw [Bool.eq_iff_iff]; simp; omega) | (rw [decide_eq_decide]; omega) | (congr 1; omega) | (congr 2; omega) | (rw [if_pos (by omega)]; congr 4 <;> omega) | (rw [if_pos (by omega), if_pos (by omega)]; congr 4 <;> omega))) ?_
  clear F a9
  intro a9 F
  refine fr_takeG (i := 2) (o := ⟨some 38, _, _, _, _, _⟩) F (HK.at 0 rfl) rfl (wanted_free rfl) 38 rfl (by decide) (.bool false) (fun w9 hS => (by intro a' F'; have h37 := F'.at' 37 _ rfl; go_simp)) ?_
  clear F a9
  intro a9 F
  refine fr_takeG (i := 3) (o := ⟨some 39, _, _, _, _, _⟩) F (HK.at 0 rfl) rfl (by rw [wanted_at F rfl (t := 38) (b := false) (by kernel_rfl) rfl]; rfl) 39 rfl (by decide) (.int .i64 ((1 + u + m : Nat) : Int)) (fun w9 hS => (by intro a' F'; have h4 := F'.at' 4 _ rfl; go_simp)) ?_
  clear F a9
  intro a9 F
  refine fr_takeG (i := 4) (o := ⟨some 40, _, _, _, _, _⟩) F (HK.at 0 rfl) rfl (by rw [wanted_at F rfl (t := 38) (b := false) (by kernel_rfl) rfl]; rfl) 40 rfl (by decide) (.string s) (fun w9 hS => (by intro a' F'; have h0 := F'.at' 0 _ rfl; go_simp)) ?_
  clear F a9
  intro a9 F
  refine fr_takeG (i := 5) (o := ⟨some 41, _, _, _, _, _⟩) F (HK.at 0 rfl) rfl (by rw [wanted_at F rfl (t := 38) (b := false) (by kernel_rfl) rfl]; rfl) 41 rfl (by decide) (.int .i64 (s.size : Int)) (fun w9 hS => (by intro a' F'; have h40 := F'.at' 40 _ rfl; go_simp)) ?_
  clear F a9
  intro a9 F
  refine fr_takeG (i := 6) (o := ⟨some 42, _, _, _, _, _⟩) F (HK.at 0 rfl) rfl (by rw [wanted_at F rfl (t := 38) (b := false) (by kernel_rfl) rfl]; rfl) 42 rfl (by decide) (.bool false) (fun w9 hS => (by intro a' F'; have h39 := F'.at' 39 _ rfl; have h41 := F'.at' 41 _ rfl; go_simp <;> first | rfl | omega | (rw [IntKind.wrap_i64]; omega) | (rw [IntKind.wrap_u8]; omega) | (intro hcon; exfalso; omega) | (rw [Bool.eq_iff_iff]; simp; omega) | (rw [decide_eq_decide]; omega) | (congr 1; omega) | (congr 2; omega) | (rw [if_pos (by omega)]; congr 4 <;> omega) | (rw [if_pos (by omega), if_pos (by omega)]; congr 4 <;> omega))) ?_
  clear F a9
  intro a9 F
  refine fr_takeG (i := 7) (o := ⟨some 43, _, _, _, _, _⟩) F (HK.at 0 rfl) rfl (wanted_free rfl) 43 rfl (by decide) (.bool false) (fun w9 hS => (by intro a' F'; have h38 := F'.at' 38 _ rfl; have h42 := F'.at' 42 _ rfl; go_simp)) ?_
  clear F a9
  intro a9 F
  refine fr_takeG (i := 8) (o := ⟨some 44, _, _, _, _, _⟩) F (HK.at 0 rfl) rfl (wanted_free rfl) 44 rfl (by decide) (.bool false) (fun w9 hS => (by intro a' F'; have h43 := F'.at' 43 _ rfl; go_simp)) ?_
  clear F a9
  intro a9 F
  refine fr_takeG (i := 9) (o := ⟨some 45, _, _, _, _, _⟩) F (HK.at 0 rfl) rfl (by rw [wanted_at F rfl (t := 44) (b := false) (by kernel_rfl) rfl]; rfl) 45 rfl (by decide) (.pointer (some ⟨Q, 0, none⟩)) (fun w9 hS => (by intro a' F'; have h3 := F'.at' 3 _ rfl; go_simp)) ?_
  clear F a9
  intro a9 F
  refine fr_takeG (i := 10) (o := ⟨some 46, _, _, _, _, _⟩) F (HK.at 0 rfl) rfl (by rw [wanted_at F rfl (t := 44) (b := false) (by kernel_rfl) rfl]; rfl) 46 rfl (by decide) (.int .u8 (p.ty : Int)) (fun w9 hS => (by intro a' F'; have hc : w9.cell? ⟨Q, 0, none⟩ = some (.int .u8 (p.ty : Int)) := (show BoxAt w9 Q (pkV p al cap) 27 from hS).cells 0; have h45 := F'.at' 45 _ rfl; go_simp)) ?_
  clear F a9
  intro a9 F
  refine fr_takeG (i := 11) (o := ⟨some 47, _, _, _, _, _⟩) F (HK.at 0 rfl) rfl (by rw [wanted_at F rfl (t := 44) (b := false) (by kernel_rfl) rfl]; rfl) 47 rfl (by decide) (.string s) (fun w9 hS => (by intro a' F'; have h0 := F'.at' 0 _ rfl; go_simp)) ?_
  clear F a9
  intro a9 F
  refine fr_takeG (i := 12) (o := ⟨some 48, _, _, _, _, _⟩) F (HK.at 0 rfl) rfl (by rw [wanted_at F rfl (t := 44) (b := false) (by kernel_rfl) rfl]; rfl) 48 rfl (by decide) (.int .u8 (x : Int)) (fun w9 hS => (by intro a' F'; have h47 := F'.at' 47 _ rfl; go_simp <;> first | rfl | omega | (rw [IntKind.wrap_i64]; omega) | (rw [IntKind.wrap_u8]; omega) | (intro hcon; exfalso; omega) | (rw [Bool.eq_iff_iff]; simp; omega) | (rw [decide_eq_decide]; omega) | (congr 1; omega) | (congr 2; omega) | (rw [if_pos (by omega)]; congr 4 <;> omega) | (rw [if_pos (by omega), if_pos (by omega)]; congr 4 <;> omega))) ?_
  clear F a9
  intro a9 F
  refine fr_takeG (i := 13) (o := ⟨some 49, _, _, _, _, _⟩) F (HK.at 0 rfl) rfl (by rw [wanted_at F rfl (t := 44) (b := false) (by kernel_rfl) rfl]; rfl) 49 rfl (by decide) (.int .u8 ((x / 16 : Nat) : Int)) (fun w9 hS => (by intro a' F'; have h48 := F'.at' 48 _ rfl; go_simp <;> first | rfl | omega | (rw [IntKind.wrap_i64]; omega) | (rw [IntKind.wrap_u8]; omega) | (intro hcon; exfalso; omega) | (rw [Bool.eq_iff_iff]; simp; omega) | (rw [decide_eq_decide]; omega) | (congr 1; omega) | (congr 2; omega) | (rw [if_pos (by omega)]; congr 4 <;> omega) | (rw [if_pos (by omega), if_pos (by omega)]; congr 4 <;> omega))) ?_
  clear F a9
  intro a9 F
  refine fr_takeG (i := 14) (o := ⟨some 50, _, _, _, _, _⟩) F (HK.at 0 rfl) rfl (by rw [wanted_at F rfl (t := 44) (b := false) (by kernel_rfl) rfl]; rfl) 50 rfl (by decide) (.bool false) (fun w9 hS => (by intro a' F'; have h46 := F'.at' 46 _ rfl; have h49 := F'.at' 49 _ rfl; go_simp <;> first | rfl | omega | (rw [IntKind.wrap_i64]; omega) | (rw [IntKind.wrap_u8]; omega) | (intro hcon; exfalso; omega) | (rw [Bool.eq_iff_iff]; simp; omega) | (rw [decide_eq_decide]; omega) | (congr 1; omega) | (congr 2; omega) | (rw [if_pos (by omega)]; congr 4 <;> omega) | (rw [if_pos (by omega), if_pos (by omega)]; congr 4 <;> omega))) ?_
  clear F a9
  intro a9 F
  refine fr_takeG (i := 15) (o := ⟨some 51, _, _, _, _, _⟩) F (HK.at 0 rfl) rfl (wanted_free rfl) 51 rfl (by decide) (.bool false) (fun w9 hS => (by intro a' F'; have h44 := F'.at' 44 _ rfl; have h50 := F'.at' 50 _ rfl; go_simp)) ?_
  clear F a9
  intro a9 F
  refine AnyT.done (by kernel_rfl) ?_ _
  refine NoPanic.normal ?_
  show Code.wp _ _ _ _ _
  refine wp_cond_false (F.ev 51 rfl) ?_
  refine wp_skip ?_
  show Code.wp _ _ _ _ _
  replace F : FrL 133 [(4, .int .i64 ((1 + u + m : Nat) : Int)), (3, .pointer (some ⟨Q, 0, none⟩)), (0, .string s)] a9 := ((((FrL.nil F.size F.defers).add 0 _ (F.at' 0 _ rfl)).add 3 _ (F.at' 3 _ rfl)).add 4 _ (F.at' 4 _ rfl))
  obtain ⟨c1, hc1⟩ : ∃ c1, decide (p.ty = 1) = c1 := ⟨_, rfl⟩
  refine wp_seq_meet (fun a' w' => FrL 133 [(4, .int .i64 ((1 + u + m : Nat) : Int)), (3, .pointer (some ⟨Q, 0, none⟩)), (0, .string s)] a' ∧ Keep w [(Q, (pkV p al cap), 27)] [(al, subCells (p).subs)] w') ?_ ?_
  · cases c1
    · have hcc := of_decide_eq_false hc1
      clear hc1
      refine wp_seq ?_
      refine wp_region_lit ?_
      refine fr_do F (wanted_free rfl) 52 rfl (by decide) (.pointer (some ⟨Q, 0, none⟩)) (by intro a' F'; have h3 := F'.at' 3 _ rfl; go_simp) ?_
      clear F a9
      intro a9 F
      refine fr_do F (wanted_free rfl) 53 rfl (by decide) (.int .u8 (p.ty : Int)) (by intro a' F'; have hc : w9.cell? ⟨Q, 0, none⟩ = some (.int .u8 (p.ty : Int)) := (HK.at 0 rfl).cells 0; have h52 := F'.at' 52 _ rfl; go_simp) ?_
      clear F a9
      intro a9 F
      refine fr_do F (wanted_free rfl) 54 rfl (by decide) (.bool false) (by intro a' F'; have h53 := F'.at' 53 _ rfl; go_simp <;> first | rfl | omega | (rw [IntKind.wrap_i64]; omega) | (rw [IntKind.wrap_u8]; omega) | (intro hcon; exfalso; omega) | (rw [Bool.eq_iff_iff]; simp; omega) | (rw [decide_eq_decide]; omega) | (congr 1; omega) | (congr 2; omega) | (rw [if_pos (by omega)]; congr 4 <;> omega) | (rw [if_pos (by omega), if_pos (by omega)]; congr 4 <;> omega)) ?_
      clear F a9
      intro a9 F
      refine fr_do F (wanted_free rfl) 55 rfl (by decide) (.bool false) (by intro a' F'; have h54 := F'.at' 54 _ rfl; go_simp) ?_
      clear F a9
      intro a9 F
      refine fr_left F (by rw [wanted_at F rfl (t := 55) (b := false) (by kernel_rfl) rfl]; rfl) 56 rfl (by decide) ?_
      clear F a9
      intro a9 F
      refine fr_left F (by rw [wanted_at F rfl (t := 55) (b := false) (by kernel_rfl) rfl]; rfl) 57 rfl (by decide) ?_
      clear F a9
      intro a9 F
      refine fr_left F (by rw [wanted_at F rfl (t := 55) (b := false) (by kernel_rfl) rfl]; rfl) 58 rfl (by decide) ?_
      clear F a9
      intro a9 F
      refine fr_do F (wanted_free rfl) 59 rfl (by decide) (.bool false) (by intro a' F'; have h55 := F'.at' 55 _ rfl; have h58 := F'.at' 58 _ rfl; go_simp) ?_
      clear F a9
      intro a9 F
      refine wpList_nil ?_
      show Code.wp _ _ _ _ _
      refine wp_cond_false (F.ev 59 rfl) ?_
      refine wp_skip ?_
      exact ⟨((((FrL.nil F.size F.defers).add 0 _ (F.at' 0 _ rfl)).add 3 _ (F.at' 3 _ rfl)).add 4 _ (F.at' 4 _ rfl)), HK⟩
    · have hcc := of_decide_eq_true hc1
      clear hc1
      have hl4 : p.level = 4 := Classical.byContradiction fun h => hnl ⟨hcc, h⟩
      refine wp_seq ?_
      refine wp_region_lit ?_
      refine fr_do F (wanted_free rfl) 52 rfl (by decide) (.pointer (some ⟨Q, 0, none⟩)) (by intro a' F'; have h3 := F'.at' 3 _ rfl; go_simp) ?_
      clear F a9
      intro a9 F
      refine fr_do F (wanted_free rfl) 53 rfl (by decide) (.int .u8 (p.ty : Int)) (by intro a' F'; have hc : w9.cell? ⟨Q, 0, none⟩ = some (.int .u8 (p.ty : Int)) := (HK.at 0 rfl).cells 0; have h52 := F'.at' 52 _ rfl; go_simp) ?_
      clear F a9
      intro a9 F
      refine fr_do F (wanted_free rfl) 54 rfl (by decide) (.bool true) (by intro a' F'; have h53 := F'.at' 53 _ rfl; go_simp <;> first | rfl | omega | (rw [IntKind.wrap_i64]; omega) | (rw [IntKind.wrap_u8]; omega) | (intro hcon; exfalso; omega) | (rw [Bool.eq_iff_iff]; simp; omega) | (rw [decide_eq_decide]; omega) | (congr 1; omega) | (congr 2; omega) | (rw [if_pos (by omega)]; congr 4 <;> omega) | (rw [if_pos (by omega), if_pos (by omega)]; congr 4 <;> omega)) ?_
      clear F a9
      intro a9 F
      refine fr_do F (wanted_free rfl) 55 rfl (by decide) (.bool true) (by intro a' F'; have h54 := F'.at' 54 _ rfl; go_simp) ?_
      clear F a9
      intro a9 F
      refine fr_do F (by rw [wanted_at F rfl (t := 55) (b := true) (by kernel_rfl) rfl]; rfl) 56 rfl (by decide) (.pointer (some ⟨Q, 7, none⟩)) (by intro a' F'; have h3 := F'.at' 3 _ rfl; go_simp) ?_
      clear F a9
      intro a9 F
      refine fr_do F (by rw [wanted_at F rfl (t := 55) (b := true) (by kernel_rfl) rfl]; rfl) 57 rfl (by decide) (.int .u8 (p.level : Int)) (by intro a' F'; have hc : w9.cell? ⟨Q, 7, none⟩ = some (.int .u8 (p.level : Int)) := (HK.at 0 rfl).cells 7; have h56 := F'.at' 56 _ rfl; go_simp) ?_
      clear F a9
      intro a9 F
      refine fr_do F (by rw [wanted_at F rfl (t := 55) (b := true) (by kernel_rfl) rfl]; rfl) 58 rfl (by decide) (.bool false) (by intro a' F'; have h57 := F'.at' 57 _ rfl; go_simp <;> first | rfl | omega | (rw [IntKind.wrap_i64]; omega) | (rw [IntKind.wrap_u8]; omega) | (intro hcon; exfalso; omega) | (rw [Bool.eq_iff_iff]; simp; omega) | (rw [decide_eq_decide]; omega) | (congr 1; omega) | (congr 2; omega) | (rw [if_pos (by omega)]; congr 4 <;> omega) | (rw [if_pos (by omega), if_pos (by omega)]; congr 4 <;> omega)) ?_
      clear F a9
      intro a9 F
      refine fr_do F (wanted_free rfl) 59 rfl (by decide) (.bool false) (by intro a' F'; have h55 := F'.at' 55 _ rfl; have h58 := F'.at' 58 _ rfl; go_simp) ?_
      clear F a9
      intro a9 F
      refine wpList_nil ?_
      show Code.wp _ _ _ _ _
      refine wp_cond_false (F.ev 59 rfl) ?_
      refine wp_skip ?_
      exact ⟨((((FrL.nil F.size F.defers).add 0 _ (F.at' 0 _ rfl)).add 3 _ (F.at' 3 _ rfl)).add 4 _ (F.at' 4 _ rfl)), HK⟩
  clear HK F a9 w9 hc1
  rintro a9 w9 ⟨F, HK⟩
  replace F : FrL 133 [(4, .int .i64 ((1 + u + m : Nat) : Int)), (3, .pointer (some ⟨Q, 0, none⟩)), (0, .string s)] a9 := ((((FrL.nil F.size F.defers).add 0 _ (F.at' 0 _ rfl)).add 3 _ (F.at' 3 _ rfl)).add 4 _ (F.at' 4 _ rfl))
  replace HK : Keep w [(Q, (pkV p al cap), 27)] [(al, subCells (p).subs)] w9 := HK
  refine wp_seq ?_
  refine wp_region_lit ?_
  refine fr_do F (wanted_free rfl) 69 rfl (by decide) (.string s) (by intro a' F'; have h0 := F'.at' 0 _ rfl; go_simp) ?_
  clear F a9
  intro a9 F
  refine fr_do F (wanted_free rfl) 70 rfl (by decide) (.string (s.extract 1 s.size)) (by intro a' F'; have h69 := F'.at' 69 _ rfl; go_simp <;> first | rfl | omega | (rw [IntKind.wrap_i64]; omega) | (rw [IntKind.wrap_u8]; omega) | (intro hcon; exfalso; omega) | (rw [Bool.eq_iff_iff]; simp; omega) | (rw [decide_eq_decide]; omega) | (congr 1; omega) | (congr 2; omega) | (rw [if_pos (by omega)]; congr 4 <;> omega) | (rw [if_pos (by omega), if_pos (by omega)]; congr 4 <;> omega)) ?_
  clear F a9
  intro a9 F
  refine fr_call F (wanted_free rfl) 71 rfl (by decide) 33 #[.string (s.extract 1 s.size)] (by intro a' F'; have h70 := F'.at' 70 _ rfl; go_simp) (HRL.out w9) ?_
  rintro e9 w8 ⟨rfl, rfl⟩
  refine ⟨_, rfl, ?_⟩
  clear F a9
  intro a9 F
  refine fr_do F (wanted_free rfl) 68 rfl (by decide) (.tuple #[.int .i64 (m : Int), .int .i64 (u : Int), .int .i64 ((0 : Nat) : Int)]) (by intro a' F'; have h71 := F'.at' 71 _ rfl; go_simp) ?_
  clear F a9
  intro a9 F
  refine fr_do F (wanted_free rfl) 72 rfl (by decide) (.int .i64 (m : Int)) (by intro a' F'; have h68 := F'.at' 68 _ rfl; go_simp) ?_
  clear F a9
  intro a9 F
  refine fr_do F (wanted_free rfl) 73 rfl (by decide) (.int .i64 (u : Int)) (by intro a' F'; have h68 := F'.at' 68 _ rfl; go_simp) ?_
  clear F a9
  intro a9 F
  refine fr_do F (wanted_free rfl) 74 rfl (by decide) (.int .i64 ((0 : Nat) : Int)) (by intro a' F'; have h68 := F'.at' 68 _ rfl; go_simp) ?_
  clear F a9
  intro a9 F
  refine fr_do F (wanted_free rfl) 6 rfl (by decide) (.int .i64 (m : Int)) (by intro a' F'; have h72 := F'.at' 72 _ rfl; go_simp) ?_
  clear F a9
  intro a9 F
  refine fr_do F (wanted_free rfl) 7 rfl (by decide) (.int .i64 (u : Int)) (by intro a' F'; have h73 := F'.at' 73 _ rfl; go_simp) ?_
  clear F a9
  intro a9 F
  refine fr_do F (wanted_free rfl) 8 rfl (by decide) (.int .i64 ((0 : Nat) : Int)) (by intro a' F'; have h74 := F'.at' 74 _ rfl; go_simp) ?_
  clear F a9
  intro a9 F
  refine wpList_nil ?_
  show Code.wp _ _ _ _ _
  replace F : FrL 133 [(8, .int .i64 ((0 : Nat) : Int)), (7, .int .i64 (u : Int)), (6, .int .i64 (m : Int)), (4, .int .i64 ((1 + u + m : Nat) : Int)), (3, .pointer (some ⟨Q, 0, none⟩)), (0, .string s)] a9 := (((((((FrL.nil F.size F.defers).add 0 _ (F.at' 0 _ rfl)).add 3 _ (F.at' 3 _ rfl)).add 4 _ (F.at' 4 _ rfl)).add 6 _ (F.at' 6 _ rfl)).add 7 _ (F.at' 7 _ rfl)).add 8 _ (F.at' 8 _ rfl))
  refine wp_seq ?_
  refine wp_region_lit ?_
  refine fr_do F (wanted_free rfl) 76 rfl (by decide) (.agg ((pkV p al cap))) (by intro a' F'; exact run_load_box rfl (F'.ev 3 rfl) (HK.at 0 rfl) Tryd.underlying27 rfl infoPk) ?_
  clear F a9
  intro a9 F
  refine fr_call F (wanted_free rfl) 77 rfl (by decide) 19 #[.agg (pkV p al cap)] (by intro a' F'; have h76 := F'.at' 76 _ rfl; go_simp) (HN.out _ _ _ HK.env (HK.rowAt 0 rfl)) ?_
  rintro e9 w8 ⟨rfl, hb8⟩
  replace HK := HK.below hb8
  clear hb8
  clear w9
  rename World => w9
  refine ⟨_, rfl, ?_⟩
  clear F a9
  intro a9 F
  refine fr_do F (wanted_free rfl) 75 rfl (by decide) (.tuple #[.string t', .int .i64 0]) (by intro a' F'; have h77 := F'.at' 77 _ rfl; go_simp) ?_
  clear F a9
  intro a9 F
  refine fr_do F (wanted_free rfl) 78 rfl (by decide) (.string t') (by intro a' F'; have h75 := F'.at' 75 _ rfl; go_simp) ?_
  clear F a9
  intro a9 F
  refine fr_do F (wanted_free rfl) 79 rfl (by decide) (.int .i64 0) (by intro a' F'; have h75 := F'.at' 75 _ rfl; go_simp) ?_
  clear F a9
  intro a9 F
  refine fr_do F (wanted_free rfl) 9 rfl (by decide) (.string t') (by intro a' F'; have h78 := F'.at' 78 _ rfl; go_simp) ?_
  clear F a9
  intro a9 F
  refine fr_do F (wanted_free rfl) 10 rfl (by decide) (.int .i64 0) (by intro a' F'; have h79 := F'.at' 79 _ rfl; go_simp) ?_
  clear F a9
  intro a9 F
  refine wpList_nil ?_
  show Code.wp _ _ _ _ _
  replace F : FrL 133 [(10, .int .i64 0), (9, .string t'), (8, .int .i64 ((0 : Nat) : Int)), (7, .int .i64 (u : Int)), (6, .int .i64 (m : Int)), (4, .int .i64 ((1 + u + m : Nat) : Int)), (3, .pointer (some ⟨Q, 0, none⟩)), (0, .string s)] a9 := (((((((((FrL.nil F.size F.defers).add 0 _ (F.at' 0 _ rfl)).add 3 _ (F.at' 3 _ rfl)).add 4 _ (F.at' 4 _ rfl)).add 6 _ (F.at' 6 _ rfl)).add 7 _ (F.at' 7 _ rfl)).add 8 _ (F.at' 8 _ rfl)).add 9 _ (F.at' 9 _ rfl)).add 10 _ (F.at' 10 _ rfl))
  refine wp_seq ?_
  refine wp_seq ?_
  refine wp_region_lit ?_
  refine fr_do F (wanted_free rfl) 80 rfl (by decide) (.int .i64 ((0 : Nat) : Int)) (by intro a' F'; have h8 := F'.at' 8 _ rfl; go_simp) ?_
  clear F a9
  intro a9 F
  refine fr_do F (wanted_free rfl) 81 rfl (by decide) (.bool false) (by intro a' F'; have h80 := F'.at' 80 _ rfl; go_simp) ?_
  clear F a9
  intro a9 F
  refine fr_do F (wanted_free rfl) 82 rfl (by decide) (.bool false) (by intro a' F'; have h81 := F'.at' 81 _ rfl; go_simp) ?_
  clear F a9
  intro a9 F
  refine fr_do F (by rw [wanted_at F rfl (t := 82) (b := false) (by kernel_rfl) rfl]; rfl) 83 rfl (by decide) (.int .i64 0) (by intro a' F'; have h10 := F'.at' 10 _ rfl; go_simp) ?_
  clear F a9
  intro a9 F
  refine fr_do F (by rw [wanted_at F rfl (t := 82) (b := false) (by kernel_rfl) rfl]; rfl) 84 rfl (by decide) (.bool false) (by intro a' F'; have h83 := F'.at' 83 _ rfl; go_simp) ?_
  clear F a9
  intro a9 F
  refine fr_do F (wanted_free rfl) 85 rfl (by decide) (.bool false) (by intro a' F'; have h82 := F'.at' 82 _ rfl; have h84 := F'.at' 84 _ rfl; go_simp) ?_
  clear F a9
  intro a9 F
  refine fr_do F (wanted_free rfl) 86 rfl (by decide) (.bool false) (by intro a' F'; have h85 := F'.at' 85 _ rfl; go_simp) ?_
  clear F a9
  intro a9 F
  refine fr_do F (by rw [wanted_at F rfl (t := 86) (b := false) (by kernel_rfl) rfl]; rfl) 87 rfl (by decide) (.agg ((pkV p al cap))) (by intro a' F'; exact run_load_box rfl (F'.ev 3 rfl) (HK.at 0 rfl) Tryd.underlying27 rfl infoPk) ?_
  clear F a9
  intro a9 F
  refine fr_call F (by rw [wanted_at F rfl (t := 86) (b := false) (by kernel_rfl) rfl]; rfl) 88 rfl (by decide) 34 #[.agg (pkV p al cap)] (by intro a' F'; have h87 := F'.at' 87 _ rfl; go_simp) (HRT.out _ _ _ HK.env (HK.rowAt 0 rfl)) ?_
  rintro e9 w8 ⟨rfl, hb8⟩
  replace HK := HK.below hb8
  clear hb8
  clear w9
  rename World => w9
  refine ⟨_, rfl, ?_⟩
  clear F a9
  intro a9 F
  refine fr_do F (by rw [wanted_at F rfl (t := 86) (b := false) (by kernel_rfl) rfl]; rfl) 89 rfl (by decide) (.bool false) (by intro a' F'; have h88 := F'.at' 88 _ rfl; go_simp) ?_
  clear F a9
  intro a9 F
  refine fr_do F (wanted_free rfl) 90 rfl (by decide) (.bool false) (by intro a' F'; have h86 := F'.at' 86 _ rfl; have h89 := F'.at' 89 _ rfl; go_simp) ?_
  clear F a9
  intro a9 F
  refine fr_do F (wanted_free rfl) 91 rfl (by decide) (.bool false) (by intro a' F'; have h90 := F'.at' 90 _ rfl; go_simp) ?_
  clear F a9
  intro a9 F
  refine fr_do F (by rw [wanted_at F rfl (t := 91) (b := false) (by kernel_rfl) rfl]; rfl) 92 rfl (by decide) (.int .i64 (m : Int)) (by intro a' F'; have h6 := F'.at' 6 _ rfl; go_simp) ?_
  clear F a9
  intro a9 F
  refine fr_do F (by rw [wanted_at F rfl (t := 91) (b := false) (by kernel_rfl) rfl]; rfl) 93 rfl (by decide) (.agg ((pkV p al cap))) (by intro a' F'; exact run_load_box rfl (F'.ev 3 rfl) (HK.at 0 rfl) Tryd.underlying27 rfl infoPk) ?_
  clear F a9
  intro a9 F
  refine fr_call F (by rw [wanted_at F rfl (t := 91) (b := false) (by kernel_rfl) rfl]; rfl) 94 rfl (by decide) 35 #[.agg (pkV p al cap)] (by intro a' F'; have h93 := F'.at' 93 _ rfl; go_simp) (HRS.out _ _ _ HK.env (HK.rowAt 0 rfl)) ?_
  rintro e9 w8 ⟨rfl, hb8⟩
  replace HK := HK.below hb8
  clear hb8
  clear w9
  rename World => w9
  refine ⟨_, rfl, ?_⟩
  clear F a9
  intro a9 F
  refine fr_do F (by rw [wanted_at F rfl (t := 91) (b := false) (by kernel_rfl) rfl]; rfl) 95 rfl (by decide) (.bool false) (by intro a' F'; have h92 := F'.at' 92 _ rfl; have h94 := F'.at' 94 _ rfl; go_simp <;> first | rfl | omega | (rw [IntKind.wrap_i64]; omega) | (rw [IntKind.wrap_u8]; omega) | (intro hcon; exfalso; omega) | (rw [Bool.eq_iff_iff]; simp; omega) | (rw [decide_eq_decide]; omega) | (congr 1; omega) | (congr 2; omega) | (rw [if_pos (by omega)]; congr 4 <;> omega) | (rw [if_pos (by omega), if_pos (by omega)]; congr 4 <;> omega)) ?_
  clear F a9
  intro a9 F
  refine fr_do F (wanted_free rfl) 96 rfl (by decide) (.bool false) (by intro a' F'; have h91 := F'.at' 91 _ rfl; have h95 := F'.at' 95 _ rfl; go_simp) ?_
  clear F a9
  intro a9 F
  refine fr_do F (wanted_free rfl) 97 rfl (by decide) (.bool false) (by intro a' F'; have h96 := F'.at' 96 _ rfl; go_simp) ?_
  clear F a9
  intro a9 F
  refine fr_do F (by rw [wanted_at F rfl (t := 97) (b := false) (by kernel_rfl) rfl]; rfl) 98 rfl (by decide) (.int .i64 ((1 + u + m : Nat) : Int)) (by intro a' F'; have h4 := F'.at' 4 _ rfl; go_simp) ?_
  clear F a9
  intro a9 F
  refine fr_do F (by rw [wanted_at F rfl (t := 97) (b := false) (by kernel_rfl) rfl]; rfl) 99 rfl (by decide) (.int .i64 (u : Int)) (by intro a' F'; have h7 := F'.at' 7 _ rfl; go_simp) ?_
  clear F a9
  intro a9 F
  refine fr_do F (by rw [wanted_at F rfl (t := 97) (b := false) (by kernel_rfl) rfl]; rfl) 100 rfl (by decide) (.int .i64 ((1 + u : Nat) : Int)) (by intro a' F'; have h99 := F'.at' 99 _ rfl; go_simp <;> first | rfl | omega | (rw [IntKind.wrap_i64]; omega) | (rw [IntKind.wrap_u8]; omega) | (intro hcon; exfalso; omega) | (rw [Bool.eq_iff_iff]; simp; omega) | (rw [decide_eq_decide]; omega) | (congr 1; omega) | (congr 2; omega) | (rw [if_pos (by omega)]; congr 4 <;> omega) | (rw [if_pos (by omega), if_pos (by omega)]; congr 4 <;> omega)) ?_
  clear F a9
  intro a9 F
  refine fr_do F (by rw [wanted_at F rfl (t := 97) (b := false) (by kernel_rfl) rfl]; rfl) 101 rfl (by decide) (.int .i64 (m : Int)) (by intro a' F'; have h6 := F'.at' 6 _ rfl; go_simp) ?_
  clear F a9
  intro a9 F
  refine fr_do F (by rw [wanted_at F rfl (t := 97) (b := false) (by kernel_rfl) rfl]; rfl) 102 rfl (by decide) (.int .i64 ((1 + u + m : Nat) : Int)) (by intro a' F'; have h100 := F'.at' 100 _ rfl; have h101 := F'.at' 101 _ rfl; go_simp <;> first | rfl | omega | (rw [IntKind.wrap_i64]; omega) | (rw [IntKind.wrap_u8]; omega) | (intro hcon; exfalso; omega) | (rw [Bool.eq_iff_iff]; simp; omega) | (rw [decide_eq_decide]; omega) | (congr 1; omega) | (congr 2; omega) | (rw [if_pos (by omega)]; congr 4 <;> omega) | (rw [if_pos (by omega), if_pos (by omega)]; congr 4 <;> omega)) ?_
  clear F a9
  intro a9 F
  refine fr_do F (by rw [wanted_at F rfl (t := 97) (b := false) (by kernel_rfl) rfl]; rfl) 103 rfl (by decide) (.bool false) (by intro a' F'; have h98 := F'.at' 98 _ rfl; have h102 := F'.at' 102 _ rfl; go_simp <;> first | rfl | omega | (rw [IntKind.wrap_i64]; omega) | (rw [IntKind.wrap_u8]; omega) | (intro hcon; exfalso; omega) | (rw [Bool.eq_iff_iff]; simp; omega) | (rw [decide_eq_decide]; omega) | (congr 1; omega) | (congr 2; omega) | (rw [if_pos (by omega)]; congr 4 <;> omega) | (rw [if_pos (by omega), if_pos (by omega)]; congr 4 <;> omega)) ?_
  clear F a9
  intro a9 F
  refine fr_do F (wanted_free rfl) 104 rfl (by decide) (.bool false) (by intro a' F'; have h97 := F'.at' 97 _ rfl; have h103 := F'.at' 103 _ rfl; go_simp) ?_
  clear F a9
  intro a9 F
  refine wpList_nil ?_
  show Code.wp _ _ _ _ _
  refine wp_cond_false (F.ev 104 rfl) ?_
  refine wp_skip ?_
  show Code.wp _ _ _ _ _
  replace F : FrL 133 [(9, .string t'), (7, .int .i64 (u : Int)), (6, .int .i64 (m : Int)), (4, .int .i64 ((1 + u + m : Nat) : Int)), (0, .string s)] a9 := ((((((FrL.nil F.size F.defers).add 0 _ (F.at' 0 _ rfl)).add 4 _ (F.at' 4 _ rfl)).add 6 _ (F.at' 6 _ rfl)).add 7 _ (F.at' 7 _ rfl)).add 9 _ (F.at' 9 _ rfl))
  refine wp_seq ?_
  refine wp_region_noPanic ?_
  have hb8 : Below w9.heap.size w9 w9.drew := below_draws (n := 1) rfl
  replace HK := HK.below hb8
  clear hb8
  refine AnyT.begin (S := fun _ => True) (z := 1000) (by kernel_rfl) trivial (fun hS0 => ?_)
  clear hS0
  generalize w9.drew = w8 at *
  clear w9
  rename World => w9
  refine fr_takeG (i := 0) (o := ⟨some 105, _, _, _, _, _⟩) F trivial rfl (wanted_free rfl) 105 rfl (by decide) (.string t') (fun w9 hS => (by intro a' F'; have h9 := F'.at' 9 _ rfl; go_simp)) ?_
  clear F a9
  intro a9 F
  refine fr_takeG (i := 1) (o := ⟨some 106, _, _, _, _, _⟩) F trivial rfl (wanted_free rfl) 106 rfl (by decide) (.int .u8 (x : Int)) (fun w9 hS => (by intro a' F'; have h105 := F'.at' 105 _ rfl; go_simp <;> first | rfl | omega | (rw [IntKind.wrap_i64]; omega) | (rw [IntKind.wrap_u8]; omega) | (intro hcon; exfalso; omega) | (rw [Bool.eq_iff_iff]; simp; omega) | (rw [decide_eq_decide]; omega) | (congr 1; omega) | (congr 2; omega) | (rw [if_pos (by omega)]; congr 4 <;> omega) | (rw [if_pos (by omega), if_pos (by omega)]; congr 4 <;> omega))) ?_
  clear F a9
  intro a9 F
  refine fr_takeG (i := 2) (o := ⟨some 107, _, _, _, _, _⟩) F trivial rfl (wanted_free rfl) 107 rfl (by decide) (.string s) (fun w9 hS => (by intro a' F'; have h0 := F'.at' 0 _ rfl; go_simp)) ?_
  clear F a9
  intro a9 F
  refine fr_takeG (i := 3) (o := ⟨some 108, _, _, _, _, _⟩) F trivial rfl (wanted_free rfl) 108 rfl (by decide) (.int .u8 (x : Int)) (fun w9 hS => (by intro a' F'; have h107 := F'.at' 107 _ rfl; go_simp <;> first | rfl | omega | (rw [IntKind.wrap_i64]; omega) | (rw [IntKind.wrap_u8]; omega) | (intro hcon; exfalso; omega) | (rw [Bool.eq_iff_iff]; simp; omega) | (rw [decide_eq_decide]; omega) | (congr 1; omega) | (congr 2; omega) | (rw [if_pos (by omega)]; congr 4 <;> omega) | (rw [if_pos (by omega), if_pos (by omega)]; congr 4 <;> omega))) ?_
  clear F a9
  intro a9 F
  refine fr_takeG (i := 4) (o := ⟨some 109, _, _, _, _, _⟩) F trivial rfl (wanted_free rfl) 109 rfl (by decide) (.bool true) (fun w9 hS => (by intro a' F'; have h106 := F'.at' 106 _ rfl; have h108 := F'.at' 108 _ rfl; go_simp <;> first | rfl | omega | (rw [IntKind.wrap_i64]; omega) | (rw [IntKind.wrap_u8]; omega) | (intro hcon; exfalso; omega) | (rw [Bool.eq_iff_iff]; simp; omega) | (rw [decide_eq_decide]; omega) | (congr 1; omega) | (congr 2; omega) | (rw [if_pos (by omega)]; congr 4 <;> omega) | (rw [if_pos (by omega), if_pos (by omega)]; congr 4 <;> omega))) ?_
  clear F a9
  intro a9 F
  refine fr_takeG (i := 5) (o := ⟨some 110, _, _, _, _, _⟩) F trivial rfl (wanted_free rfl) 110 rfl (by decide) (.bool true) (fun w9 hS => (by intro a' F'; have h109 := F'.at' 109 _ rfl; go_simp)) ?_
  clear F a9
  intro a9 F
  refine fr_takeG (i := 6) (o := ⟨some 111, _, _, _, _, _⟩) F trivial rfl (by rw [wanted_at F rfl (t := 110) (b := true) (by kernel_rfl) rfl]; rfl) 111 rfl (by decide) (.string t') (fun w9 hS => (by intro a' F'; have h9 := F'.at' 9 _ rfl; go_simp)) ?_
  clear F a9
  intro a9 F
  refine fr_takeG (i := 7) (o := ⟨some 112, _, _, _, _, _⟩) F trivial rfl (by rw [wanted_at F rfl (t := 110) (b := true) (by kernel_rfl) rfl]; rfl) 112 rfl (by decide) (.string t') (fun w9 hS => (by intro a' F'; have h9 := F'.at' 9 _ rfl; go_simp)) ?_
  clear F a9
  intro a9 F
  refine fr_takeG (i := 8) (o := ⟨some 113, _, _, _, _, _⟩) F trivial rfl (by rw [wanted_at F rfl (t := 110) (b := true) (by kernel_rfl) rfl]; rfl) 113 rfl (by decide) (.int .i64 (t'.size : Int)) (fun w9 hS => (by intro a' F'; have h112 := F'.at' 112 _ rfl; go_simp)) ?_
  clear F a9
  intro a9 F
  refine fr_takeG (i := 9) (o := ⟨some 114, _, _, _, _, _⟩) F trivial rfl (by rw [wanted_at F rfl (t := 110) (b := true) (by kernel_rfl) rfl]; rfl) 114 rfl (by decide) (.int .i64 (m : Int)) (fun w9 hS => (by intro a' F'; have h6 := F'.at' 6 _ rfl; go_simp)) ?_
  clear F a9
  intro a9 F
  refine fr_takeG (i := 10) (o := ⟨some 115, _, _, _, _, _⟩) F trivial rfl (by rw [wanted_at F rfl (t := 110) (b := true) (by kernel_rfl) rfl]; rfl) 115 rfl (by decide) (.int .i64 ((1 + lm : Nat) : Int)) (fun w9 hS => (by intro a' F'; have h113 := F'.at' 113 _ rfl; have h114 := F'.at' 114 _ rfl; go_simp <;> first | rfl | omega | (rw [IntKind.wrap_i64]; omega) | (rw [IntKind.wrap_u8]; omega) | (intro hcon; exfalso; omega) | (rw [Bool.eq_iff_iff]; simp; omega) | (rw [decide_eq_decide]; omega) | (congr 1; omega) | (congr 2; omega) | (rw [if_pos (by omega)]; congr 4 <;> omega) | (rw [if_pos (by omega), if_pos (by omega)]; congr 4 <;> omega))) ?_
  clear F a9
  intro a9 F
  refine fr_takeG (i := 11) (o := ⟨some 116, _, _, _, _, _⟩) F trivial rfl (by rw [wanted_at F rfl (t := 110) (b := true) (by kernel_rfl) rfl]; rfl) 116 rfl (by decide) (.string (t'.extract (1 + lm) t'.size)) (fun w9 hS => (by intro a' F'; have h111 := F'.at' 111 _ rfl; have h115 := F'.at' 115 _ rfl; go_simp <;> first | rfl | omega | (rw [IntKind.wrap_i64]; omega) | (rw [IntKind.wrap_u8]; omega) | (intro hcon; exfalso; omega) | (rw [Bool.eq_iff_iff]; simp; omega) | (rw [decide_eq_decide]; omega) | (congr 1; omega) | (congr 2; omega) | (rw [if_pos (by omega)]; congr 4 <;> omega) | (rw [if_pos (by omega), if_pos (by omega)]; congr 4 <;> omega))) ?_
  clear F a9
  intro a9 F
  refine fr_takeG (i := 12) (o := ⟨some 117, _, _, _, _, _⟩) F trivial rfl (by rw [wanted_at F rfl (t := 110) (b := true) (by kernel_rfl) rfl]; rfl) 117 rfl (by decide) (.string s) (fun w9 hS => (by intro a' F'; have h0 := F'.at' 0 _ rfl; go_simp)) ?_
  clear F a9
  intro a9 F
  refine fr_takeG (i := 13) (o := ⟨some 118, _, _, _, _, _⟩) F trivial rfl (by rw [wanted_at F rfl (t := 110) (b := true) (by kernel_rfl) rfl]; rfl) 118 rfl (by decide) (.int .i64 (u : Int)) (fun w9 hS => (by intro a' F'; have h7 := F'.at' 7 _ rfl; go_simp)) ?_
  clear F a9
  intro a9 F
  refine fr_takeG (i := 14) (o := ⟨some 119, _, _, _, _, _⟩) F trivial rfl (by rw [wanted_at F rfl (t := 110) (b := true) (by kernel_rfl) rfl]; rfl) 119 rfl (by decide) (.int .i64 ((1 + u : Nat) : Int)) (fun w9 hS => (by intro a' F'; have h118 := F'.at' 118 _ rfl; go_simp <;> first | rfl | omega | (rw [IntKind.wrap_i64]; omega) | (rw [IntKind.wrap_u8]; omega) | (intro hcon; exfalso; omega) | (rw [Bool.eq_iff_iff]; simp; omega) | (rw [decide_eq_decide]; omega) | (congr 1; omega) | (congr 2; omega) | (rw [if_pos (by omega)]; congr 4 <;> omega) | (rw [if_pos (by omega), if_pos (by omega)]; congr 4 <;> omega))) ?_
  clear F a9
  intro a9 F
  refine fr_takeG (i := 15) (o := ⟨some 120, _, _, _, _, _⟩) F trivial rfl (by rw [wanted_at F rfl (t := 110) (b := true) (by kernel_rfl) rfl]; rfl) 120 rfl (by decide) (.int .i64 ((1 + u + m : Nat) : Int)) (fun w9 hS => (by intro a' F'; have h4 := F'.at' 4 _ rfl; go_simp)) ?_
  clear F a9
  intro a9 F
  refine fr_takeG (i := 16) (o := ⟨some 121, _, _, _, _, _⟩) F trivial rfl (by rw [wanted_at F rfl (t := 110) (b := true) (by kernel_rfl) rfl]; rfl) 121 rfl (by decide) (.string (s.extract (1 + u) (1 + u + m))) (fun w9 hS => (by intro a' F'; have h117 := F'.at' 117 _ rfl; have h119 := F'.at' 119 _ rfl; have h120 := F'.at' 120 _ rfl; go_simp <;> first | rfl | omega | (rw [IntKind.wrap_i64]; omega) | (rw [IntKind.wrap_u8]; omega) | (intro hcon; exfalso; omega) | (rw [Bool.eq_iff_iff]; simp; omega) | (rw [decide_eq_decide]; omega) | (congr 1; omega) | (congr 2; omega) | (rw [if_pos (by omega)]; congr 4 <;> omega) | (rw [if_pos (by omega), if_pos (by omega)]; congr 4 <;> omega))) ?_
  clear F a9
  intro a9 F
  refine fr_takeG (i := 17) (o := ⟨some 122, _, _, _, _, _⟩) F trivial rfl (by rw [wanted_at F rfl (t := 110) (b := true) (by kernel_rfl) rfl]; rfl) 122 rfl (by decide) (.bool true) (fun w9 hS => (by intro a' F'; have h116 := F'.at' 116 _ rfl; have h121 := F'.at' 121 _ rfl; have hq := HAB.out; go_simp <;> first | (rw [← htl, hq]; done) | (rw [hq]; simp; done) | (simp [hq]; done) | exact hq | (rw [if_pos (by omega), if_pos (by omega)]; congr 3; omega))) ?_
  clear F a9
  intro a9 F
  refine fr_takeG (i := 18) (o := ⟨some 123, _, _, _, _, _⟩) F trivial rfl (wanted_free rfl) 123 rfl (by decide) (.bool true) (fun w9 hS => (by intro a' F'; have h110 := F'.at' 110 _ rfl; have h122 := F'.at' 122 _ rfl; go_simp)) ?_
  clear F a9
  intro a9 F
  refine fr_takeG (i := 19) (o := ⟨some 124, _, _, _, _, _⟩) F trivial rfl (wanted_free rfl) 124 rfl (by decide) (.bool true) (fun w9 hS => (by intro a' F'; have h123 := F'.at' 123 _ rfl; go_simp)) ?_
  clear F a9
  intro a9 F
  refine fr_takeG (i := 20) (o := ⟨some 125, _, _, _, _, _⟩) F trivial rfl (by rw [wanted_at F rfl (t := 124) (b := true) (by kernel_rfl) rfl]; rfl) 125 rfl (by decide) (.string t') (fun w9 hS => (by intro a' F'; have h9 := F'.at' 9 _ rfl; go_simp)) ?_
  clear F a9
  intro a9 F
  refine fr_takeG (i := 21) (o := ⟨some 126, _, _, _, _, _⟩) F trivial rfl (by rw [wanted_at F rfl (t := 124) (b := true) (by kernel_rfl) rfl]; rfl) 126 rfl (by decide) (.int .i64 (t'.size : Int)) (fun w9 hS => (by intro a' F'; have h125 := F'.at' 125 _ rfl; go_simp)) ?_
  clear F a9
  intro a9 F
  refine fr_takeG (i := 22) (o := ⟨some 127, _, _, _, _, _⟩) F trivial rfl (by rw [wanted_at F rfl (t := 124) (b := true) (by kernel_rfl) rfl]; rfl) 127 rfl (by decide) (.int .i64 ((1 + u + m : Nat) : Int)) (fun w9 hS => (by intro a' F'; have h4 := F'.at' 4 _ rfl; go_simp)) ?_
  clear F a9
  intro a9 F
  refine fr_takeG (i := 23) (o := ⟨some 128, _, _, _, _, _⟩) F trivial rfl (by rw [wanted_at F rfl (t := 124) (b := true) (by kernel_rfl) rfl]; rfl) 128 rfl (by decide) (.bool true) (fun w9 hS => (by intro a' F'; have h126 := F'.at' 126 _ rfl; have h127 := F'.at' 127 _ rfl; go_simp <;> first | rfl | omega | (rw [IntKind.wrap_i64]; omega) | (rw [IntKind.wrap_u8]; omega) | (intro hcon; exfalso; omega) | (rw [Bool.eq_iff_iff]; simp; omega) | (rw [decide_eq_decide]; omega) | (congr 1; omega) | (congr 2; omega) | (rw [if_pos (by omega)]; congr 4 <;> omega) | (rw [if_pos (by omega), if_pos (by omega)]; congr 4 <;> omega))) ?_
  clear F a9
  intro a9 F
  refine fr_takeG (i := 24) (o := ⟨some 129, _, _, _, _, _⟩) F trivial rfl (wanted_free rfl) 129 rfl (by decide) (.bool true) (fun w9 hS => (by intro a' F'; have h124 := F'.at' 124 _ rfl; have h128 := F'.at' 128 _ rfl; go_simp)) ?_
  clear F a9
  intro a9 F
  refine fr_takeG (i := 25) (o := ⟨some 130, _, _, _, _, _⟩) F trivial rfl (wanted_free rfl) 130 rfl (by decide) (.bool true) (fun w9 hS => (by intro a' F'; have h129 := F'.at' 129 _ rfl; go_simp)) ?_
  clear F a9
  intro a9 F
  refine fr_stepC (i := 26) (o := ⟨some 131, _, _, _, _, _⟩) F rfl (by rw [wanted_at F rfl (t := 130) (b := true) (by kernel_rfl) rfl]; rfl) 131 rfl (by decide) 28 #[] (by intro a' F'; go_simp) (law05_awake _ HK.env) ?_
  rintro e9 w8 ⟨rfl, hb8⟩
  replace HK := HK.below hb8
  clear hb8
  clear w9
  rename World => w9
  refine ⟨_, rfl, trivial, ?_⟩
  clear F a9
  intro a9 F
  refine fr_takeG (i := 27) (o := ⟨some 132, _, _, _, _, _⟩) F trivial rfl (wanted_free rfl) 132 rfl (by decide) (.bool true) (fun w9 hS => (by intro a' F'; have h130 := F'.at' 130 _ rfl; have h131 := F'.at' 131 _ rfl; go_simp)) ?_
  clear F a9
  intro a9 F
  refine fr_takeG (i := 28) (o := ⟨some 2, _, _, _, _, _⟩) F trivial rfl (wanted_free rfl) 2 rfl (by decide) (.bool true) (fun w9 hS => (by intro a' F'; have h132 := F'.at' 132 _ rfl; go_simp)) ?_
  clear F a9
  intro a9 F
  refine AnyT.done (by kernel_rfl) ?_ _
  refine NoPanic.normal ?_
  show Code.wp _ _ _ _ _
  refine wp_ret ?_
  exact fr_ret1 F rfl _ rfl (FIN.out _ HK.low)
theorem law05_ReadAgain (s : ByteArray) (w : World) (hE : Env w) : Calls Tryd.prog 7 #[.string s] w fun e w' => e = .returned (.bool true) ∧ Below w.heap.size w w' := by
  cases hgb : decide (20000 < s.size)
  · have hs2 : s.size ≤ 20000 := by simpa using hgb
    by_cases he : (decR (bl s)).2.2 = 0
    · obtain ⟨b, t, m, u, h0, hf, hlr, hn, hum, hu1, hp, hty, hc⟩ := dec_again (bl s) (decR (bl s)).1 (decR (bl s)).2.1 (by rw [← he]) (by rw [bl_len]; omega)
      have hd : decR (bl s) = ((decR (bl s)).1, 1 + u + m, 0) := by rw [← hn, ← he]
      generalize (decR (bl s)).1 = p at *
      rcases hc with ⟨h1, h4, hlv⟩ | ⟨hnl, hrm, hls, henc⟩
      · exact ragain_level s w hE hgb p m u b t hd h0 hlr hum hu1 hp hty h1 h4 hlv
      · exact ragain_again s w hE hgb p m u b t hd h0 hlr hum hu1 hp hty hnl hrm hls henc
    · obtain ⟨h1, h2⟩ := dec_err (bl s) he
      rcases h2 with h2 | h2
      · rw [h2] at h1; exact ragain_err2 s w hE hgb h1
      · rw [h2] at h1; exact ragain_err4 s w hE hgb h1
  · exact ragain_great s w hE hgb
end Go.Proofs.YtcghokbcjbbbhaaDoor
