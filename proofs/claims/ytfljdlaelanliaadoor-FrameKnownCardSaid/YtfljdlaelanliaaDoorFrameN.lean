/- The walks of a framer's Push, Next, Left where there is none, or its limit is 0. Conditions: the decoder's tables lie as Go lays them. -/
import Derived.Test.YtfljdlaelanliaaDoorFrameF
namespace Go.Proofs.YtfljdlaelanliaaDoor
open Go.RowKit
set_option maxRecDepth 100000 in
set_option maxHeartbeats 4000000 in
theorem frame_Push_nil (w : World) (s : ByteArray) : Calls Tryd.prog 19 #[.pointer none, .string s] w fun r w' => r = .returned (.tuple #[]) ∧ w = w' := by
  obtain ⟨RR, hRR⟩ : ∃ RR : Ending → World → Prop, RR = fun r w' => r = .returned (.tuple #[]) ∧ w = w' := ⟨_, rfl⟩
  have FIN := Lib.hid (show RR (.returned (.tuple #[])) w from by rw [hRR]; exact ⟨rfl, rfl⟩)
  rw [← hRR]
  clear hRR
  rename World => w9
  go_enter Tryd.func19, Tryd.ntmps19
  refine wp_forget (n := 29) (L := [(1, .string s), (0, .pointer none)]) (FrL.add (FrL.add (FrL.nil ?_ ?_) _ _ ?_) _ _ ?_) ?_
  iterate 4 rfl
  intro a9 F
  refine wp_seq ?_
  refine wp_region_lit ?_
  refine fr_ch F 16 [(19, .bool false)] (by kernel_rfl) ?_
  clear F a9
  intro a9 F
  refine wpList_nil ?_
  show Code.wp _ _ _ _ _
  refine wp_cond_false (F.ev 19 rfl) ?_
  refine wp_skip ?_
  exact bodyPost_end (results_void rfl _ _) F.defers FIN.out
set_option maxRecDepth 100000 in
set_option maxHeartbeats 4000000 in
theorem frame_Next_nil {w0 w : World} {B : List Box} (HK : Keep w0 B [] w) : Calls Tryd.prog 20 #[.pointer none] w fun r w' => r = .returned (.tuple #[.agg (pkV Pk.zero none 0), .bool false, .int .i64 8]) ∧ Below w0.heap.size w0 w' := by
  obtain ⟨RR, hRR⟩ : ∃ RR : Ending → World → Prop, RR = fun r w' => r = .returned (.tuple #[.agg (pkV Pk.zero none 0), .bool false, .int .i64 8]) ∧ Below w0.heap.size w0 w' := ⟨_, rfl⟩
  have FIN := Lib.hid (show ∀ w', Below w0.heap.size w0 w' → RR (.returned (.tuple #[.agg (pkV Pk.zero none 0), .bool false, .int .i64 8])) w' from fun w' h => by rw [hRR]; exact ⟨rfl, h⟩)
  rw [← hRR]
  clear hRR
  rename World => w9
  go_enter Tryd.func20, Tryd.ntmps20
  refine wp_forget (n := 75) (L := [(0, .pointer none)]) (FrL.add (FrL.nil ?_ ?_) _ _ ?_) ?_
  iterate 3 rfl
  intro a9 F
  refine wp_seq ?_
  refine wp_region_lit ?_
  obtain ⟨i0, hi, hz0, hz1, hz2⟩ := info_parts infoPkR
  refine fr_alloc F HK 2 (by decide) rfl 27 rfl rfl i0 _ hi hz0 ?_
  rintro V a10 w10 hX F' HK' hb
  clear HK F hb hX hi hz0 hz1 hz2 i0
  clear a9 w9
  rename World => w9
  rename Act => a9
  have HK := HK'
  have F := F'
  clear HK' F'
  replace HK : Keep w0 ((V, (pkV Pk.zero none 0), 27) :: B) [] w9 := HK
  refine fr_ch F 2 [(4, .int .i64 0), (3, .bool false)] (by kernel_rfl) ?_
  clear F a9
  intro a9 F
  refine wpList_nil ?_
  show Code.wp _ _ _ _ _
  replace F := F.cut [(4, .int .i64 0), (3, .bool false), (2, .pointer (some ⟨V, 0, none⟩)), (0, .pointer none)] (by kernel_rfl)
  refine wp_seq ?_
  refine wp_block ?_
  refine wp_seq ?_
  refine wp_region_lit ?_
  refine fr_ch F 10 [(6, .bool true), (8, .bool true)] (by kernel_rfl) ?_
  clear F a9
  intro a9 F
  refine wpList_nil ?_
  show Code.wp _ _ _ _ _
  refine wp_cond_true (F.ev 6 rfl) ?_
  replace F := F.cut [(4, .int .i64 0), (3, .bool false), (2, .pointer (some ⟨V, 0, none⟩)), (0, .pointer none)] (by kernel_rfl)
  refine wp_seq ?_
  refine wp_region_lit ?_
  refine fr_ch F 1 [(16, .agg (pkV Pk.zero none 0))] (by kernel_rfl) ?_
  clear F a9
  intro a9 F
  refine fr_storeO F HK 0 rfl rfl rfl 27 (.tmp 2) (.tmp 16) rfl (pkV Pk.zero none 0) (fun a' F' => F'.ev 2 rfl) (fun a' F' => F'.ev 16 rfl) infoPk rfl (pk_one _ _ _) ?_
  intro a10 w10 F' HK' HO2
  clear HK F HO2
  clear a9 w9
  rename World => w9
  rename Act => a9
  have HK := HK'
  have F := F'
  clear HK' F'
  replace HK : Keep w0 ((V, (pkV Pk.zero none 0), 27) :: B) [] w9 := HK
  refine fr_ch F 2 [(4, .int .i64 8), (3, .bool false)] (by kernel_rfl) ?_
  clear F a9
  intro a9 F
  refine wpList_nil ?_
  show Code.wp _ _ _ _ _
  refine wp_ret ?_
  exact fr_ret3 F rfl rfl (HK.at 0 rfl) Tryd.underlying27 rfl infoPk _ _ rfl rfl (FIN.out _ HK.low)
set_option maxRecDepth 100000 in
set_option maxHeartbeats 4000000 in
theorem frame_Push_zero {w0 w : World} {B : List Box} {X : Nat} (HK : Keep w0 ((X, frV 0 none 0 0 0, 54) :: B) [] w) (s : ByteArray) : Calls Tryd.prog 19 #[.pointer (some ⟨X, 0, none⟩), .string s] w fun r w' => r = .returned (.tuple #[]) ∧ w = w' := by
  obtain ⟨RR, hRR⟩ : ∃ RR : Ending → World → Prop, RR = fun r w' => r = .returned (.tuple #[]) ∧ w = w' := ⟨_, rfl⟩
  have FIN := Lib.hid (show RR (.returned (.tuple #[])) w from by rw [hRR]; exact ⟨rfl, rfl⟩)
  rw [← hRR]
  clear hRR
  rename World => w9
  go_enter Tryd.func19, Tryd.ntmps19
  refine wp_forget (n := 29) (L := [(1, .string s), (0, .pointer (some ⟨X, 0, none⟩))]) (FrL.add (FrL.add (FrL.nil ?_ ?_) _ _ ?_) _ _ ?_) ?_
  iterate 4 rfl
  intro a9 F
  refine wp_seq ?_
  refine wp_region_lit ?_
  refine fr_ch F 6 [(9, .pointer (some ⟨X, 0, none⟩)), (6, .bool true)] (by kernel_rfl) ?_
  clear F a9
  intro a9 F
  refine fr_do F (by rw [wanted_at F rfl (t := 6) (b := true) (by kernel_rfl) rfl]; rfl) 10 rfl (by decide) (.int .i64 ((0 : Nat) : Int)) (by intro a' F'; have hc : w9.cell? ⟨X, 0, none⟩ = some (.int .i64 ((0 : Nat) : Int)) := (HK.at 0 rfl).cells 0; have h9 := F'.at' 9 _ rfl; go_simp) ?_
  clear F a9
  intro a9 F
  refine fr_ch F 9 [(19, .bool false), (18, undef), (17, undef), (16, undef), (15, undef), (14, undef), (13, .bool false), (12, .bool false), (11, .bool false)] (by kernel_rfl) ?_
  clear F a9
  intro a9 F
  refine wpList_nil ?_
  show Code.wp _ _ _ _ _
  refine wp_cond_false (F.ev 19 rfl) ?_
  refine wp_skip ?_
  exact bodyPost_end (results_void rfl _ _) F.defers FIN.out
set_option maxRecDepth 100000 in
set_option maxHeartbeats 4000000 in
theorem frame_Next_zero {w0 w : World} {B : List Box} {X : Nat} (HBX : BoxAt w X (frV 0 none 0 0 0) 54) (HK : Keep w0 B [] w) : Calls Tryd.prog 20 #[.pointer (some ⟨X, 0, none⟩)] w fun r w' => r = .returned (.tuple #[.agg (pkV Pk.zero none 0), .bool false, .int .i64 8]) ∧ Below w0.heap.size w0 w' := by
  obtain ⟨RR, hRR⟩ : ∃ RR : Ending → World → Prop, RR = fun r w' => r = .returned (.tuple #[.agg (pkV Pk.zero none 0), .bool false, .int .i64 8]) ∧ Below w0.heap.size w0 w' := ⟨_, rfl⟩
  have FIN := Lib.hid (show ∀ w', Below w0.heap.size w0 w' → RR (.returned (.tuple #[.agg (pkV Pk.zero none 0), .bool false, .int .i64 8])) w' from fun w' h => by rw [hRR]; exact ⟨rfl, h⟩)
  rw [← hRR]
  clear hRR
  rename World => w9
  go_enter Tryd.func20, Tryd.ntmps20
  refine wp_forget (n := 75) (L := [(0, .pointer (some ⟨X, 0, none⟩))]) (FrL.add (FrL.nil ?_ ?_) _ _ ?_) ?_
  iterate 3 rfl
  intro a9 F
  refine wp_seq ?_
  refine wp_region_lit ?_
  obtain ⟨i0, hi, hz0, hz1, hz2⟩ := info_parts infoPkR
  refine fr_alloc F HK 2 (by decide) rfl 27 rfl rfl i0 _ hi hz0 ?_
  rintro V a10 w10 hX F' HK' hb
  have HXc := Lib.hid (HBX.below hb)
  clear HBX
  clear HK F hb hX hi hz0 hz1 hz2 i0
  clear a9 w9
  rename World => w9
  rename Act => a9
  have HK := HK'
  have F := F'
  clear HK' F'
  replace HK : Keep w0 ((V, (pkV Pk.zero none 0), 27) :: B) [] w9 := HK
  refine fr_ch F 2 [(4, .int .i64 0), (3, .bool false)] (by kernel_rfl) ?_
  clear F a9
  intro a9 F
  refine wpList_nil ?_
  show Code.wp _ _ _ _ _
  replace F := F.cut [(4, .int .i64 0), (3, .bool false), (2, .pointer (some ⟨V, 0, none⟩)), (0, .pointer (some ⟨X, 0, none⟩))] (by kernel_rfl)
  refine wp_seq ?_
  refine wp_block ?_
  refine wp_seq ?_
  refine wp_region_lit ?_
  refine fr_ch F 6 [(12, .pointer (some ⟨X, 0, none⟩)), (9, .bool false), (8, .bool false)] (by kernel_rfl) ?_
  clear F a9
  intro a9 F
  refine fr_do F (by rw [wanted_at F rfl (t := 9) (b := false) (by kernel_rfl) rfl]; rfl) 13 rfl (by decide) (.int .i64 ((0 : Nat) : Int)) (by intro a' F'; have h12 := F'.at' 12 _ rfl; have hc : w9.cell? ⟨X, 0, none⟩ = some (.int .i64 ((0 : Nat) : Int)) := HXc.out.cells 0; go_simp) ?_
  clear F a9
  intro a9 F
  refine fr_ch F 3 [(6, .bool true), (15, .bool true), (14, .bool true)] (by kernel_rfl) ?_
  clear F a9
  intro a9 F
  refine wpList_nil ?_
  show Code.wp _ _ _ _ _
  refine wp_cond_true (F.ev 6 rfl) ?_
  replace F := F.cut [(4, .int .i64 0), (3, .bool false), (2, .pointer (some ⟨V, 0, none⟩)), (0, .pointer (some ⟨X, 0, none⟩))] (by kernel_rfl)
  clear HXc
  refine wp_seq ?_
  refine wp_region_lit ?_
  refine fr_ch F 1 [(16, .agg (pkV Pk.zero none 0))] (by kernel_rfl) ?_
  clear F a9
  intro a9 F
  refine fr_storeO F HK 0 rfl rfl rfl 27 (.tmp 2) (.tmp 16) rfl (pkV Pk.zero none 0) (fun a' F' => F'.ev 2 rfl) (fun a' F' => F'.ev 16 rfl) infoPk rfl (pk_one _ _ _) ?_
  intro a10 w10 F' HK' HO2
  clear HK F HO2
  clear a9 w9
  rename World => w9
  rename Act => a9
  have HK := HK'
  have F := F'
  clear HK' F'
  replace HK : Keep w0 ((V, (pkV Pk.zero none 0), 27) :: B) [] w9 := HK
  refine fr_ch F 2 [(4, .int .i64 8), (3, .bool false)] (by kernel_rfl) ?_
  clear F a9
  intro a9 F
  refine wpList_nil ?_
  show Code.wp _ _ _ _ _
  refine wp_ret ?_
  exact fr_ret3 F rfl rfl (HK.at 0 rfl) Tryd.underlying27 rfl infoPk _ _ rfl rfl (FIN.out _ HK.low)
set_option maxRecDepth 100000 in
set_option maxHeartbeats 4000000 in
theorem frame_Left_nil (w : World) : Calls Tryd.prog 21 #[.pointer none] w fun r w' => r = .returned (.int .i64 0) ∧ w = w' := by
  obtain ⟨RR, hRR⟩ : ∃ RR : Ending → World → Prop, RR = fun r w' => r = .returned (.int .i64 0) ∧ w = w' := ⟨_, rfl⟩
  have FIN := Lib.hid (show RR (.returned (.int .i64 0)) w from by rw [hRR]; exact ⟨rfl, rfl⟩)
  rw [← hRR]
  clear hRR
  rename World => w9
  go_enter Tryd.func21, Tryd.ntmps21
  refine wp_forget (n := 10) (L := [(0, .pointer none)]) (FrL.add (FrL.nil ?_ ?_) _ _ ?_) ?_
  iterate 3 rfl
  intro a9 F
  refine wp_seq ?_
  refine wp_region_lit ?_
  refine fr_ch F 1 [(2, .int .i64 0)] (by kernel_rfl) ?_
  clear F a9
  intro a9 F
  refine wpList_nil ?_
  show Code.wp _ _ _ _ _
  replace F := F.cut [(2, .int .i64 0), (0, .pointer none)] (by kernel_rfl)
  refine wp_seq ?_
  refine wp_seq ?_
  refine wp_region_lit ?_
  refine fr_ch F 2 [(4, .bool true)] (by kernel_rfl) ?_
  clear F a9
  intro a9 F
  refine wpList_nil ?_
  show Code.wp _ _ _ _ _
  refine wp_cond_true (F.ev 4 rfl) ?_
  refine wp_seq ?_
  refine wp_region_lit ?_
  refine fr_ch F 1 [(2, .int .i64 0)] (by kernel_rfl) ?_
  clear F a9
  intro a9 F
  refine wpList_nil ?_
  show Code.wp _ _ _ _ _
  refine wp_ret ?_
  exact fr_ret1 F rfl _ rfl (FIN.out)
end Go.Proofs.YtfljdlaelanliaaDoor
