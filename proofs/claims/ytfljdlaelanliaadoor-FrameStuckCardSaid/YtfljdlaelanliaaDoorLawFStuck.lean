/- The walk of FrameStuck. Conditions: the decoder's tables lie as Go lays them; the pieces in their cells. -/
import Derived.Test.YtfljdlaelanliaaDoorFrameF
import Derived.Test.YtfljdlaelanliaaDoorFrameG
import Derived.Test.YtfljdlaelanliaaDoorPlainFrame3
import Derived.Test.YtfljdlaelanliaaDoorWriteAll
import Derived.Test.YtfljdlaelanliaaDoorWhole
namespace Go.Proofs.YtfljdlaelanliaaDoor
open Go.RowKit
theorem cells_range {w : World} {b o : Nat} {vs : List Value} (h : w.rangeAt b o vs) : CellsA w (some ⟨b, o, none⟩) vs := fun j v hv => ⟨b, o, rfl, h j v hv⟩
set_option maxRecDepth 100000 in
set_option maxHeartbeats 4000000 in
theorem fstuck_great (a : Option Addr) (ca : Nat) (A : List ByteArray) (s : ByteArray) (w : World) (hE : Env w) (ha : CellsA w a (A.map Value.string)) (hA : A.length ≤ 9223372036854775807) (i : Int) (hg : greatZ A = true) : Calls Tryd.prog 8 #[.int .i64 i, .slice a A.length ca, .string s] w fun e w' => e = .returned (.bool true) ∧ Below w.heap.size w w' := by
  have HGR := Lib.hid (show ∀ w9, CellsA w9 a (A.map Value.string) → Calls Tryd.prog 26 #[.slice a A.length ca] w9 fun e w' => e = .returned (.bool true) ∧ w9 = w' from fun w9 h1 => by
    have h2 := law06_Great a ca A w9 h1 hA
    rw [hg] at h2
    exact h2)
  have HRA := Lib.hid ha
  obtain ⟨RR, hRR⟩ : ∃ RR : Ending → World → Prop, RR = fun e w' => e = .returned (.bool true) ∧ Below w.heap.size w w' := ⟨_, rfl⟩
  have FIN := Lib.hid (show ∀ w', Below w.heap.size w w' → RR (.returned (.bool true)) w' from fun w' hb => by rw [hRR]; exact ⟨rfl, hb⟩)
  rw [← hRR]
  obtain ⟨w9, hw9⟩ : ∃ w9, w9 = w := ⟨_, rfl⟩
  have HK : Keep w [] [] w9 := by rw [hw9]; exact Keep.begin hE _ (by intro r hr; cases hr)
  suffices hgo : Calls Tryd.prog 8 #[.int .i64 i, .slice a A.length ca, .string s] w9 RR by rw [hw9] at hgo; exact hgo
  clear hw9 hRR hE ha hg
  go_enter Tryd.func8, Tryd.ntmps8
  refine wp_forget (n := 147) (L := [(2, .string s), (1, .slice a A.length ca), (0, .int .i64 i)]) (FrL.add (FrL.add (FrL.add (FrL.nil ?_ ?_) _ _ ?_) _ _ ?_) _ _ ?_) ?_
  iterate 5 rfl
  intro a9 F
  refine wp_seq ?_
  refine wp_region_lit ?_
  refine fr_ch F 1 [(6, .bool false)] (by kernel_rfl) ?_
  clear F a9
  intro a9 F
  refine wpList_nil ?_
  show Code.wp _ _ _ _ _
  replace F := F.cut [(2, .string s), (1, .slice a A.length ca), (0, .int .i64 i)] (by kernel_rfl)
  refine wp_seq ?_
  refine wp_seq ?_
  refine wp_region_lit ?_
  refine fr_ch F 1 [(15, .slice a A.length ca)] (by kernel_rfl) ?_
  clear F a9
  intro a9 F
  refine fr_call F (wanted_free rfl) 16 rfl (by decide) 26 #[.slice a A.length ca] (by intro a' F'; have h15 := F'.at' 15 _ rfl; go_simp) (HGR.out _ (HRA.out.below HK.low)) ?_
  rintro e9 w8 ⟨rfl, rfl⟩
  refine ⟨_, rfl, ?_⟩
  clear F a9
  intro a9 F
  refine fr_mv F (wanted_free rfl) 17 rfl (by decide) 16 rfl rfl ?_
  clear F a9
  intro a9 F
  refine fr_ch F 4 [(21, .bool true), (20, undef), (19, undef), (18, undef)] (by kernel_rfl) ?_
  clear F a9
  intro a9 F
  refine wpList_nil ?_
  show Code.wp _ _ _ _ _
  refine wp_cond_true (F.ev 21 rfl) ?_
  refine wp_seq ?_
  refine wp_region_lit ?_
  refine fr_call F (wanted_free rfl) 22 rfl (by decide) 25 #[] (by intro a' F'; go_simp) (law06_awake _ HK.env) ?_
  rintro e9 w8 ⟨rfl, hb8⟩
  replace HK := HK.below hb8
  clear hb8
  clear w9
  rename World => w9
  refine ⟨_, rfl, ?_⟩
  clear F a9
  intro a9 F
  refine fr_as F (wanted_free rfl) 6 rfl (by decide) 22 rfl rfl ?_
  clear F a9
  intro a9 F
  refine wpList_nil ?_
  show Code.wp _ _ _ _ _
  refine wp_ret ?_
  exact fr_ret1 F rfl _ rfl (FIN.out _ HK.low)
set_option maxRecDepth 100000 in
set_option maxHeartbeats 4000000 in
theorem fstuck_more (a : Option Addr) (ca : Nat) (A : List ByteArray) (s : ByteArray) (w : World) (hE : Env w) (ha : CellsA w a (A.map Value.string)) (hA : A.length ≤ 9223372036854775807) (i : Int) (hg : greatZ A = false) (hs : 20000 < s.size) : Calls Tryd.prog 8 #[.int .i64 i, .slice a A.length ca, .string s] w fun e w' => e = .returned (.bool true) ∧ Below w.heap.size w w' := by
  have HGR := Lib.hid (show ∀ w9, CellsA w9 a (A.map Value.string) → Calls Tryd.prog 26 #[.slice a A.length ca] w9 fun e w' => e = .returned (.bool false) ∧ w9 = w' from fun w9 h1 => by
    have h2 := law06_Great a ca A w9 h1 hA
    rw [hg] at h2
    exact h2)
  have HRA := Lib.hid ha
  obtain ⟨RR, hRR⟩ : ∃ RR : Ending → World → Prop, RR = fun e w' => e = .returned (.bool true) ∧ Below w.heap.size w w' := ⟨_, rfl⟩
  have FIN := Lib.hid (show ∀ w', Below w.heap.size w w' → RR (.returned (.bool true)) w' from fun w' hb => by rw [hRR]; exact ⟨rfl, hb⟩)
  rw [← hRR]
  obtain ⟨w9, hw9⟩ : ∃ w9, w9 = w := ⟨_, rfl⟩
  have HK : Keep w [] [] w9 := by rw [hw9]; exact Keep.begin hE _ (by intro r hr; cases hr)
  suffices hgo : Calls Tryd.prog 8 #[.int .i64 i, .slice a A.length ca, .string s] w9 RR by rw [hw9] at hgo; exact hgo
  clear hw9 hRR hE ha hg
  go_enter Tryd.func8, Tryd.ntmps8
  refine wp_forget (n := 147) (L := [(2, .string s), (1, .slice a A.length ca), (0, .int .i64 i)]) (FrL.add (FrL.add (FrL.add (FrL.nil ?_ ?_) _ _ ?_) _ _ ?_) _ _ ?_) ?_
  iterate 5 rfl
  intro a9 F
  refine wp_seq ?_
  refine wp_region_lit ?_
  refine fr_ch F 1 [(6, .bool false)] (by kernel_rfl) ?_
  clear F a9
  intro a9 F
  refine wpList_nil ?_
  show Code.wp _ _ _ _ _
  replace F := F.cut [(2, .string s), (1, .slice a A.length ca), (0, .int .i64 i)] (by kernel_rfl)
  refine wp_seq ?_
  refine wp_seq ?_
  refine wp_region_lit ?_
  refine fr_ch F 1 [(15, .slice a A.length ca)] (by kernel_rfl) ?_
  clear F a9
  intro a9 F
  refine fr_call F (wanted_free rfl) 16 rfl (by decide) 26 #[.slice a A.length ca] (by intro a' F'; have h15 := F'.at' 15 _ rfl; go_simp) (HGR.out _ (HRA.out.below HK.low)) ?_
  rintro e9 w8 ⟨rfl, rfl⟩
  refine ⟨_, rfl, ?_⟩
  clear F a9
  intro a9 F
  refine fr_mv F (wanted_free rfl) 17 rfl (by decide) 16 rfl rfl ?_
  clear F a9
  intro a9 F
  refine fr_mv F (by rw [wanted_at F rfl (t := 17) (b := false) (by kernel_rfl) rfl]; rfl) 18 rfl (by decide) 2 rfl rfl ?_
  clear F a9
  intro a9 F
  refine fr_ch F 1 [(19, .int .i64 (s.size : Int))] (by kernel_rfl) ?_
  clear F a9
  intro a9 F
  refine fr_do F (by rw [wanted_at F rfl (t := 17) (b := false) (by kernel_rfl) rfl]; rfl) 20 rfl (by decide) (.bool true) (by intro a' F'; have h19 := F'.at' 19 _ rfl; go_simp <;> omega) ?_
  clear F a9
  intro a9 F
  refine fr_ch F 1 [(21, .bool true)] (by kernel_rfl) ?_
  clear F a9
  intro a9 F
  refine wpList_nil ?_
  show Code.wp _ _ _ _ _
  refine wp_cond_true (F.ev 21 rfl) ?_
  refine wp_seq ?_
  refine wp_region_lit ?_
  refine fr_call F (wanted_free rfl) 22 rfl (by decide) 25 #[] (by intro a' F'; go_simp) (law06_awake _ HK.env) ?_
  rintro e9 w8 ⟨rfl, hb8⟩
  replace HK := HK.below hb8
  clear hb8
  clear w9
  rename World => w9
  refine ⟨_, rfl, ?_⟩
  clear F a9
  intro a9 F
  refine fr_as F (wanted_free rfl) 6 rfl (by decide) 22 rfl rfl ?_
  clear F a9
  intro a9 F
  refine wpList_nil ?_
  show Code.wp _ _ _ _ _
  refine wp_ret ?_
  exact fr_ret1 F rfl _ rfl (FIN.out _ HK.low)
set_option maxRecDepth 100000 in
set_option maxHeartbeats 4000000 in
theorem fstuck_none (a : Option Addr) (ca : Nat) (A : List ByteArray) (s : ByteArray) (w : World) (hE : Env w) (ha : CellsA w a (A.map Value.string)) (hA : A.length ≤ 9223372036854775807) (i : Int) (hi : i < 16 ∨ 65536 < i) (hg : greatZ A = false) (hs : s.size ≤ 20000) : Calls Tryd.prog 8 #[.int .i64 i, .slice a A.length ca, .string s] w fun e w' => e = .returned (.bool true) ∧ Below w.heap.size w w' := by
  have HGR := Lib.hid (show ∀ w9, CellsA w9 a (A.map Value.string) → Calls Tryd.prog 26 #[.slice a A.length ca] w9 fun e w' => e = .returned (.bool false) ∧ w9 = w' from fun w9 h1 => by
    have h2 := law06_Great a ca A w9 h1 hA
    rw [hg] at h2
    exact h2)
  have HRA := Lib.hid ha
  obtain ⟨RR, hRR⟩ : ∃ RR : Ending → World → Prop, RR = fun e w' => e = .returned (.bool true) ∧ Below w.heap.size w w' := ⟨_, rfl⟩
  have FIN := Lib.hid (show ∀ w', Below w.heap.size w w' → RR (.returned (.bool true)) w' from fun w' hb => by rw [hRR]; exact ⟨rfl, hb⟩)
  rw [← hRR]
  obtain ⟨w9, hw9⟩ : ∃ w9, w9 = w := ⟨_, rfl⟩
  have HK : Keep w [] [] w9 := by rw [hw9]; exact Keep.begin hE _ (by intro r hr; cases hr)
  suffices hgo : Calls Tryd.prog 8 #[.int .i64 i, .slice a A.length ca, .string s] w9 RR by rw [hw9] at hgo; exact hgo
  clear hw9 hRR hE ha hg
  go_enter Tryd.func8, Tryd.ntmps8
  refine wp_forget (n := 147) (L := [(2, .string s), (1, .slice a A.length ca), (0, .int .i64 i)]) (FrL.add (FrL.add (FrL.add (FrL.nil ?_ ?_) _ _ ?_) _ _ ?_) _ _ ?_) ?_
  iterate 5 rfl
  intro a9 F
  refine wp_seq ?_
  refine wp_region_lit ?_
  refine fr_ch F 1 [(6, .bool false)] (by kernel_rfl) ?_
  clear F a9
  intro a9 F
  refine wpList_nil ?_
  show Code.wp _ _ _ _ _
  replace F := F.cut [(2, .string s), (1, .slice a A.length ca), (0, .int .i64 i)] (by kernel_rfl)
  refine wp_seq ?_
  refine wp_seq ?_
  refine wp_region_lit ?_
  refine fr_ch F 1 [(15, .slice a A.length ca)] (by kernel_rfl) ?_
  clear F a9
  intro a9 F
  refine fr_call F (wanted_free rfl) 16 rfl (by decide) 26 #[.slice a A.length ca] (by intro a' F'; have h15 := F'.at' 15 _ rfl; go_simp) (HGR.out _ (HRA.out.below HK.low)) ?_
  rintro e9 w8 ⟨rfl, rfl⟩
  refine ⟨_, rfl, ?_⟩
  clear F a9
  intro a9 F
  refine fr_mv F (wanted_free rfl) 17 rfl (by decide) 16 rfl rfl ?_
  clear F a9
  intro a9 F
  refine fr_mv F (by rw [wanted_at F rfl (t := 17) (b := false) (by kernel_rfl) rfl]; rfl) 18 rfl (by decide) 2 rfl rfl ?_
  clear F a9
  intro a9 F
  refine fr_ch F 1 [(19, .int .i64 (s.size : Int))] (by kernel_rfl) ?_
  clear F a9
  intro a9 F
  refine fr_do F (by rw [wanted_at F rfl (t := 17) (b := false) (by kernel_rfl) rfl]; rfl) 20 rfl (by decide) (.bool false) (by intro a' F'; have h19 := F'.at' 19 _ rfl; go_simp <;> omega) ?_
  clear F a9
  intro a9 F
  refine fr_ch F 1 [(21, .bool false)] (by kernel_rfl) ?_
  clear F a9
  intro a9 F
  refine wpList_nil ?_
  show Code.wp _ _ _ _ _
  refine wp_cond_false (F.ev 21 rfl) ?_
  refine wp_skip ?_
  show Code.wp _ _ _ _ _
  replace F := F.cut [(2, .string s), (1, .slice a A.length ca), (0, .int .i64 i)] (by kernel_rfl)
  refine wp_seq ?_
  refine wp_region_lit ?_
  refine fr_ch F 1 [(23, .int .i64 i)] (by kernel_rfl) ?_
  clear F a9
  intro a9 F
  refine fr_call F (wanted_free rfl) 24 rfl (by decide) 18 #[.int .i64 i] (by intro a' F'; have h23 := F'.at' 23 _ rfl; go_simp) (frame_New_no i hi w9) ?_
  rintro e9 w8 ⟨rfl, rfl⟩
  refine ⟨_, rfl, ?_⟩
  clear F a9
  intro a9 F
  refine fr_as F (wanted_free rfl) 7 rfl (by decide) 24 rfl rfl ?_
  clear F a9
  intro a9 F
  refine wpList_nil ?_
  show Code.wp _ _ _ _ _
  replace F := F.cut [(7, .pointer none)] (by kernel_rfl)
  refine wp_seq ?_
  refine wp_seq ?_
  refine wp_region_lit ?_
  refine fr_ch F 2 [(26, .bool true)] (by kernel_rfl) ?_
  clear F a9
  intro a9 F
  refine wpList_nil ?_
  show Code.wp _ _ _ _ _
  refine wp_cond_true (F.ev 26 rfl) ?_
  refine wp_seq ?_
  refine wp_region_lit ?_
  refine fr_call F (wanted_free rfl) 27 rfl (by decide) 25 #[] (by intro a' F'; go_simp) (law06_awake _ HK.env) ?_
  rintro e9 w8 ⟨rfl, hb8⟩
  replace HK := HK.below hb8
  clear hb8
  clear w9
  rename World => w9
  refine ⟨_, rfl, ?_⟩
  clear F a9
  intro a9 F
  refine fr_as F (wanted_free rfl) 6 rfl (by decide) 27 rfl rfl ?_
  clear F a9
  intro a9 F
  refine wpList_nil ?_
  show Code.wp _ _ _ _ _
  refine wp_ret ?_
  exact fr_ret1 F rfl _ rfl (FIN.out _ HK.low)
set_option maxRecDepth 100000 in
set_option maxHeartbeats 4000000 in
theorem fstuck_good (a : Option Addr) (ca : Nat) (A : List ByteArray) (s : ByteArray) (w : World) (hE : Env w) (ha : CellsA w a (A.map Value.string)) (hA : A.length ≤ 9223372036854775807) (m : Nat) (h1 : 16 ≤ m) (h2 : m ≤ 65536) (hg : greatZ A = false) (hs : s.size ≤ 20000) : Calls Tryd.prog 8 #[.int .i64 (m : Int), .slice a A.length ca, .string s] w fun e w' => e = .returned (.bool true) ∧ Below w.heap.size w w' := by
  have hsz := great_sum hg
  have HB0 : ∀ x ∈ ([] : List Box), x.2.2 ≠ 5 := by intro x hx; cases hx
  have HGR := Lib.hid (show ∀ w9, CellsA w9 a (A.map Value.string) → Calls Tryd.prog 26 #[.slice a A.length ca] w9 fun e w' => e = .returned (.bool false) ∧ w9 = w' from fun w9 h1 => by
    have h2 := law06_Great a ca A w9 h1 hA
    rw [hg] at h2
    exact h2)
  have HRA := Lib.hid ha
  obtain ⟨RR, hRR⟩ : ∃ RR : Ending → World → Prop, RR = fun e w' => e = .returned (.bool true) ∧ Below w.heap.size w w' := ⟨_, rfl⟩
  have FIN := Lib.hid (show ∀ w', Below w.heap.size w w' → RR (.returned (.bool true)) w' from fun w' hb => by rw [hRR]; exact ⟨rfl, hb⟩)
  rw [← hRR]
  obtain ⟨w9, hw9⟩ : ∃ w9, w9 = w := ⟨_, rfl⟩
  have HK : Keep w [] [] w9 := by rw [hw9]; exact Keep.begin hE _ (by intro r hr; cases hr)
  suffices hgo : Calls Tryd.prog 8 #[.int .i64 (m : Int), .slice a A.length ca, .string s] w9 RR by rw [hw9] at hgo; exact hgo
  clear hw9 hRR hE ha hg
  go_enter Tryd.func8, Tryd.ntmps8
  refine wp_forget (n := 147) (L := [(2, .string s), (1, .slice a A.length ca), (0, .int .i64 (m : Int))]) (FrL.add (FrL.add (FrL.add (FrL.nil ?_ ?_) _ _ ?_) _ _ ?_) _ _ ?_) ?_
  iterate 5 rfl
  intro a9 F
  refine wp_seq ?_
  refine wp_region_lit ?_
  refine fr_ch F 1 [(6, .bool false)] (by kernel_rfl) ?_
  clear F a9
  intro a9 F
  refine wpList_nil ?_
  show Code.wp _ _ _ _ _
  replace F := F.cut [(2, .string s), (1, .slice a A.length ca), (0, .int .i64 (m : Int))] (by kernel_rfl)
  refine wp_seq ?_
  refine wp_seq ?_
  refine wp_region_lit ?_
  refine fr_ch F 1 [(15, .slice a A.length ca)] (by kernel_rfl) ?_
  clear F a9
  intro a9 F
  refine fr_call F (wanted_free rfl) 16 rfl (by decide) 26 #[.slice a A.length ca] (by intro a' F'; have h15 := F'.at' 15 _ rfl; go_simp) (HGR.out _ (HRA.out.below HK.low)) ?_
  rintro e9 w8 ⟨rfl, rfl⟩
  refine ⟨_, rfl, ?_⟩
  clear F a9
  intro a9 F
  refine fr_mv F (wanted_free rfl) 17 rfl (by decide) 16 rfl rfl ?_
  clear F a9
  intro a9 F
  refine fr_mv F (by rw [wanted_at F rfl (t := 17) (b := false) (by kernel_rfl) rfl]; rfl) 18 rfl (by decide) 2 rfl rfl ?_
  clear F a9
  intro a9 F
  refine fr_ch F 1 [(19, .int .i64 (s.size : Int))] (by kernel_rfl) ?_
  clear F a9
  intro a9 F
  refine fr_do F (by rw [wanted_at F rfl (t := 17) (b := false) (by kernel_rfl) rfl]; rfl) 20 rfl (by decide) (.bool false) (by intro a' F'; have h19 := F'.at' 19 _ rfl; go_simp <;> omega) ?_
  clear F a9
  intro a9 F
  refine fr_ch F 1 [(21, .bool false)] (by kernel_rfl) ?_
  clear F a9
  intro a9 F
  refine wpList_nil ?_
  show Code.wp _ _ _ _ _
  refine wp_cond_false (F.ev 21 rfl) ?_
  refine wp_skip ?_
  show Code.wp _ _ _ _ _
  replace F := F.cut [(2, .string s), (1, .slice a A.length ca), (0, .int .i64 (m : Int))] (by kernel_rfl)
  refine wp_seq ?_
  refine wp_region_lit ?_
  refine fr_ch F 1 [(23, .int .i64 (m : Int))] (by kernel_rfl) ?_
  clear F a9
  intro a9 F
  refine fr_call F (wanted_free rfl) 24 rfl (by decide) 18 #[.int .i64 (m : Int)] (by intro a' F'; have h23 := F'.at' 23 _ rfl; go_simp) (frame_New m h1 h2 HK) ?_
  rintro e9 w8 ⟨X, rfl, HFC, hb8⟩
  clear HK hb8
  clear w9
  rename World => w9
  refine ⟨_, rfl, ?_⟩
  clear F a9
  intro a9 F
  refine fr_as F (wanted_free rfl) 7 rfl (by decide) 24 rfl rfl ?_
  clear F a9
  intro a9 F
  refine wpList_nil ?_
  show Code.wp _ _ _ _ _
  replace F := F.cut [(7, .pointer (some ⟨X, 0, none⟩)), (2, .string s), (1, .slice a A.length ca)] (by kernel_rfl)
  refine wp_seq ?_
  refine wp_seq ?_
  refine wp_region_lit ?_
  refine fr_ch F 2 [(26, .bool false), (25, .pointer (some ⟨X, 0, none⟩))] (by kernel_rfl) ?_
  clear F a9
  intro a9 F
  refine wpList_nil ?_
  show Code.wp _ _ _ _ _
  refine wp_cond_false (F.ev 26 rfl) ?_
  refine wp_skip ?_
  show Code.wp _ _ _ _ _
  replace F := F.cut [(7, .pointer (some ⟨X, 0, none⟩)), (2, .string s), (1, .slice a A.length ca)] (by kernel_rfl)
  refine wp_seq ?_
  refine wp_region_lit ?_
  refine fr_ch F 1 [(8, .int .i64 0)] (by kernel_rfl) ?_
  clear F a9
  intro a9 F
  refine wpList_nil ?_
  show Code.wp _ _ _ _ _
  refine wp_seq ?_
  refine wp_seq ?_
  refine wp_region_lit ?_
  refine fr_ch F 1 [(9, .int .i64 0)] (by kernel_rfl) ?_
  clear F a9
  intro a9 F
  refine wpList_nil ?_
  show Code.wp _ _ _ _ _
  replace F := F.cut [(9, .int .i64 0), (8, .int .i64 0), (7, .pointer (some ⟨X, 0, none⟩)), (2, .string s), (1, .slice a A.length ca)] (by kernel_rfl)
  refine wp_block_end (fun a' w' => (∃ k : Nat, FrL 147 [(9, .int .i64 (k : Int)), (8, .int .i64 (sumZ A : Int)), (7, .pointer (some ⟨X, 0, none⟩)), (2, .string s), (1, .slice a A.length ca)] a') ∧ FrC w [] X m (catZ A) 0 w') ?_ ?_
  · skip
    refine wp_loop (fun a' w' => ∃ (k : Nat), k ≤ A.length ∧ FrL 147 [(9, .int .i64 (k : Int)), (8, .int .i64 (sumZ (A.take k) : Int)), (7, .pointer (some ⟨X, 0, none⟩)), (2, .string s), (1, .slice a A.length ca)] a' ∧ FrC w [] X m (catZ (A.take (k))) 0 w') (fun a' _ => muI A.length 9 a') ⟨0, Nat.zero_le _, F, HFC⟩ ?_
    clear F HFC a9 w9
    rintro a9 w9 ⟨k, hk, F, HFC⟩
    rw [muI_at F 9 k rfl]
    refine wp_seq ?_
    refine wp_seq ?_
    by_cases hlt : k < A.length
    · skip
      refine wp_region_lit ?_
      refine fr_mv F (wanted_free rfl) 28 rfl (by decide) 9 rfl rfl ?_
      clear F a9
      intro a9 F
      refine fr_mv F (wanted_free rfl) 29 rfl (by decide) 1 rfl rfl ?_
      clear F a9
      intro a9 F
      refine fr_ch F 1 [(30, .int .i64 (A.length : Int))] (by kernel_rfl) ?_
      clear F a9
      intro a9 F
      refine fr_do F (wanted_free rfl) 31 rfl (by decide) (.bool true) (by intro a' F'; have h28 := F'.at' 28 _ rfl; have h30 := F'.at' 30 _ rfl; go_simp) ?_
      clear F a9
      intro a9 F
      refine wpList_nil ?_
      show Code.wp _ _ _ _ _
      refine wp_cond_true (F.ev 31 rfl) ?_
      refine wp_skip ?_
      show Code.wp _ _ _ _ _
      replace F := F.cut [(9, .int .i64 (k : Int)), (8, .int .i64 (sumZ (A.take k) : Int)), (7, .pointer (some ⟨X, 0, none⟩)), (2, .string s), (1, .slice a A.length ca)] (by kernel_rfl)
      obtain ⟨x, hx⟩ : ∃ x, A[k]? = some x := ⟨_, List.getElem?_eq_getElem hlt⟩
      obtain ⟨bb, oo, hal, hc0⟩ := HRA.out k (.string x) (by rw [List.getElem?_map, hx]; rfl)
      have HC := Lib.hid (show ∀ w9, Below w.heap.size w w9 → w9.cell? ⟨bb, oo + k, none⟩ = some (.string x) from fun w9 hb => (hb.cell (p := ⟨bb, oo + k, none⟩) (World.block_lt_of_cell? _ _ hc0)).trans hc0)
      have HCAT := Lib.hid (catZ_snoc hx)
      have hsn := sumZ_snoc hx
      have hst := sumZ_take A (k + 1)
      have hcl := catZ_len (A.take k)
      clear hc0 hx
      refine wp_seq ?_
      refine wp_block_end (fun a' w' => FrL 147 [(9, .int .i64 (k : Int)), (8, .int .i64 (sumZ (A.take (k + 1)) : Int)), (7, .pointer (some ⟨X, 0, none⟩)), (2, .string s), (1, .slice a A.length ca)] a' ∧ FrC w [] X m (catZ (A.take (k + 1))) 0 w') ?_ ?_
      · skip
        refine wp_seq ?_
        refine wp_region_lit ?_
        refine fr_ch F 3 [(36, .int .i64 (k : Int)), (35, .slice a A.length ca), (34, .pointer (some ⟨X, 0, none⟩))] (by kernel_rfl) ?_
        clear F a9
        intro a9 F
        refine fr_do F (wanted_free rfl) 37 rfl (by decide) (.pointer (some ⟨bb, oo + k, none⟩)) (by intro a' F'; have h35 := F'.at' 35 _ rfl; have h36 := F'.at' 36 _ rfl; go_simp) ?_
        clear F a9
        intro a9 F
        refine fr_do F (wanted_free rfl) 38 rfl (by decide) (.string x) (by intro a' F'; have h37 := F'.at' 37 _ rfl; have hc := HC.out _ HFC.low; go_simp) ?_
        clear F a9
        intro a9 F
        refine fr_call F (wanted_free rfl) 39 rfl (by decide) 19 #[.pointer (some ⟨X, 0, none⟩), .string x] (by intro a' F'; have h34 := F'.at' 34 _ rfl; have h38 := F'.at' 38 _ rfl; go_simp) (frame_Push HFC (by omega) HB0 x (by omega)) ?_
        rintro e9 w8 ⟨rfl, hfc, hon⟩
        clear HFC hon
        clear w9
        rename World => w9
        have HFC := hfc
        clear hfc
        rw [← HCAT.out] at HFC
        refine ⟨_, rfl, ?_⟩
        clear F a9
        intro a9 F
        refine wpList_nil ?_
        show Code.wp _ _ _ _ _
        replace F := F.cut [(9, .int .i64 (k : Int)), (8, .int .i64 (sumZ (A.take k) : Int)), (7, .pointer (some ⟨X, 0, none⟩)), (2, .string s), (1, .slice a A.length ca)] (by kernel_rfl)
        refine wp_region_lit ?_
        refine fr_ch F 3 [(42, .int .i64 (k : Int)), (41, .slice a A.length ca), (40, .int .i64 (sumZ (A.take k) : Int))] (by kernel_rfl) ?_
        clear F a9
        intro a9 F
        refine fr_do F (wanted_free rfl) 43 rfl (by decide) (.pointer (some ⟨bb, oo + k, none⟩)) (by intro a' F'; have h41 := F'.at' 41 _ rfl; have h42 := F'.at' 42 _ rfl; go_simp) ?_
        clear F a9
        intro a9 F
        refine fr_do F (wanted_free rfl) 44 rfl (by decide) (.string x) (by intro a' F'; have h43 := F'.at' 43 _ rfl; have hc := HC.out _ HFC.low; go_simp) ?_
        clear F a9
        intro a9 F
        refine fr_ch F 1 [(45, .int .i64 (x.size : Int))] (by kernel_rfl) ?_
        clear F a9
        intro a9 F
        refine fr_do F (wanted_free rfl) 46 rfl (by decide) (.int .i64 (sumZ (A.take (k + 1)) : Int)) (by intro a' F'; have h40 := F'.at' 40 _ rfl; have h45 := F'.at' 45 _ rfl; go_simp <;> (rw [IntKind.wrap_i64]; omega)) ?_
        clear F a9
        intro a9 F
        refine fr_ch F 1 [(8, .int .i64 (sumZ (A.take (k + 1)) : Int))] (by kernel_rfl) ?_
        clear F a9
        intro a9 F
        refine wpList_nil ?_
        exact ⟨((((((FrL.nil F.size F.defers).add 1 _ (F.at' 1 _ rfl)).add 2 _ (F.at' 2 _ rfl)).add 7 _ (F.at' 7 _ rfl)).add 8 _ (F.at' 8 _ rfl)).add 9 _ (F.at' 9 _ rfl)), HFC⟩
      · clear F HFC HC HCAT hsn hcl a9 w9
        rintro a9 w9 ⟨F, HFC⟩
        show Code.wp _ _ _ _ _
        refine wp_region_lit ?_
        refine fr_mv F (wanted_free rfl) 32 rfl (by decide) 9 rfl rfl ?_
        clear F a9
        intro a9 F
        refine fr_do F (wanted_free rfl) 33 rfl (by decide) (.int .i64 ((k + 1 : Nat) : Int)) (by intro a' F'; have h32 := F'.at' 32 _ rfl; go_simp <;> (rw [IntKind.wrap_i64]; omega)) ?_
        clear F a9
        intro a9 F
        refine fr_ch F 1 [(9, .int .i64 ((k + 1 : Nat) : Int))] (by kernel_rfl) ?_
        clear F a9
        intro a9 F
        refine wpList_nil ?_
        replace F := F.cut [(9, .int .i64 ((k + 1 : Nat) : Int)), (8, .int .i64 (sumZ (A.take (k + 1)) : Int)), (7, .pointer (some ⟨X, 0, none⟩)), (2, .string s), (1, .slice a A.length ca)] (by kernel_rfl)
        refine ⟨⟨k + 1, by omega, F, HFC⟩, ?_⟩
        rw [muI_at F 9 (k + 1) rfl]
        omega
    · have hk2 : k = A.length := by omega
      subst hk2
      refine wp_region_lit ?_
      refine fr_mv F (wanted_free rfl) 28 rfl (by decide) 9 rfl rfl ?_
      clear F a9
      intro a9 F
      refine fr_ch F 2 [(30, .int .i64 (A.length : Int))] (by kernel_rfl) ?_
      clear F a9
      intro a9 F
      refine fr_do F (wanted_free rfl) 31 rfl (by decide) (.bool false) (by intro a' F'; have h28 := F'.at' 28 _ rfl; have h30 := F'.at' 30 _ rfl; go_simp) ?_
      clear F a9
      intro a9 F
      refine wpList_nil ?_
      show Code.wp _ _ _ _ _
      rw [List.take_length] at HFC
      have htl : A.take A.length = A := List.take_length
      refine wp_cond_false (F.ev 31 rfl) ?_
      refine wp_exit ?_
      exact then_exit (then_exit (exit_in ⟨⟨A.length, by rw [htl] at F; exact ((((((FrL.nil F.size F.defers).add 1 _ (F.at' 1 _ rfl)).add 2 _ (F.at' 2 _ rfl)).add 7 _ (F.at' 7 _ rfl)).add 8 _ (F.at' 8 _ rfl)).add 9 _ (F.at' 9 _ rfl))⟩, HFC⟩))
  · clear F HFC a9 w9
    rintro a9 w9 ⟨⟨kk, F⟩, HFC⟩
    show Code.wp _ _ _ _ _
    obtain ⟨L, hL⟩ : ∃ L, catZ A = L := ⟨_, rfl⟩
    have hll : L.length = sumZ A := by rw [← hL]; exact catZ_len A
    rw [hL] at HFC
    obtain ⟨Z, hZ⟩ : ∃ Z, sumZ A = Z := ⟨_, rfl⟩
    rw [hZ] at F hll hsz
    have hcnt : (tellR m L).1.length ≤ 70000 := by have := tell_len m L.length L (Nat.le_refl _); omega
    have HOK := Lib.hid (tell_ok m L.length L (Nat.le_refl _) (by omega))
    have HSZ := Lib.hid (tell_size m L.length L (Nat.le_refl _) (by omega))
    have HER := Lib.hid (tell_errs m L.length L (Nat.le_refl _))
    have HEM := Lib.hid (tell_err m L.length L (Nat.le_refl _))
    have HDR := Lib.hid (show ∀ w9, FrC w [] X m L 0 w9 → Calls Tryd.prog 23 #[.pointer (some ⟨X, 0, none⟩)] w9 (RetDr w [] X m (toldR m L) (tellR m L).2.1 (tellR m L).2.2 w9) from fun w9 h => drain_free h (by omega) (by omega) HB0 (by intro x hx; cases hx) hcnt)
    have HTA := Lib.hid (fun (T : List TdE) (h : T.map tp = toldR m L) => told_at h)
    have HTE := Lib.hid (fun (T : List TdE) (h : T.map tp = toldR m L) => told_end h)
    obtain ⟨P, hP⟩ : ∃ P, (tellR m L).1 = P := ⟨_, rfl⟩
    obtain ⟨Lf, hLf⟩ : ∃ Lf, (tellR m L).2.1 = Lf := ⟨_, rfl⟩
    obtain ⟨er, her⟩ : ∃ er, (tellR m L).2.2 = er := ⟨_, rfl⟩
    have HPT := Lib.hid (And.intro hP (And.intro hLf her))
    rw [hP] at HOK HTA HTE hcnt
    rw [hP, hLf] at HSZ
    rw [her] at HER HTA HTE
    rw [hLf, her] at HDR HEM
    clear hP hLf her hL hZ
    have hlf : Lf.length ≤ 20000 := by have := HSZ.out; omega
    replace F := F.cut [(8, .int .i64 (Z : Int)), (7, .pointer (some ⟨X, 0, none⟩)), (2, .string s)] (by kernel_rfl)
    refine wp_seq ?_
    refine wp_region_lit ?_
    refine fr_ch F 1 [(47, .pointer (some ⟨X, 0, none⟩))] (by kernel_rfl) ?_
    clear F a9
    intro a9 F
    refine fr_call F (wanted_free rfl) 48 rfl (by decide) 23 #[.pointer (some ⟨X, 0, none⟩)] (by intro a' F'; have h47 := F'.at' 47 _ rfl; go_simp) (HDR.out _ HFC) ?_
    rintro e9 w8 ⟨T, aT, cT, rfl, HT, HS, hTm, hfc, hon⟩
    obtain ⟨B9, hB9⟩ : ∃ B9, w9.heap.size = B9 := ⟨_, rfl⟩
    rw [hB9] at HT HS
    clear HFC hon hB9 HDR
    clear w9
    rename World => w9
    have HFC := hfc
    clear hfc
    have HTA2 := Lib.hid (HTA.out T hTm)
    have HTE2 := Lib.hid (HTE.out T hTm)
    clear HTA HTE hTm
    have HTA := HTA2
    have HTE := HTE2
    clear HTA2 HTE2
    have hTn := told_len HTE.out
    refine ⟨_, rfl, ?_⟩
    clear F a9
    intro a9 F
    refine fr_as F (wanted_free rfl) 10 rfl (by decide) 48 rfl rfl ?_
    clear F a9
    intro a9 F
    refine wpList_nil ?_
    show Code.wp _ _ _ _ _
    replace F := F.cut [(10, .slice aT T.length cT), (8, .int .i64 (Z : Int)), (7, .pointer (some ⟨X, 0, none⟩)), (2, .string s)] (by kernel_rfl)
    refine wp_seq ?_
    refine wp_region_lit ?_
    refine fr_ch F 1 [(11, .int .i64 0)] (by kernel_rfl) ?_
    clear F a9
    intro a9 F
    refine wpList_nil ?_
    show Code.wp _ _ _ _ _
    refine wp_seq ?_
    refine wp_seq ?_
    refine wp_region_lit ?_
    refine fr_ch F 1 [(12, .int .i64 0)] (by kernel_rfl) ?_
    clear F a9
    intro a9 F
    refine wpList_nil ?_
    show Code.wp _ _ _ _ _
    replace F := F.cut [(12, .int .i64 0), (11, .int .i64 0), (10, .slice aT T.length cT), (8, .int .i64 (Z : Int)), (7, .pointer (some ⟨X, 0, none⟩)), (2, .string s)] (by kernel_rfl)
    refine wp_block_end (fun a' w' => (∃ k : Nat, FrL 147 [(12, .int .i64 (k : Int)), (11, .int .i64 (usedS P : Int)), (10, .slice aT T.length cT), (8, .int .i64 (Z : Int)), (7, .pointer (some ⟨X, 0, none⟩)), (2, .string s)] a') ∧ FrC w [] X m Lf 0 w' ∧ er = 0) ?_ ?_
    · skip
      refine wp_loop (fun a' w' => ∃ (k : Nat), k ≤ T.length ∧ FrL 147 [(12, .int .i64 (k : Int)), (11, .int .i64 (usedS (P.take k) : Int)), (10, .slice aT T.length cT), (8, .int .i64 (Z : Int)), (7, .pointer (some ⟨X, 0, none⟩)), (2, .string s)] a' ∧ FrC w [] X m Lf er w' ∧ w'.ownsRow B9 51 25 (.slice aT T.length cT) T.length (tdCells T) ∧ SubsIn w' B9 T ∧ (∀ y ∈ T.take (k), y.2 = 0)) (fun a' _ => muI T.length 12 a') ⟨0, Nat.zero_le _, F, HFC, HT, HS, (by intro y hy; simp at hy)⟩ ?_
      clear F HFC HT HS a9 w9
      rintro a9 w9 ⟨k, hk, F, HFC, HT, HS, hz⟩
      rw [muI_at F 12 k rfl]
      have HZ := Lib.hid hz
      clear hz
      refine wp_seq ?_
      refine wp_seq ?_
      by_cases hlt : k < T.length
      · skip
        refine wp_region_lit ?_
        refine fr_mv F (wanted_free rfl) 49 rfl (by decide) 12 rfl rfl ?_
        clear F a9
        intro a9 F
        refine fr_mv F (wanted_free rfl) 50 rfl (by decide) 10 rfl rfl ?_
        clear F a9
        intro a9 F
        refine fr_ch F 1 [(51, .int .i64 (T.length : Int))] (by kernel_rfl) ?_
        clear F a9
        intro a9 F
        refine fr_do F (wanted_free rfl) 52 rfl (by decide) (.bool true) (by intro a' F'; have h49 := F'.at' 49 _ rfl; have h51 := F'.at' 51 _ rfl; go_simp) ?_
        clear F a9
        intro a9 F
        refine wpList_nil ?_
        show Code.wp _ _ _ _ _
        refine wp_cond_true (F.ev 52 rfl) ?_
        refine wp_skip ?_
        show Code.wp _ _ _ _ _
        replace F := F.cut [(12, .int .i64 (k : Int)), (11, .int .i64 (usedS (P.take k) : Int)), (10, .slice aT T.length cT), (8, .int .i64 (Z : Int)), (7, .pointer (some ⟨X, 0, none⟩)), (2, .string s)] (by kernel_rfl)
        obtain ⟨x, hx⟩ : ∃ x, T[k]? = some x := ⟨_, List.getElem?_eq_getElem hlt⟩
        have HX := Lib.hid hx
        have htc : T.length ≤ cT := by obtain ⟨a3, c3, h3, h4, _⟩ := own_form HT; injection h3 with _ _ h3; rw [h3]; exact h4
        obtain ⟨bb, oo, hal, hr1, hr2⟩ := td_range (own_cells HT) hx
        clear hr1 hr2
        have HRG := Lib.hid (show ∀ w9 : World, w9.ownsRow B9 51 25 (.slice aT T.length cT) T.length (tdCells T) → w9.rangeAt bb (oo + k * 25) (tdC x) from fun w9 h => by
          obtain ⟨b2, o2, h3, h4, _⟩ := td_range (own_cells h) HX.out
          rw [hal] at h3
          injection h3 with h3
          injection h3 with h5 h6 _
          rw [h5, h6]
          exact h4)
        have HTX := Lib.hid (HTA.out k x hx)
        have HSX := Lib.hid (show ∀ w9, SubsIn w9 B9 T → CellsA w9 x.1.2.1 (subCells x.1.1.subs) from fun w9 h => own_cells (h x (List.mem_of_getElem? HX.out)))
        clear hx
        obtain ⟨⟨p, pa, pc⟩, e⟩ := x
        simp only at HSX
        refine wp_seq ?_
        refine wp_block_end (fun a' w' => FrL 147 [(12, .int .i64 (k : Int)), (11, .int .i64 (usedS (P.take (k + 1)) : Int)), (10, .slice aT T.length cT), (8, .int .i64 (Z : Int)), (7, .pointer (some ⟨X, 0, none⟩)), (2, .string s)] a' ∧ FrC w [] X m Lf er w' ∧ w'.ownsRow B9 51 25 (.slice aT T.length cT) T.length (tdCells T) ∧ SubsIn w' B9 T ∧ (∀ y ∈ T.take (k + 1), y.2 = 0) ∧ e = 0 ∧ k + 1 ≤ T.length) ?_ ?_
        · skip
          by_cases he0 : e = 0
          · subst he0
            obtain ⟨hpk, hkP⟩ : P[k]? = some p ∧ k < P.length := by
              rcases HTX.out with ⟨_, h4, h5⟩ | ⟨h4, _⟩
              · exact ⟨h4, h5⟩
              · exact absurd rfl h4
            have HPO := Lib.hid (HOK.out p (List.mem_of_getElem? hpk))
            have hus := usedS_snoc hpk
            have hut := usedS_take P (k + 1)
            have hsz2 := HSZ.out
            clear hpk
            have HZ2 := Lib.hid (show ∀ y ∈ T.take (k + 1), y.2 = 0 from by
              have h3 : T.take (k + 1) = T.take k ++ [((p, pa, pc), 0)] := by rw [List.take_add_one, HX.out]; rfl
              rw [h3]
              intro y hy
              rcases List.mem_append.1 hy with hy | hy
              · exact HZ.out y hy
              · simp at hy; subst hy; rfl)
            have hlv := HPO.out.level
            have hzz : sizeN p = sizeF p := rfl
            refine wp_seq_meet (fun a' w' => FrL 147 [(12, .int .i64 (k : Int)), (11, .int .i64 (usedS (P.take (k + 1)) : Int)), (10, .slice aT T.length cT), (8, .int .i64 (Z : Int)), (7, .pointer (some ⟨X, 0, none⟩)), (2, .string s)] a' ∧ FrC w [] X m Lf er w' ∧ w'.ownsRow B9 51 25 (.slice aT T.length cT) T.length (tdCells T) ∧ SubsIn w' B9 T) ?_ ?_
            · skip
              by_cases hl3 : p.level = 3
              · rw [if_pos hl3] at hus
                refine wp_seq ?_
                refine wp_region_lit ?_
                refine fr_ch F 2 [(56, .int .i64 (k : Int)), (55, .slice aT T.length cT)] (by kernel_rfl) ?_
                clear F a9
                intro a9 F
                refine fr_do F (wanted_free rfl) 57 rfl (by decide) (.pointer (some ⟨bb, oo + k * 25, none⟩)) (by intro a' F'; have h55 := F'.at' 55 _ rfl; have h56 := F'.at' 56 _ rfl; go_simp) ?_
                clear F a9
                intro a9 F
                refine fr_ch F 1 [(58, .pointer (some ⟨bb, oo + k * 25 + 24, none⟩))] (by kernel_rfl) ?_
                clear F a9
                intro a9 F
                refine fr_do F (wanted_free rfl) 59 rfl (by decide) (.int .i64 (0 : Int)) (by intro a' F'; have h58 := F'.at' 58 _ rfl; have hc : w9.cell? ⟨bb, oo + k * 25 + 24, none⟩ = some (.int .i64 (0 : Int)) := HRG.out _ HT 24 _ rfl; go_simp) ?_
                clear F a9
                intro a9 F
                refine fr_ch F 2 [(61, .bool true), (60, .bool true)] (by kernel_rfl) ?_
                clear F a9
                intro a9 F
                refine fr_mv F (by rw [wanted_at F rfl (t := 61) (b := true) (by kernel_rfl) rfl]; rfl) 62 rfl (by decide) 10 rfl rfl ?_
                clear F a9
                intro a9 F
                refine fr_mv F (by rw [wanted_at F rfl (t := 61) (b := true) (by kernel_rfl) rfl]; rfl) 63 rfl (by decide) 12 rfl rfl ?_
                clear F a9
                intro a9 F
                refine fr_do F (by rw [wanted_at F rfl (t := 61) (b := true) (by kernel_rfl) rfl]; rfl) 64 rfl (by decide) (.pointer (some ⟨bb, oo + k * 25, none⟩)) (by intro a' F'; have h62 := F'.at' 62 _ rfl; have h63 := F'.at' 63 _ rfl; go_simp) ?_
                clear F a9
                intro a9 F
                refine fr_ch F 2 [(66, .pointer (some ⟨bb, oo + k * 25 + 7, none⟩)), (65, .pointer (some ⟨bb, oo + k * 25, none⟩))] (by kernel_rfl) ?_
                clear F a9
                intro a9 F
                refine fr_do F (by rw [wanted_at F rfl (t := 61) (b := true) (by kernel_rfl) rfl]; rfl) 67 rfl (by decide) (.int .u8 (p.level : Int)) (by intro a' F'; have h66 := F'.at' 66 _ rfl; have hc : w9.cell? ⟨bb, oo + k * 25 + 7, none⟩ = some (.int .u8 (p.level : Int)) := HRG.out _ HT 7 _ rfl; go_simp) ?_
                clear F a9
                intro a9 F
                refine fr_do F (by rw [wanted_at F rfl (t := 61) (b := true) (by kernel_rfl) rfl]; rfl) 68 rfl (by decide) (.bool false) (by intro a' F'; have h67 := F'.at' 67 _ rfl; go_simp) ?_
                clear F a9
                intro a9 F
                refine fr_ch F 1 [(69, .bool false)] (by kernel_rfl) ?_
                clear F a9
                intro a9 F
                refine wpList_nil ?_
                show Code.wp _ _ _ _ _
                refine wp_cond_false (F.ev 69 rfl) ?_
                refine wp_skip ?_
                rw [hus, Nat.add_zero]
                exact ⟨(((((((FrL.nil F.size F.defers).add 2 _ (F.at' 2 _ rfl)).add 7 _ (F.at' 7 _ rfl)).add 8 _ (F.at' 8 _ rfl)).add 10 _ (F.at' 10 _ rfl)).add 11 _ (F.at' 11 _ rfl)).add 12 _ (F.at' 12 _ rfl)), HFC, HT, HS⟩
              · rw [if_neg hl3] at hus
                refine wp_seq ?_
                refine wp_region_lit ?_
                refine fr_mv F (wanted_free rfl) 55 rfl (by decide) 10 rfl rfl ?_
                clear F a9
                intro a9 F
                refine fr_mv F (wanted_free rfl) 56 rfl (by decide) 12 rfl rfl ?_
                clear F a9
                intro a9 F
                refine fr_do F (wanted_free rfl) 57 rfl (by decide) (.pointer (some ⟨bb, oo + k * 25, none⟩)) (by intro a' F'; have h55 := F'.at' 55 _ rfl; have h56 := F'.at' 56 _ rfl; go_simp) ?_
                clear F a9
                intro a9 F
                refine fr_ch F 1 [(58, .pointer (some ⟨bb, oo + k * 25 + 24, none⟩))] (by kernel_rfl) ?_
                clear F a9
                intro a9 F
                refine fr_do F (wanted_free rfl) 59 rfl (by decide) (.int .i64 (0 : Int)) (by intro a' F'; have h58 := F'.at' 58 _ rfl; have hc : w9.cell? ⟨bb, oo + k * 25 + 24, none⟩ = some (.int .i64 (0 : Int)) := HRG.out _ HT 24 _ rfl; go_simp) ?_
                clear F a9
                intro a9 F
                refine fr_ch F 2 [(61, .bool true), (60, .bool true)] (by kernel_rfl) ?_
                clear F a9
                intro a9 F
                refine fr_mv F (by rw [wanted_at F rfl (t := 61) (b := true) (by kernel_rfl) rfl]; rfl) 62 rfl (by decide) 10 rfl rfl ?_
                clear F a9
                intro a9 F
                refine fr_mv F (by rw [wanted_at F rfl (t := 61) (b := true) (by kernel_rfl) rfl]; rfl) 63 rfl (by decide) 12 rfl rfl ?_
                clear F a9
                intro a9 F
                refine fr_do F (by rw [wanted_at F rfl (t := 61) (b := true) (by kernel_rfl) rfl]; rfl) 64 rfl (by decide) (.pointer (some ⟨bb, oo + k * 25, none⟩)) (by intro a' F'; have h62 := F'.at' 62 _ rfl; have h63 := F'.at' 63 _ rfl; go_simp) ?_
                clear F a9
                intro a9 F
                refine fr_ch F 2 [(66, .pointer (some ⟨bb, oo + k * 25 + 7, none⟩)), (65, .pointer (some ⟨bb, oo + k * 25, none⟩))] (by kernel_rfl) ?_
                clear F a9
                intro a9 F
                refine fr_do F (by rw [wanted_at F rfl (t := 61) (b := true) (by kernel_rfl) rfl]; rfl) 67 rfl (by decide) (.int .u8 (p.level : Int)) (by intro a' F'; have h66 := F'.at' 66 _ rfl; have hc : w9.cell? ⟨bb, oo + k * 25 + 7, none⟩ = some (.int .u8 (p.level : Int)) := HRG.out _ HT 7 _ rfl; go_simp) ?_
                clear F a9
                intro a9 F
                refine fr_do F (by rw [wanted_at F rfl (t := 61) (b := true) (by kernel_rfl) rfl]; rfl) 68 rfl (by decide) (.bool true) (by intro a' F'; have h67 := F'.at' 67 _ rfl; go_simp <;> omega) ?_
                clear F a9
                intro a9 F
                refine fr_ch F 1 [(69, .bool true)] (by kernel_rfl) ?_
                clear F a9
                intro a9 F
                refine wpList_nil ?_
                show Code.wp _ _ _ _ _
                refine wp_cond_true (F.ev 69 rfl) ?_
                replace F := F.cut [(12, .int .i64 (k : Int)), (11, .int .i64 (usedS (P.take k) : Int)), (10, .slice aT T.length cT), (8, .int .i64 (Z : Int)), (7, .pointer (some ⟨X, 0, none⟩)), (2, .string s)] (by kernel_rfl)
                refine wp_region_lit ?_
                refine fr_ch F 3 [(72, .int .i64 (k : Int)), (71, .slice aT T.length cT), (70, .int .i64 (usedS (P.take k) : Int))] (by kernel_rfl) ?_
                clear F a9
                intro a9 F
                refine fr_do F (wanted_free rfl) 73 rfl (by decide) (.pointer (some ⟨bb, oo + k * 25, none⟩)) (by intro a' F'; have h71 := F'.at' 71 _ rfl; have h72 := F'.at' 72 _ rfl; go_simp) ?_
                clear F a9
                intro a9 F
                refine fr_ch F 1 [(74, .pointer (some ⟨bb, oo + k * 25, none⟩))] (by kernel_rfl) ?_
                clear F a9
                intro a9 F
                refine fr_do F (wanted_free rfl) 75 rfl (by decide) (.agg (pkV p pa pc)) (fun a' F' => run_load_midF 27 _ rfl bb (oo + k * 25) (F'.ev 74 rfl) (pkV p pa pc).toList _ (td_pk (HRG.out _ HT)) Tryd.underlying27 rfl infoPk) ?_
                clear F a9
                intro a9 F
                refine fr_call F (wanted_free rfl) 76 rfl (by decide) 30 #[.agg (pkV p pa pc)] (by intro a' F'; have h75 := F'.at' 75 _ rfl; go_simp) (write_Size p pa pc _ HFC.env HPO.out (HSX.out _ HS)) ?_
                rintro e9 w8 ⟨rfl, hb8⟩
                replace HT := own_only HT (Only.of_below hb8 (fun _ => False)) (fun _ _ h => h)
                replace HS := HS.below hb8
                replace HFC := HFC.below hb8
                clear hb8
                clear w9
                rename World => w9
                refine ⟨_, rfl, ?_⟩
                clear F a9
                intro a9 F
                refine fr_do F (wanted_free rfl) 77 rfl (by decide) (.int .i64 (usedS (P.take (k + 1)) : Int)) (by intro a' F'; have h70 := F'.at' 70 _ rfl; have h76 := F'.at' 76 _ rfl; go_simp <;> (rw [IntKind.wrap_i64]; omega)) ?_
                clear F a9
                intro a9 F
                refine fr_ch F 1 [(11, .int .i64 (usedS (P.take (k + 1)) : Int))] (by kernel_rfl) ?_
                clear F a9
                intro a9 F
                refine wpList_nil ?_
                exact ⟨(((((((FrL.nil F.size F.defers).add 2 _ (F.at' 2 _ rfl)).add 7 _ (F.at' 7 _ rfl)).add 8 _ (F.at' 8 _ rfl)).add 10 _ (F.at' 10 _ rfl)).add 11 _ (F.at' 11 _ rfl)).add 12 _ (F.at' 12 _ rfl)), HFC, HT, HS⟩
            · clear F HFC HT HS a9 w9
              rintro a9 w9 ⟨F, HFC, HT, HS⟩
              show Code.wp _ _ _ _ _
              refine wp_seq ?_
              refine wp_region_lit ?_
              refine fr_mv F (wanted_free rfl) 78 rfl (by decide) 10 rfl rfl ?_
              clear F a9
              intro a9 F
              refine fr_mv F (wanted_free rfl) 79 rfl (by decide) 12 rfl rfl ?_
              clear F a9
              intro a9 F
              refine fr_do F (wanted_free rfl) 80 rfl (by decide) (.pointer (some ⟨bb, oo + k * 25, none⟩)) (by intro a' F'; have h78 := F'.at' 78 _ rfl; have h79 := F'.at' 79 _ rfl; go_simp) ?_
              clear F a9
              intro a9 F
              refine fr_ch F 1 [(81, .pointer (some ⟨bb, oo + k * 25 + 24, none⟩))] (by kernel_rfl) ?_
              clear F a9
              intro a9 F
              refine fr_do F (wanted_free rfl) 82 rfl (by decide) (.int .i64 (0 : Int)) (by intro a' F'; have h81 := F'.at' 81 _ rfl; have hc : w9.cell? ⟨bb, oo + k * 25 + 24, none⟩ = some (.int .i64 (0 : Int)) := HRG.out _ HT 24 _ rfl; go_simp) ?_
              clear F a9
              intro a9 F
              refine fr_ch F 1 [(83, .bool false)] (by kernel_rfl) ?_
              clear F a9
              intro a9 F
              refine wpList_nil ?_
              show Code.wp _ _ _ _ _
              refine wp_cond_false (F.ev 83 rfl) ?_
              refine wp_skip ?_
              exact ⟨(((((((FrL.nil F.size F.defers).add 2 _ (F.at' 2 _ rfl)).add 7 _ (F.at' 7 _ rfl)).add 8 _ (F.at' 8 _ rfl)).add 10 _ (F.at' 10 _ rfl)).add 11 _ (F.at' 11 _ rfl)).add 12 _ (F.at' 12 _ rfl)), HFC, HT, HS, HZ2.out, rfl, by omega⟩
          · skip
            obtain ⟨he1, hp0, hkT⟩ : e = er ∧ p = Pk.zero ∧ T.length = k + 1 := by
              rcases HTX.out with ⟨h4, _⟩ | ⟨_, h4, h5, h6⟩
              · exact absurd h4 he0
              · exact ⟨h4, h5, h6⟩
            subst hp0
            have hL0 := HEM.out (by rw [← he1]; exact he0)
            subst hL0
            rw [← he1] at HFC
            have hr34 : e = 3 ∨ e = 4 := by rcases HER.out with h3 | h3 <;> omega
            have HLEN := Lib.hid hkT
            have hen : ((e : Int) == 0) = false := by rw [beq_eq_false_iff_ne]; omega
            have hen2 : ((e : Int) != 0) = true := by rw [bne_iff_ne]; omega
            refine wp_seq ?_
            refine wp_seq ?_
            refine wp_region_lit ?_
            refine fr_mv F (wanted_free rfl) 55 rfl (by decide) 10 rfl rfl ?_
            clear F a9
            intro a9 F
            refine fr_mv F (wanted_free rfl) 56 rfl (by decide) 12 rfl rfl ?_
            clear F a9
            intro a9 F
            refine fr_do F (wanted_free rfl) 57 rfl (by decide) (.pointer (some ⟨bb, oo + k * 25, none⟩)) (by intro a' F'; have h55 := F'.at' 55 _ rfl; have h56 := F'.at' 56 _ rfl; go_simp <;> omega) ?_
            clear F a9
            intro a9 F
            refine fr_ch F 1 [(58, .pointer (some ⟨bb, oo + k * 25 + 24, none⟩))] (by kernel_rfl) ?_
            clear F a9
            intro a9 F
            refine fr_do F (wanted_free rfl) 59 rfl (by decide) (.int .i64 (e : Int)) (by intro a' F'; have h58 := F'.at' 58 _ rfl; have hc : w9.cell? ⟨bb, oo + k * 25 + 24, none⟩ = some (.int .i64 (e : Int)) := HRG.out _ HT 24 _ rfl; go_simp) ?_
            clear F a9
            intro a9 F
            refine fr_do F (wanted_free rfl) 60 rfl (by decide) (.bool false) (by intro a' F'; have h59 := F'.at' 59 _ rfl; go_simp <;> omega) ?_
            clear F a9
            intro a9 F
            refine fr_ch F 9 [(69, .bool false), (68, undef), (67, undef), (66, undef), (65, undef), (64, undef), (63, undef), (62, undef), (61, .bool false)] (by kernel_rfl) ?_
            clear F a9
            intro a9 F
            refine wpList_nil ?_
            show Code.wp _ _ _ _ _
            refine wp_cond_false (F.ev 69 rfl) ?_
            refine wp_skip ?_
            show Code.wp _ _ _ _ _
            replace F := F.cut [(12, .int .i64 (k : Int)), (10, .slice aT T.length cT), (7, .pointer (some ⟨X, 0, none⟩)), (2, .string s)] (by kernel_rfl)
            refine wp_seq ?_
            refine wp_region_lit ?_
            refine fr_ch F 2 [(79, .int .i64 (k : Int)), (78, .slice aT T.length cT)] (by kernel_rfl) ?_
            clear F a9
            intro a9 F
            refine fr_do F (wanted_free rfl) 80 rfl (by decide) (.pointer (some ⟨bb, oo + k * 25, none⟩)) (by intro a' F'; have h78 := F'.at' 78 _ rfl; have h79 := F'.at' 79 _ rfl; go_simp <;> omega) ?_
            clear F a9
            intro a9 F
            refine fr_ch F 1 [(81, .pointer (some ⟨bb, oo + k * 25 + 24, none⟩))] (by kernel_rfl) ?_
            clear F a9
            intro a9 F
            refine fr_do F (wanted_free rfl) 82 rfl (by decide) (.int .i64 (e : Int)) (by intro a' F'; have h81 := F'.at' 81 _ rfl; have hc : w9.cell? ⟨bb, oo + k * 25 + 24, none⟩ = some (.int .i64 (e : Int)) := HRG.out _ HT 24 _ rfl; go_simp) ?_
            clear F a9
            intro a9 F
            refine fr_do F (wanted_free rfl) 83 rfl (by decide) (.bool true) (by intro a' F'; have h82 := F'.at' 82 _ rfl; go_simp <;> omega) ?_
            clear F a9
            intro a9 F
            refine wpList_nil ?_
            show Code.wp _ _ _ _ _
            refine wp_cond_true (F.ev 83 rfl) ?_
            replace F := F.cut [(12, .int .i64 (k : Int)), (10, .slice aT T.length cT), (7, .pointer (some ⟨X, 0, none⟩)), (2, .string s)] (by kernel_rfl)
            refine wp_seq ?_
            refine wp_region_lit ?_
            refine fr_ch F 2 [(85, .string s), (84, .pointer (some ⟨X, 0, none⟩))] (by kernel_rfl) ?_
            clear F a9
            intro a9 F
            refine fr_call F (wanted_free rfl) 86 rfl (by decide) 19 #[.pointer (some ⟨X, 0, none⟩), .string s] (by intro a' F'; have h84 := F'.at' 84 _ rfl; have h85 := F'.at' 85 _ rfl; go_simp) (frame_Push_no HFC (by omega) s (by simp; omega) he0) ?_
            rintro e9 w8 ⟨rfl, hfc, hon⟩
            replace HT := hon.own HT (nfre _ (by decide) (by decide))
            replace HS := HS.only hon (nfre _ (by decide) (by decide))
            clear HFC hon
            clear w9
            rename World => w9
            have HFC := hfc
            clear hfc
            refine ⟨_, rfl, ?_⟩
            clear F a9
            intro a9 F
            refine wpList_nil ?_
            show Code.wp _ _ _ _ _
            replace F := F.cut [(12, .int .i64 (k : Int)), (10, .slice aT T.length cT), (7, .pointer (some ⟨X, 0, none⟩))] (by kernel_rfl)
            refine wp_seq ?_
            refine wp_region_lit ?_
            refine fr_ch F 1 [(87, .pointer (some ⟨X, 0, none⟩))] (by kernel_rfl) ?_
            clear F a9
            intro a9 F
            refine fr_call F (wanted_free rfl) 88 rfl (by decide) 23 #[.pointer (some ⟨X, 0, none⟩)] (by intro a' F'; have h87 := F'.at' 87 _ rfl; go_simp) (drain_stuck e he0 HFC (by omega) (by simp) HB0 (by intro x hx; cases hx)) ?_
            rintro e9 w8 ⟨U, aU, cU, rfl, HTU, HSU, hUm, hfc, hon⟩
            replace HT := hon.own HT (nfre _ (by decide) (by decide))
            replace HS := HS.only hon (nfre _ (by decide) (by decide))
            obtain ⟨B8, hB8⟩ : ∃ B8, w9.heap.size = B8 := ⟨_, rfl⟩
            rw [hB8] at HTU HSU
            clear HFC hon hB8
            clear w9
            rename World => w9
            have HFC := hfc
            clear hfc
            refine ⟨_, rfl, ?_⟩
            clear F a9
            intro a9 F
            refine fr_as F (wanted_free rfl) 13 rfl (by decide) 88 rfl rfl ?_
            clear F a9
            intro a9 F
            refine wpList_nil ?_
            show Code.wp _ _ _ _ _
            replace F := F.cut [(13, .slice aU U.length cU), (12, .int .i64 (k : Int)), (10, .slice aT T.length cT), (7, .pointer (some ⟨X, 0, none⟩))] (by kernel_rfl)
            have hUl : U.length = 1 := by have h3 := congrArg List.length hUm; simpa using h3
            have HPU := Lib.hid (show ∀ x ∈ U, PkOk x.1.1 from fun x hx => by
              have h3 : tp x ∈ U.map tp := List.mem_map_of_mem hx
              rw [hUm] at h3
              simp at h3
              have h4 : x.1.1 = Pk.zero := congrArg Prod.fst h3
              rw [h4]; exact pk_zero)
            have HUM := Lib.hid hUm
            clear hUm
            rcases hr34 with rfl | rfl
            · skip
              refine wp_seq ?_
              refine wp_region_lit ?_
              refine fr_ch F 3 [(91, .int .i64 (T.length : Int)), (90, .slice aT T.length cT), (89, .int .i64 (k : Int))] (by kernel_rfl) ?_
              clear F a9
              intro a9 F
              refine fr_do F (wanted_free rfl) 92 rfl (by decide) (.int .i64 (k : Int)) (by intro a' F'; have h91 := F'.at' 91 _ rfl; go_simp <;> (rw [IntKind.wrap_i64]; omega)) ?_
              clear F a9
              intro a9 F
              refine fr_do F (wanted_free rfl) 93 rfl (by decide) (.bool true) (by intro a' F'; have h89 := F'.at' 89 _ rfl; have h92 := F'.at' 92 _ rfl; go_simp) ?_
              clear F a9
              intro a9 F
              refine fr_ch F 1 [(94, .bool true)] (by kernel_rfl) ?_
              clear F a9
              intro a9 F
              refine fr_mv F (by rw [wanted_at F rfl (t := 94) (b := true) (by kernel_rfl) rfl]; rfl) 95 rfl (by decide) 7 rfl rfl ?_
              clear F a9
              intro a9 F
              refine fr_call F (by rw [wanted_at F rfl (t := 94) (b := true) (by kernel_rfl) rfl]; rfl) 96 rfl (by decide) 21 #[.pointer (some ⟨X, 0, none⟩)] (by intro a' F'; have h95 := F'.at' 95 _ rfl; go_simp) (frame_Left HFC) ?_
              rintro e9 w8 ⟨rfl, rfl⟩
              refine ⟨_, rfl, ?_⟩
              clear F a9
              intro a9 F
              refine fr_ch F 3 [(99, .bool true), (98, .bool true), (97, .bool true)] (by kernel_rfl) ?_
              clear F a9
              intro a9 F
              refine fr_mv F (by rw [wanted_at F rfl (t := 99) (b := true) (by kernel_rfl) rfl]; rfl) 100 rfl (by decide) 13 rfl rfl ?_
              clear F a9
              intro a9 F
              refine fr_mv F (by rw [wanted_at F rfl (t := 99) (b := true) (by kernel_rfl) rfl]; rfl) 101 rfl (by decide) 10 rfl rfl ?_
              clear F a9
              intro a9 F
              refine fr_mv F (by rw [wanted_at F rfl (t := 99) (b := true) (by kernel_rfl) rfl]; rfl) 102 rfl (by decide) 12 rfl rfl ?_
              clear F a9
              intro a9 F
              refine fr_do F (by rw [wanted_at F rfl (t := 99) (b := true) (by kernel_rfl) rfl]; rfl) 103 rfl (by decide) (.slice (some ⟨bb, oo + k * 25, none⟩) 1 (cT - k)) (by intro a' F'; have h101 := F'.at' 101 _ rfl; have h102 := F'.at' 102 _ rfl; go_simp <;> (rw [if_pos (by omega), if_neg (by omega)])) ?_
              clear F a9
              intro a9 F
              refine fr_call F (by rw [wanted_at F rfl (t := 99) (b := true) (by kernel_rfl) rfl]; rfl) 104 rfl (by decide) 22 #[.slice aU U.length cU, .slice (some ⟨bb, oo + k * 25, none⟩) 1 (cT - k)] (by intro a' F'; have h100 := F'.at' 100 _ rfl; have h103 := F'.at' 103 _ rfl; go_simp) (law06_same aU cU U (some ⟨bb, oo + k * 25, none⟩) (cT - k) [((Pk.zero, pa, pc), 3)] w9 HFC.env (own_cells HTU) (cells_range (by show w9.rangeAt _ _ (tdC _ ++ []); rw [List.append_nil]; exact HRG.out _ HT)) (told_in HSU HPU.out) (by intro y hy; simp at hy; subst hy; exact ⟨pk_zero, HSX.out _ HS⟩) (HUM.out) (by omega)) ?_
              rintro e9 w8 ⟨rfl, hb8⟩
              replace HFC := HFC.below hb8
              replace HT := own_only HT (Only.of_below hb8 (fun _ => False)) (fun _ _ h => h)
              replace HS := HS.below hb8
              clear hb8 HTU HSU
              clear w9
              rename World => w9
              refine ⟨_, rfl, ?_⟩
              clear F a9
              intro a9 F
              refine fr_ch F 2 [(106, .bool true), (105, .bool true)] (by kernel_rfl) ?_
              clear F a9
              intro a9 F
              refine fr_mv F (by rw [wanted_at F rfl (t := 106) (b := true) (by kernel_rfl) rfl]; rfl) 107 rfl (by decide) 10 rfl rfl ?_
              clear F a9
              intro a9 F
              refine fr_mv F (by rw [wanted_at F rfl (t := 106) (b := true) (by kernel_rfl) rfl]; rfl) 108 rfl (by decide) 12 rfl rfl ?_
              clear F a9
              intro a9 F
              refine fr_do F (by rw [wanted_at F rfl (t := 106) (b := true) (by kernel_rfl) rfl]; rfl) 109 rfl (by decide) (.pointer (some ⟨bb, oo + k * 25, none⟩)) (by intro a' F'; have h107 := F'.at' 107 _ rfl; have h108 := F'.at' 108 _ rfl; go_simp <;> omega) ?_
              clear F a9
              intro a9 F
              refine fr_ch F 1 [(110, .pointer (some ⟨bb, oo + k * 25 + 24, none⟩))] (by kernel_rfl) ?_
              clear F a9
              intro a9 F
              refine fr_do F (by rw [wanted_at F rfl (t := 106) (b := true) (by kernel_rfl) rfl]; rfl) 111 rfl (by decide) (.int .i64 (3 : Int)) (by intro a' F'; have h110 := F'.at' 110 _ rfl; have hc : w9.cell? ⟨bb, oo + k * 25 + 24, none⟩ = some (.int .i64 (3 : Int)) := HRG.out _ HT 24 _ rfl; go_simp) ?_
              clear F a9
              intro a9 F
              refine fr_ch F 2 [(113, .bool false), (112, .bool false)] (by kernel_rfl) ?_
              clear F a9
              intro a9 F
              refine fr_mv F (by rw [wanted_at F rfl (t := 113) (b := false) (by kernel_rfl) rfl]; rfl) 114 rfl (by decide) 10 rfl rfl ?_
              clear F a9
              intro a9 F
              refine fr_mv F (by rw [wanted_at F rfl (t := 113) (b := false) (by kernel_rfl) rfl]; rfl) 115 rfl (by decide) 12 rfl rfl ?_
              clear F a9
              intro a9 F
              refine fr_do F (by rw [wanted_at F rfl (t := 113) (b := false) (by kernel_rfl) rfl]; rfl) 116 rfl (by decide) (.pointer (some ⟨bb, oo + k * 25, none⟩)) (by intro a' F'; have h114 := F'.at' 114 _ rfl; have h115 := F'.at' 115 _ rfl; go_simp <;> omega) ?_
              clear F a9
              intro a9 F
              refine fr_ch F 1 [(117, .pointer (some ⟨bb, oo + k * 25 + 24, none⟩))] (by kernel_rfl) ?_
              clear F a9
              intro a9 F
              refine fr_do F (by rw [wanted_at F rfl (t := 113) (b := false) (by kernel_rfl) rfl]; rfl) 118 rfl (by decide) (.int .i64 (3 : Int)) (by intro a' F'; have h117 := F'.at' 117 _ rfl; have hc : w9.cell? ⟨bb, oo + k * 25 + 24, none⟩ = some (.int .i64 (3 : Int)) := HRG.out _ HT 24 _ rfl; go_simp) ?_
              clear F a9
              intro a9 F
              refine fr_ch F 4 [(122, .bool true), (121, .bool true), (120, .bool true), (119, .bool true)] (by kernel_rfl) ?_
              clear F a9
              intro a9 F
              refine fr_call F (by rw [wanted_at F rfl (t := 122) (b := true) (by kernel_rfl) rfl]; rfl) 123 rfl (by decide) 25 #[] (by intro a' F'; go_simp) (law06_awake _ HFC.env) ?_
              rintro e9 w8 ⟨rfl, hb8⟩
              clear HT HS
              replace HFC := HFC.below hb8
              clear hb8
              clear w9
              rename World => w9
              refine ⟨_, rfl, ?_⟩
              clear F a9
              intro a9 F
              refine fr_ch F 2 [(6, .bool true), (124, .bool true)] (by kernel_rfl) ?_
              clear F a9
              intro a9 F
              refine wpList_nil ?_
              show Code.wp _ _ _ _ _
              refine wp_ret ?_
              exact fr_ret1 F rfl _ rfl (FIN.out _ HFC.low)
            · skip
              refine wp_seq ?_
              refine wp_region_lit ?_
              refine fr_mv F (wanted_free rfl) 89 rfl (by decide) 12 rfl rfl ?_
              clear F a9
              intro a9 F
              refine fr_mv F (wanted_free rfl) 90 rfl (by decide) 10 rfl rfl ?_
              clear F a9
              intro a9 F
              refine fr_ch F 1 [(91, .int .i64 (T.length : Int))] (by kernel_rfl) ?_
              clear F a9
              intro a9 F
              refine fr_do F (wanted_free rfl) 92 rfl (by decide) (.int .i64 (k : Int)) (by intro a' F'; have h91 := F'.at' 91 _ rfl; go_simp <;> (rw [IntKind.wrap_i64]; omega)) ?_
              clear F a9
              intro a9 F
              refine fr_do F (wanted_free rfl) 93 rfl (by decide) (.bool true) (by intro a' F'; have h89 := F'.at' 89 _ rfl; have h92 := F'.at' 92 _ rfl; go_simp) ?_
              clear F a9
              intro a9 F
              refine fr_ch F 1 [(94, .bool true)] (by kernel_rfl) ?_
              clear F a9
              intro a9 F
              refine fr_mv F (by rw [wanted_at F rfl (t := 94) (b := true) (by kernel_rfl) rfl]; rfl) 95 rfl (by decide) 7 rfl rfl ?_
              clear F a9
              intro a9 F
              refine fr_call F (by rw [wanted_at F rfl (t := 94) (b := true) (by kernel_rfl) rfl]; rfl) 96 rfl (by decide) 21 #[.pointer (some ⟨X, 0, none⟩)] (by intro a' F'; have h95 := F'.at' 95 _ rfl; go_simp) (frame_Left HFC) ?_
              rintro e9 w8 ⟨rfl, rfl⟩
              refine ⟨_, rfl, ?_⟩
              clear F a9
              intro a9 F
              refine fr_ch F 3 [(99, .bool true), (98, .bool true), (97, .bool true)] (by kernel_rfl) ?_
              clear F a9
              intro a9 F
              refine fr_mv F (by rw [wanted_at F rfl (t := 99) (b := true) (by kernel_rfl) rfl]; rfl) 100 rfl (by decide) 13 rfl rfl ?_
              clear F a9
              intro a9 F
              refine fr_mv F (by rw [wanted_at F rfl (t := 99) (b := true) (by kernel_rfl) rfl]; rfl) 101 rfl (by decide) 10 rfl rfl ?_
              clear F a9
              intro a9 F
              refine fr_mv F (by rw [wanted_at F rfl (t := 99) (b := true) (by kernel_rfl) rfl]; rfl) 102 rfl (by decide) 12 rfl rfl ?_
              clear F a9
              intro a9 F
              refine fr_do F (by rw [wanted_at F rfl (t := 99) (b := true) (by kernel_rfl) rfl]; rfl) 103 rfl (by decide) (.slice (some ⟨bb, oo + k * 25, none⟩) 1 (cT - k)) (by intro a' F'; have h101 := F'.at' 101 _ rfl; have h102 := F'.at' 102 _ rfl; go_simp <;> (rw [if_pos (by omega), if_neg (by omega)])) ?_
              clear F a9
              intro a9 F
              refine fr_call F (by rw [wanted_at F rfl (t := 99) (b := true) (by kernel_rfl) rfl]; rfl) 104 rfl (by decide) 22 #[.slice aU U.length cU, .slice (some ⟨bb, oo + k * 25, none⟩) 1 (cT - k)] (by intro a' F'; have h100 := F'.at' 100 _ rfl; have h103 := F'.at' 103 _ rfl; go_simp) (law06_same aU cU U (some ⟨bb, oo + k * 25, none⟩) (cT - k) [((Pk.zero, pa, pc), 4)] w9 HFC.env (own_cells HTU) (cells_range (by show w9.rangeAt _ _ (tdC _ ++ []); rw [List.append_nil]; exact HRG.out _ HT)) (told_in HSU HPU.out) (by intro y hy; simp at hy; subst hy; exact ⟨pk_zero, HSX.out _ HS⟩) (HUM.out) (by omega)) ?_
              rintro e9 w8 ⟨rfl, hb8⟩
              replace HFC := HFC.below hb8
              replace HT := own_only HT (Only.of_below hb8 (fun _ => False)) (fun _ _ h => h)
              replace HS := HS.below hb8
              clear hb8 HTU HSU
              clear w9
              rename World => w9
              refine ⟨_, rfl, ?_⟩
              clear F a9
              intro a9 F
              refine fr_ch F 2 [(106, .bool true), (105, .bool true)] (by kernel_rfl) ?_
              clear F a9
              intro a9 F
              refine fr_mv F (by rw [wanted_at F rfl (t := 106) (b := true) (by kernel_rfl) rfl]; rfl) 107 rfl (by decide) 10 rfl rfl ?_
              clear F a9
              intro a9 F
              refine fr_mv F (by rw [wanted_at F rfl (t := 106) (b := true) (by kernel_rfl) rfl]; rfl) 108 rfl (by decide) 12 rfl rfl ?_
              clear F a9
              intro a9 F
              refine fr_do F (by rw [wanted_at F rfl (t := 106) (b := true) (by kernel_rfl) rfl]; rfl) 109 rfl (by decide) (.pointer (some ⟨bb, oo + k * 25, none⟩)) (by intro a' F'; have h107 := F'.at' 107 _ rfl; have h108 := F'.at' 108 _ rfl; go_simp <;> omega) ?_
              clear F a9
              intro a9 F
              refine fr_ch F 1 [(110, .pointer (some ⟨bb, oo + k * 25 + 24, none⟩))] (by kernel_rfl) ?_
              clear F a9
              intro a9 F
              refine fr_do F (by rw [wanted_at F rfl (t := 106) (b := true) (by kernel_rfl) rfl]; rfl) 111 rfl (by decide) (.int .i64 (4 : Int)) (by intro a' F'; have h110 := F'.at' 110 _ rfl; have hc : w9.cell? ⟨bb, oo + k * 25 + 24, none⟩ = some (.int .i64 (4 : Int)) := HRG.out _ HT 24 _ rfl; go_simp) ?_
              clear F a9
              intro a9 F
              refine fr_ch F 11 [(122, .bool true), (121, .bool true), (120, .bool true), (119, undef), (118, undef), (117, undef), (116, undef), (115, undef), (114, undef), (113, .bool true), (112, .bool true)] (by kernel_rfl) ?_
              clear F a9
              intro a9 F
              refine fr_call F (by rw [wanted_at F rfl (t := 122) (b := true) (by kernel_rfl) rfl]; rfl) 123 rfl (by decide) 25 #[] (by intro a' F'; go_simp) (law06_awake _ HFC.env) ?_
              rintro e9 w8 ⟨rfl, hb8⟩
              clear HT HS
              replace HFC := HFC.below hb8
              clear hb8
              clear w9
              rename World => w9
              refine ⟨_, rfl, ?_⟩
              clear F a9
              intro a9 F
              refine fr_ch F 2 [(6, .bool true), (124, .bool true)] (by kernel_rfl) ?_
              clear F a9
              intro a9 F
              refine wpList_nil ?_
              show Code.wp _ _ _ _ _
              refine wp_ret ?_
              exact fr_ret1 F rfl _ rfl (FIN.out _ HFC.low)
        · clear F HFC HT HS a9 w9
          rintro a9 w9 ⟨F, HFC, HT, HS, hz, _, hk1⟩
          show Code.wp _ _ _ _ _
          refine wp_region_lit ?_
          refine fr_mv F (wanted_free rfl) 53 rfl (by decide) 12 rfl rfl ?_
          clear F a9
          intro a9 F
          refine fr_do F (wanted_free rfl) 54 rfl (by decide) (.int .i64 ((k + 1 : Nat) : Int)) (by intro a' F'; have h53 := F'.at' 53 _ rfl; go_simp <;> (rw [IntKind.wrap_i64]; omega)) ?_
          clear F a9
          intro a9 F
          refine fr_ch F 1 [(12, .int .i64 ((k + 1 : Nat) : Int))] (by kernel_rfl) ?_
          clear F a9
          intro a9 F
          refine wpList_nil ?_
          replace F := F.cut [(12, .int .i64 ((k + 1 : Nat) : Int)), (11, .int .i64 (usedS (P.take (k + 1)) : Int)), (10, .slice aT T.length cT), (8, .int .i64 (Z : Int)), (7, .pointer (some ⟨X, 0, none⟩)), (2, .string s)] (by kernel_rfl)
          refine ⟨⟨k + 1, hk1, F, HFC, HT, HS, hz⟩, ?_⟩
          rw [muI_at F 12 (k + 1) rfl]
          omega
      · have hk2 : k = T.length := by omega
        subst hk2
        refine wp_region_lit ?_
        refine fr_mv F (wanted_free rfl) 49 rfl (by decide) 12 rfl rfl ?_
        clear F a9
        intro a9 F
        refine fr_ch F 2 [(51, .int .i64 (T.length : Int))] (by kernel_rfl) ?_
        clear F a9
        intro a9 F
        refine fr_do F (wanted_free rfl) 52 rfl (by decide) (.bool false) (by intro a' F'; have h49 := F'.at' 49 _ rfl; have h51 := F'.at' 51 _ rfl; go_simp) ?_
        clear F a9
        intro a9 F
        refine wpList_nil ?_
        show Code.wp _ _ _ _ _
        have hz2 := HZ.out
        rw [List.take_length] at hz2
        obtain ⟨he0, hTP⟩ := told_zero HTE.out hz2
        rw [he0] at HFC
        have hus : P.take T.length = P := by rw [hTP]; exact List.take_length
        refine wp_cond_false (F.ev 52 rfl) ?_
        refine wp_exit ?_
        exact then_exit (then_exit (exit_in ⟨⟨T.length, by rw [hus] at F; exact (((((((FrL.nil F.size F.defers).add 2 _ (F.at' 2 _ rfl)).add 7 _ (F.at' 7 _ rfl)).add 8 _ (F.at' 8 _ rfl)).add 10 _ (F.at' 10 _ rfl)).add 11 _ (F.at' 11 _ rfl)).add 12 _ (F.at' 12 _ rfl))⟩, HFC, he0⟩))
    · clear F HFC HT HS a9 w9
      rintro a9 w9 ⟨⟨kk, F⟩, HFC, he0⟩
      show Code.wp _ _ _ _ _
      have hsz2 := HSZ.out
      replace F := F.cut [(11, .int .i64 (usedS P : Int)), (8, .int .i64 (Z : Int)), (7, .pointer (some ⟨X, 0, none⟩)), (2, .string s)] (by kernel_rfl)
      refine wp_seq ?_
      refine wp_region_lit ?_
      refine fr_ch F 1 [(125, .pointer (some ⟨X, 0, none⟩))] (by kernel_rfl) ?_
      clear F a9
      intro a9 F
      refine fr_call F (wanted_free rfl) 126 rfl (by decide) 21 #[.pointer (some ⟨X, 0, none⟩)] (by intro a' F'; have h125 := F'.at' 125 _ rfl; go_simp) (frame_Left HFC) ?_
      rintro e9 w8 ⟨rfl, rfl⟩
      refine ⟨_, rfl, ?_⟩
      clear F a9
      intro a9 F
      refine fr_as F (wanted_free rfl) 14 rfl (by decide) 126 rfl rfl ?_
      clear F a9
      intro a9 F
      refine wpList_nil ?_
      show Code.wp _ _ _ _ _
      replace F := F.cut [(14, .int .i64 (Lf.length : Int)), (11, .int .i64 (usedS P : Int)), (8, .int .i64 (Z : Int)), (7, .pointer (some ⟨X, 0, none⟩)), (2, .string s)] (by kernel_rfl)
      refine wp_seq ?_
      refine wp_region_lit ?_
      refine fr_ch F 2 [(128, .string s), (127, .pointer (some ⟨X, 0, none⟩))] (by kernel_rfl) ?_
      clear F a9
      intro a9 F
      refine fr_call F (wanted_free rfl) 129 rfl (by decide) 19 #[.pointer (some ⟨X, 0, none⟩), .string s] (by intro a' F'; have h127 := F'.at' 127 _ rfl; have h128 := F'.at' 128 _ rfl; go_simp) (frame_Push HFC (by omega) HB0 s (by omega)) ?_
      rintro e9 w8 ⟨rfl, hfc, hon⟩
      clear HFC hon
      clear w9
      rename World => w9
      have HFC := hfc
      clear hfc
      refine ⟨_, rfl, ?_⟩
      clear F a9
      intro a9 F
      refine wpList_nil ?_
      show Code.wp _ _ _ _ _
      replace F := F.cut [(14, .int .i64 (Lf.length : Int)), (11, .int .i64 (usedS P : Int)), (8, .int .i64 (Z : Int)), (7, .pointer (some ⟨X, 0, none⟩)), (2, .string s)] (by kernel_rfl)
      have hbl : (Lf ++ bl s).length = Lf.length + s.size := by rw [List.length_append, bl_len]
      refine wp_seq ?_
      refine wp_region_lit ?_
      refine fr_ch F 3 [(132, .int .i64 (usedS P : Int)), (131, .int .i64 (Z : Int)), (130, .int .i64 (Lf.length : Int))] (by kernel_rfl) ?_
      clear F a9
      intro a9 F
      refine fr_do F (wanted_free rfl) 133 rfl (by decide) (.int .i64 ((Z - usedS P : Nat) : Int)) (by intro a' F'; have h131 := F'.at' 131 _ rfl; have h132 := F'.at' 132 _ rfl; go_simp <;> (rw [IntKind.wrap_i64]; omega)) ?_
      clear F a9
      intro a9 F
      refine fr_do F (wanted_free rfl) 134 rfl (by decide) (.bool true) (by intro a' F'; have h130 := F'.at' 130 _ rfl; have h133 := F'.at' 133 _ rfl; go_simp <;> omega) ?_
      clear F a9
      intro a9 F
      refine fr_ch F 1 [(135, .bool true)] (by kernel_rfl) ?_
      clear F a9
      intro a9 F
      refine fr_mv F (by rw [wanted_at F rfl (t := 135) (b := true) (by kernel_rfl) rfl]; rfl) 136 rfl (by decide) 7 rfl rfl ?_
      clear F a9
      intro a9 F
      refine fr_call F (by rw [wanted_at F rfl (t := 135) (b := true) (by kernel_rfl) rfl]; rfl) 137 rfl (by decide) 21 #[.pointer (some ⟨X, 0, none⟩)] (by intro a' F'; have h136 := F'.at' 136 _ rfl; go_simp) (frame_Left HFC) ?_
      rintro e9 w8 ⟨rfl, rfl⟩
      refine ⟨_, rfl, ?_⟩
      clear F a9
      intro a9 F
      refine fr_mv F (by rw [wanted_at F rfl (t := 135) (b := true) (by kernel_rfl) rfl]; rfl) 138 rfl (by decide) 14 rfl rfl ?_
      clear F a9
      intro a9 F
      refine fr_mv F (by rw [wanted_at F rfl (t := 135) (b := true) (by kernel_rfl) rfl]; rfl) 139 rfl (by decide) 2 rfl rfl ?_
      clear F a9
      intro a9 F
      refine fr_ch F 1 [(140, .int .i64 (s.size : Int))] (by kernel_rfl) ?_
      clear F a9
      intro a9 F
      refine fr_do F (by rw [wanted_at F rfl (t := 135) (b := true) (by kernel_rfl) rfl]; rfl) 141 rfl (by decide) (.int .i64 ((Lf.length + s.size : Nat) : Int)) (by intro a' F'; have h138 := F'.at' 138 _ rfl; have h140 := F'.at' 140 _ rfl; go_simp <;> (rw [IntKind.wrap_i64]; omega)) ?_
      clear F a9
      intro a9 F
      refine fr_do F (by rw [wanted_at F rfl (t := 135) (b := true) (by kernel_rfl) rfl]; rfl) 142 rfl (by decide) (.bool true) (by intro a' F'; have h137 := F'.at' 137 _ rfl; have h141 := F'.at' 141 _ rfl; go_simp) ?_
      clear F a9
      intro a9 F
      refine fr_ch F 2 [(144, .bool true), (143, .bool true)] (by kernel_rfl) ?_
      clear F a9
      intro a9 F
      refine fr_call F (by rw [wanted_at F rfl (t := 144) (b := true) (by kernel_rfl) rfl]; rfl) 145 rfl (by decide) 25 #[] (by intro a' F'; go_simp) (law06_awake _ HFC.env) ?_
      rintro e9 w8 ⟨rfl, hb8⟩
      replace HFC := HFC.below hb8
      clear hb8
      clear w9
      rename World => w9
      refine ⟨_, rfl, ?_⟩
      clear F a9
      intro a9 F
      refine fr_ch F 2 [(6, .bool true), (146, .bool true)] (by kernel_rfl) ?_
      clear F a9
      intro a9 F
      refine wpList_nil ?_
      show Code.wp _ _ _ _ _
      refine wp_ret ?_
      exact fr_ret1 F rfl _ rfl (FIN.out _ HFC.low)
theorem law06_FrameStuck (i : Int) (a : Option Addr) (ca : Nat) (A : List ByteArray) (s : ByteArray) (w : World) (hE : Env w) (_hi : Whole i) (hA : A.length ≤ 9223372036854775807) (ha : CellsA w a (A.map Value.string)) : Calls Tryd.prog 8 #[.int .i64 i, .slice a A.length ca, .string s] w fun e w' => e = .returned (.bool true) ∧ Below w.heap.size w w' := by
  cases hg : greatZ A
  · by_cases hs : 20000 < s.size
    · exact fstuck_more a ca A s w hE ha hA i hg hs
    by_cases hi : i < 16 ∨ 65536 < i
    · exact fstuck_none a ca A s w hE ha hA i hi hg (by omega)
    · obtain ⟨m, rfl⟩ : ∃ m : Nat, i = (m : Int) := ⟨i.toNat, by omega⟩
      exact fstuck_good a ca A s w hE ha hA m (by omega) (by omega) hg (by omega)
  · exact fstuck_great a ca A s w hE ha hA i hg
end Go.Proofs.YtfljdlaelanliaaDoor
