/- The walk of FrameChunks. Conditions: the decoder's tables lie as Go lays them; the pieces, and what is asked, in their cells. -/
import Derived.Test.YtfljdlaelanliaaDoorFrameF
import Derived.Test.YtfljdlaelanliaaDoorFrameG
import Derived.Test.YtfljdlaelanliaaDoorPlainFrame4
import Derived.Test.YtfljdlaelanliaaDoorWhole
namespace Go.Proofs.YtfljdlaelanliaaDoor
open Go.RowKit
/-- The other framer's box. -/
abbrev gB (Y m : Nat) : List Box := [(Y, frV m none 0 0 0, 54)]
set_option maxRecDepth 100000 in
set_option maxHeartbeats 4000000 in
theorem fchunk_great (a : Option Addr) (ca : Nat) (A : List ByteArray) (d : Option Addr) (cd : Nat) (D : List Bool) (w : World) (hE : Env w) (ha : CellsA w a (A.map Value.string)) (hA : A.length ≤ 9223372036854775807) (hd : CellsA w d (D.map Value.bool)) (hD : D.length ≤ 9223372036854775807) (i : Int) (hg : greatZ A = true) : Calls Tryd.prog 7 #[.int .i64 i, .slice a A.length ca, .slice d D.length cd] w fun e w' => e = .returned (.bool true) ∧ Below w.heap.size w w' := by
  have HGR := Lib.hid (show ∀ w9, CellsA w9 a (A.map Value.string) → Calls Tryd.prog 26 #[.slice a A.length ca] w9 fun e w' => e = .returned (.bool true) ∧ w9 = w' from fun w9 h1 => by
    have h2 := law06_Great a ca A w9 h1 hA
    rw [hg] at h2
    exact h2)
  have HRA := Lib.hid ha
  have HRD := Lib.hid hd
  obtain ⟨RR, hRR⟩ : ∃ RR : Ending → World → Prop, RR = fun e w' => e = .returned (.bool true) ∧ Below w.heap.size w w' := ⟨_, rfl⟩
  have FIN := Lib.hid (show ∀ w', Below w.heap.size w w' → RR (.returned (.bool true)) w' from fun w' hb => by rw [hRR]; exact ⟨rfl, hb⟩)
  rw [← hRR]
  obtain ⟨w9, hw9⟩ : ∃ w9, w9 = w := ⟨_, rfl⟩
  have HK : Keep w [] [] w9 := by rw [hw9]; exact Keep.begin hE _ (by intro r hr; cases hr)
  suffices hgo : Calls Tryd.prog 7 #[.int .i64 i, .slice a A.length ca, .slice d D.length cd] w9 RR by rw [hw9] at hgo; exact hgo
  clear hw9 hRR hE ha hd hg
  go_enter Tryd.func7, Tryd.ntmps7
  refine wp_forget (n := 134) (L := [(2, .slice d D.length cd), (1, .slice a A.length ca), (0, .int .i64 i)]) (FrL.add (FrL.add (FrL.add (FrL.nil ?_ ?_) _ _ ?_) _ _ ?_) _ _ ?_) ?_
  iterate 5 rfl
  intro a9 F
  refine wp_seq ?_
  refine wp_region_lit ?_
  refine fr_ch F 1 [(6, .bool false)] (by kernel_rfl) ?_
  clear F a9
  intro a9 F
  refine wpList_nil ?_
  show Code.wp _ _ _ _ _
  replace F := F.cut [(2, .slice d D.length cd), (1, .slice a A.length ca), (0, .int .i64 i)] (by kernel_rfl)
  refine wp_seq ?_
  refine wp_seq ?_
  refine wp_region_lit ?_
  refine fr_ch F 1 [(14, .slice a A.length ca)] (by kernel_rfl) ?_
  clear F a9
  intro a9 F
  refine fr_call F (wanted_free rfl) 15 rfl (by decide) 26 #[.slice a A.length ca] (by intro a' F'; have h14 := F'.at' 14 _ rfl; go_simp) (HGR.out _ (HRA.out.below HK.low)) ?_
  rintro e9 w8 ⟨rfl, rfl⟩
  refine ⟨_, rfl, ?_⟩
  clear F a9
  intro a9 F
  refine wpList_nil ?_
  show Code.wp _ _ _ _ _
  refine wp_cond_true (F.ev 15 rfl) ?_
  refine wp_seq ?_
  refine wp_region_lit ?_
  refine fr_call F (wanted_free rfl) 16 rfl (by decide) 25 #[] (by intro a' F'; go_simp) (law06_awake _ HK.env) ?_
  rintro e9 w8 ⟨rfl, hb8⟩
  replace HK := HK.below hb8
  clear hb8
  clear w9
  rename World => w9
  refine ⟨_, rfl, ?_⟩
  clear F a9
  intro a9 F
  refine fr_as F (wanted_free rfl) 6 rfl (by decide) 16 rfl rfl ?_
  clear F a9
  intro a9 F
  refine wpList_nil ?_
  show Code.wp _ _ _ _ _
  refine wp_ret ?_
  exact fr_ret1 F rfl _ rfl (FIN.out _ HK.low)
set_option maxRecDepth 100000 in
set_option maxHeartbeats 4000000 in
theorem fchunk_none (a : Option Addr) (ca : Nat) (A : List ByteArray) (d : Option Addr) (cd : Nat) (D : List Bool) (w : World) (hE : Env w) (ha : CellsA w a (A.map Value.string)) (hA : A.length ≤ 9223372036854775807) (hd : CellsA w d (D.map Value.bool)) (hD : D.length ≤ 9223372036854775807) (i : Int) (hi : i < 16 ∨ 65536 < i) (hg : greatZ A = false) : Calls Tryd.prog 7 #[.int .i64 i, .slice a A.length ca, .slice d D.length cd] w fun e w' => e = .returned (.bool true) ∧ Below w.heap.size w w' := by
  have HGR := Lib.hid (show ∀ w9, CellsA w9 a (A.map Value.string) → Calls Tryd.prog 26 #[.slice a A.length ca] w9 fun e w' => e = .returned (.bool false) ∧ w9 = w' from fun w9 h1 => by
    have h2 := law06_Great a ca A w9 h1 hA
    rw [hg] at h2
    exact h2)
  have HRA := Lib.hid ha
  have HRD := Lib.hid hd
  obtain ⟨RR, hRR⟩ : ∃ RR : Ending → World → Prop, RR = fun e w' => e = .returned (.bool true) ∧ Below w.heap.size w w' := ⟨_, rfl⟩
  have FIN := Lib.hid (show ∀ w', Below w.heap.size w w' → RR (.returned (.bool true)) w' from fun w' hb => by rw [hRR]; exact ⟨rfl, hb⟩)
  rw [← hRR]
  obtain ⟨w9, hw9⟩ : ∃ w9, w9 = w := ⟨_, rfl⟩
  have HK : Keep w [] [] w9 := by rw [hw9]; exact Keep.begin hE _ (by intro r hr; cases hr)
  suffices hgo : Calls Tryd.prog 7 #[.int .i64 i, .slice a A.length ca, .slice d D.length cd] w9 RR by rw [hw9] at hgo; exact hgo
  clear hw9 hRR hE ha hd hg
  go_enter Tryd.func7, Tryd.ntmps7
  refine wp_forget (n := 134) (L := [(2, .slice d D.length cd), (1, .slice a A.length ca), (0, .int .i64 i)]) (FrL.add (FrL.add (FrL.add (FrL.nil ?_ ?_) _ _ ?_) _ _ ?_) _ _ ?_) ?_
  iterate 5 rfl
  intro a9 F
  refine wp_seq ?_
  refine wp_region_lit ?_
  refine fr_ch F 1 [(6, .bool false)] (by kernel_rfl) ?_
  clear F a9
  intro a9 F
  refine wpList_nil ?_
  show Code.wp _ _ _ _ _
  replace F := F.cut [(2, .slice d D.length cd), (1, .slice a A.length ca), (0, .int .i64 i)] (by kernel_rfl)
  refine wp_seq ?_
  refine wp_seq ?_
  refine wp_region_lit ?_
  refine fr_ch F 1 [(14, .slice a A.length ca)] (by kernel_rfl) ?_
  clear F a9
  intro a9 F
  refine fr_call F (wanted_free rfl) 15 rfl (by decide) 26 #[.slice a A.length ca] (by intro a' F'; have h14 := F'.at' 14 _ rfl; go_simp) (HGR.out _ (HRA.out.below HK.low)) ?_
  rintro e9 w8 ⟨rfl, rfl⟩
  refine ⟨_, rfl, ?_⟩
  clear F a9
  intro a9 F
  refine wpList_nil ?_
  show Code.wp _ _ _ _ _
  refine wp_cond_false (F.ev 15 rfl) ?_
  refine wp_skip ?_
  show Code.wp _ _ _ _ _
  replace F := F.cut [(2, .slice d D.length cd), (1, .slice a A.length ca), (0, .int .i64 i)] (by kernel_rfl)
  refine wp_seq ?_
  refine wp_region_lit ?_
  refine fr_ch F 1 [(17, .int .i64 i)] (by kernel_rfl) ?_
  clear F a9
  intro a9 F
  refine fr_call F (wanted_free rfl) 18 rfl (by decide) 18 #[.int .i64 i] (by intro a' F'; have h17 := F'.at' 17 _ rfl; go_simp) (frame_New_no i hi w9) ?_
  rintro e9 w8 ⟨rfl, rfl⟩
  refine ⟨_, rfl, ?_⟩
  clear F a9
  intro a9 F
  refine fr_mv F (wanted_free rfl) 19 rfl (by decide) 0 rfl rfl ?_
  clear F a9
  intro a9 F
  refine fr_call F (wanted_free rfl) 20 rfl (by decide) 18 #[.int .i64 i] (by intro a' F'; have h19 := F'.at' 19 _ rfl; go_simp) (frame_New_no i hi w9) ?_
  rintro e9 w8 ⟨rfl, rfl⟩
  refine ⟨_, rfl, ?_⟩
  clear F a9
  intro a9 F
  refine fr_as F (wanted_free rfl) 7 rfl (by decide) 18 rfl rfl ?_
  clear F a9
  intro a9 F
  refine fr_as F (wanted_free rfl) 8 rfl (by decide) 20 rfl rfl ?_
  clear F a9
  intro a9 F
  refine wpList_nil ?_
  show Code.wp _ _ _ _ _
  replace F := F.cut [(8, .pointer none), (7, .pointer none)] (by kernel_rfl)
  refine wp_seq ?_
  refine wp_seq ?_
  refine wp_region_lit ?_
  refine fr_ch F 6 [(26, .bool true)] (by kernel_rfl) ?_
  clear F a9
  intro a9 F
  refine wpList_nil ?_
  show Code.wp _ _ _ _ _
  refine wp_cond_true (F.ev 26 rfl) ?_
  refine wp_seq ?_
  refine wp_region_lit ?_
  refine fr_ch F 7 [(33, .bool true)] (by kernel_rfl) ?_
  clear F a9
  intro a9 F
  refine fr_call F (by rw [wanted_at F rfl (t := 33) (b := true) (by kernel_rfl) rfl]; rfl) 34 rfl (by decide) 25 #[] (by intro a' F'; go_simp) (law06_awake _ HK.env) ?_
  rintro e9 w8 ⟨rfl, hb8⟩
  replace HK := HK.below hb8
  clear hb8
  clear w9
  rename World => w9
  refine ⟨_, rfl, ?_⟩
  clear F a9
  intro a9 F
  refine fr_ch F 2 [(6, .bool true), (35, .bool true)] (by kernel_rfl) ?_
  clear F a9
  intro a9 F
  refine wpList_nil ?_
  show Code.wp _ _ _ _ _
  refine wp_ret ?_
  exact fr_ret1 F rfl _ rfl (FIN.out _ HK.low)
set_option maxRecDepth 100000 in
set_option maxHeartbeats 4000000 in
theorem fchunk_good (a : Option Addr) (ca : Nat) (A : List ByteArray) (d : Option Addr) (cd : Nat) (D : List Bool) (w : World) (hE : Env w) (ha : CellsA w a (A.map Value.string)) (hA : A.length ≤ 9223372036854775807) (hd : CellsA w d (D.map Value.bool)) (hD : D.length ≤ 9223372036854775807) (m : Nat) (h1 : 16 ≤ m) (h2 : m ≤ 65536) (hg : greatZ A = false) : Calls Tryd.prog 7 #[.int .i64 (m : Int), .slice a A.length ca, .slice d D.length cd] w fun e w' => e = .returned (.bool true) ∧ Below w.heap.size w w' := by
  have hsz := great_sum hg
  have HGR := Lib.hid (show ∀ w9, CellsA w9 a (A.map Value.string) → Calls Tryd.prog 26 #[.slice a A.length ca] w9 fun e w' => e = .returned (.bool false) ∧ w9 = w' from fun w9 h1 => by
    have h2 := law06_Great a ca A w9 h1 hA
    rw [hg] at h2
    exact h2)
  have HRA := Lib.hid ha
  have HRD := Lib.hid hd
  obtain ⟨RR, hRR⟩ : ∃ RR : Ending → World → Prop, RR = fun e w' => e = .returned (.bool true) ∧ Below w.heap.size w w' := ⟨_, rfl⟩
  have FIN := Lib.hid (show ∀ w', Below w.heap.size w w' → RR (.returned (.bool true)) w' from fun w' hb => by rw [hRR]; exact ⟨rfl, hb⟩)
  rw [← hRR]
  obtain ⟨w9, hw9⟩ : ∃ w9, w9 = w := ⟨_, rfl⟩
  have HK : Keep w [] [] w9 := by rw [hw9]; exact Keep.begin hE _ (by intro r hr; cases hr)
  suffices hgo : Calls Tryd.prog 7 #[.int .i64 (m : Int), .slice a A.length ca, .slice d D.length cd] w9 RR by rw [hw9] at hgo; exact hgo
  clear hw9 hRR hE ha hd hg
  go_enter Tryd.func7, Tryd.ntmps7
  refine wp_forget (n := 134) (L := [(2, .slice d D.length cd), (1, .slice a A.length ca), (0, .int .i64 (m : Int))]) (FrL.add (FrL.add (FrL.add (FrL.nil ?_ ?_) _ _ ?_) _ _ ?_) _ _ ?_) ?_
  iterate 5 rfl
  intro a9 F
  refine wp_seq ?_
  refine wp_region_lit ?_
  refine fr_ch F 1 [(6, .bool false)] (by kernel_rfl) ?_
  clear F a9
  intro a9 F
  refine wpList_nil ?_
  show Code.wp _ _ _ _ _
  replace F := F.cut [(2, .slice d D.length cd), (1, .slice a A.length ca), (0, .int .i64 (m : Int))] (by kernel_rfl)
  refine wp_seq ?_
  refine wp_seq ?_
  refine wp_region_lit ?_
  refine fr_ch F 1 [(14, .slice a A.length ca)] (by kernel_rfl) ?_
  clear F a9
  intro a9 F
  refine fr_call F (wanted_free rfl) 15 rfl (by decide) 26 #[.slice a A.length ca] (by intro a' F'; have h14 := F'.at' 14 _ rfl; go_simp) (HGR.out _ (HRA.out.below HK.low)) ?_
  rintro e9 w8 ⟨rfl, rfl⟩
  refine ⟨_, rfl, ?_⟩
  clear F a9
  intro a9 F
  refine wpList_nil ?_
  show Code.wp _ _ _ _ _
  refine wp_cond_false (F.ev 15 rfl) ?_
  refine wp_skip ?_
  show Code.wp _ _ _ _ _
  replace F := F.cut [(2, .slice d D.length cd), (1, .slice a A.length ca), (0, .int .i64 (m : Int))] (by kernel_rfl)
  refine wp_seq ?_
  refine wp_region_lit ?_
  refine fr_ch F 1 [(17, .int .i64 (m : Int))] (by kernel_rfl) ?_
  clear F a9
  intro a9 F
  refine fr_call F (wanted_free rfl) 18 rfl (by decide) 18 #[.int .i64 (m : Int)] (by intro a' F'; have h17 := F'.at' 17 _ rfl; go_simp) (frame_New2 m h1 h2 HK) ?_
  rintro e9 w8 ⟨X, rfl, HK2, hb8⟩
  clear HK hb8
  clear w9
  rename World => w9
  have HK := HK2
  clear HK2
  refine ⟨_, rfl, ?_⟩
  clear F a9
  intro a9 F
  refine fr_mv F (wanted_free rfl) 19 rfl (by decide) 0 rfl rfl ?_
  clear F a9
  intro a9 F
  refine fr_call F (wanted_free rfl) 20 rfl (by decide) 18 #[.int .i64 (m : Int)] (by intro a' F'; have h19 := F'.at' 19 _ rfl; go_simp) (frame_New2 m h1 h2 HK) ?_
  rintro e9 w8 ⟨Y, rfl, HK2, hb8⟩
  clear HK hb8
  clear w9
  rename World => w9
  have HK := HK2
  clear HK2
  refine ⟨_, rfl, ?_⟩
  clear F a9
  intro a9 F
  refine fr_as F (wanted_free rfl) 7 rfl (by decide) 18 rfl rfl ?_
  clear F a9
  intro a9 F
  refine fr_as F (wanted_free rfl) 8 rfl (by decide) 20 rfl rfl ?_
  clear F a9
  intro a9 F
  refine wpList_nil ?_
  show Code.wp _ _ _ _ _
  have HFC : FrC w (gB Y m) X m [] 0 w9 := ⟨none, 0, HK.swap, out_nil _ _⟩
  have HB0 : ∀ x ∈ gB Y m, x.2.2 ≠ 5 := by
    intro x hx
    simp at hx
    subst hx
    exact (by decide : 54 ≠ 5)
  have HB1 : ∀ x ∈ gB Y m, x.2.2 ≠ 51 := by
    intro x hx
    simp at hx
    subst hx
    exact (by decide : 54 ≠ 51)
  clear HK
  replace F := F.cut [(8, .pointer (some ⟨Y, 0, none⟩)), (7, .pointer (some ⟨X, 0, none⟩)), (2, .slice d D.length cd), (1, .slice a A.length ca)] (by kernel_rfl)
  refine wp_seq ?_
  refine wp_seq ?_
  refine wp_region_lit ?_
  refine fr_ch F 6 [(26, .bool false), (25, .bool false), (24, .pointer (some ⟨Y, 0, none⟩))] (by kernel_rfl) ?_
  clear F a9
  intro a9 F
  refine wpList_nil ?_
  show Code.wp _ _ _ _ _
  refine wp_cond_false (F.ev 26 rfl) ?_
  refine wp_skip ?_
  show Code.wp _ _ _ _ _
  replace F := F.cut [(8, .pointer (some ⟨Y, 0, none⟩)), (7, .pointer (some ⟨X, 0, none⟩)), (2, .slice d D.length cd), (1, .slice a A.length ca)] (by kernel_rfl)
  refine wp_seq ?_
  refine wp_region_lit ?_
  refine fr_ch F 1 [(9, .string ⟨#[]⟩)] (by kernel_rfl) ?_
  clear F a9
  intro a9 F
  refine wpList_nil ?_
  show Code.wp _ _ _ _ _
  refine wp_seq ?_
  refine wp_region_lit ?_
  refine fr_ch F 1 [(10, .slice none 0 0)] (by kernel_rfl) ?_
  clear F a9
  intro a9 F
  refine wpList_nil ?_
  show Code.wp _ _ _ _ _
  refine wp_seq ?_
  refine wp_seq ?_
  refine wp_region_lit ?_
  refine fr_ch F 1 [(11, .int .i64 0)] (by kernel_rfl) ?_
  clear F a9
  intro a9 F
  refine wpList_nil ?_
  show Code.wp _ _ _ _ _
  replace F := F.cut [(11, .int .i64 0), (10, .slice none 0 0), (9, .string ⟨#[]⟩), (8, .pointer (some ⟨Y, 0, none⟩)), (7, .pointer (some ⟨X, 0, none⟩)), (2, .slice d D.length cd), (1, .slice a A.length ca)] (by kernel_rfl)
  refine wp_block_end (fun a' w' => ∃ (T : List TdE) (aT : Option Addr) (cT : Nat) (J : ByteArray) (Lf : Bs), (∃ kk : Nat, FrL 134 [(11, .int .i64 (kk : Int)), (10, .slice aT T.length cT), (9, .string J), (8, .pointer (some ⟨Y, 0, none⟩)), (7, .pointer (some ⟨X, 0, none⟩)), (2, .slice d D.length cd), (1, .slice a A.length ca)] a') ∧ (∃ er, FrC w (gB Y m) X m Lf er w' ∧ ((er = 0 ∧ Jt m (catZ A) Lf T) ∨ (er ≠ 0 ∧ T.map tp = toldR m (catZ A) ∧ (tellR m (catZ A)).2 = (Lf, er) ∧ T.length ≤ 10002 ∧ ∃ x, T[T.length - 1]? = some x ∧ x.2 ≠ 0))) ∧ w'.ownsRow w.heap.size 51 25 (.slice aT T.length cT) T.length (tdCells T) ∧ SubsIn w' w.heap.size T ∧ J.size ≤ sumZ A) ?_ ?_
  · skip
    refine wp_loop (fun a' w' => ∃ (k : Nat), k ≤ A.length ∧ ∃ (T : List TdE) (aT : Option Addr) (cT : Nat) (J : ByteArray) (Lf : Bs), FrL 134 [(11, .int .i64 (k : Int)), (10, .slice aT T.length cT), (9, .string J), (8, .pointer (some ⟨Y, 0, none⟩)), (7, .pointer (some ⟨X, 0, none⟩)), (2, .slice d D.length cd), (1, .slice a A.length ca)] a' ∧ FrC w (gB Y m) X m Lf 0 w' ∧ w'.ownsRow w.heap.size 51 25 (.slice aT T.length cT) T.length (tdCells T) ∧ SubsIn w' w.heap.size T ∧ Jt m (catZ (A.take (k))) Lf T ∧ J.size = sumZ (A.take (k))) (fun a' _ => muI A.length 11 a') ⟨0, Nat.zero_le _, [], none, 0, ⟨#[]⟩, [], F, HFC, World.ownsRow_nil _ _ _ _, (by intro x hx; cases hx), jt_nil m, rfl⟩ ?_
    clear F HFC a9 w9
    rintro a9 w9 ⟨k, hk, T, aT, cT, J, Lf, F, HFC, HT, HS, hj, hJ⟩
    rw [muI_at F 11 k rfl]
    have HJ := Lib.hid hj
    have hjl := jt_len hj
    have hjn := hj.len
    have hcl := catZ_len (A.take k)
    have hst0 := sumZ_take A k
    clear hj
    refine wp_seq ?_
    refine wp_seq ?_
    by_cases hlt : k < A.length
    · skip
      refine wp_region_lit ?_
      refine fr_mv F (wanted_free rfl) 36 rfl (by decide) 11 rfl rfl ?_
      clear F a9
      intro a9 F
      refine fr_mv F (wanted_free rfl) 37 rfl (by decide) 1 rfl rfl ?_
      clear F a9
      intro a9 F
      refine fr_ch F 1 [(38, .int .i64 (A.length : Int))] (by kernel_rfl) ?_
      clear F a9
      intro a9 F
      refine fr_do F (wanted_free rfl) 39 rfl (by decide) (.bool true) (by intro a' F'; have h36 := F'.at' 36 _ rfl; have h38 := F'.at' 38 _ rfl; go_simp) ?_
      clear F a9
      intro a9 F
      refine wpList_nil ?_
      show Code.wp _ _ _ _ _
      refine wp_cond_true (F.ev 39 rfl) ?_
      refine wp_skip ?_
      show Code.wp _ _ _ _ _
      replace F := F.cut [(11, .int .i64 (k : Int)), (10, .slice aT T.length cT), (9, .string J), (8, .pointer (some ⟨Y, 0, none⟩)), (7, .pointer (some ⟨X, 0, none⟩)), (2, .slice d D.length cd), (1, .slice a A.length ca)] (by kernel_rfl)
      obtain ⟨x, hx⟩ : ∃ x, A[k]? = some x := ⟨_, List.getElem?_eq_getElem hlt⟩
      obtain ⟨bb, oo, hal, hc0⟩ := HRA.out k (.string x) (by rw [List.getElem?_map, hx]; rfl)
      have HC := Lib.hid (show ∀ w9, Below w.heap.size w w9 → w9.cell? ⟨bb, oo + k, none⟩ = some (.string x) from fun w9 hb => (hb.cell (p := ⟨bb, oo + k, none⟩) (World.block_lt_of_cell? _ _ hc0)).trans hc0)
      have HCAT := Lib.hid (catZ_snoc hx)
      have hsn := sumZ_snoc hx
      have hst := sumZ_take A (k + 1)
      have hcat : ¬ 9223372036854775807 < J.size + x.size := by omega
      have hxl : (bl x).length = x.size := bl_len x
      have hll : (Lf ++ bl x).length = Lf.length + x.size := by rw [List.length_append, hxl]
      have HJ2 := Lib.hid (show Jt m (catZ (A.take (k + 1))) (Lf ++ bl x) T from by rw [HCAT.out]; exact jt_push HJ.out (bl x))
      have hjl2 := jt_len HJ2.out
      have hjn2 := HJ2.out.len
      have hcl2 := catZ_len (A.take (k + 1))
      have hJ2 : (J ++ x).size = sumZ (A.take (k + 1)) := by rw [ByteArray.size_append, hJ, hsn]
      clear hc0 hx hjl hjn
      refine wp_seq ?_
      refine wp_block_end (fun a' w' => ∃ (T : List TdE) (aT : Option Addr) (cT : Nat) (J : ByteArray) (Lf : Bs), FrL 134 [(11, .int .i64 (k : Int)), (10, .slice aT T.length cT), (9, .string J), (8, .pointer (some ⟨Y, 0, none⟩)), (7, .pointer (some ⟨X, 0, none⟩)), (2, .slice d D.length cd), (1, .slice a A.length ca)] a' ∧ FrC w (gB Y m) X m Lf 0 w' ∧ w'.ownsRow w.heap.size 51 25 (.slice aT T.length cT) T.length (tdCells T) ∧ SubsIn w' w.heap.size T ∧ Jt m (catZ (A.take (k + 1))) Lf T ∧ J.size = sumZ (A.take (k + 1))) ?_ ?_
      · skip
        refine wp_seq ?_
        refine wp_region_lit ?_
        refine fr_ch F 3 [(44, .int .i64 (k : Int)), (43, .slice a A.length ca), (42, .string J)] (by kernel_rfl) ?_
        clear F a9
        intro a9 F
        refine fr_do F (wanted_free rfl) 45 rfl (by decide) (.pointer (some ⟨bb, oo + k, none⟩)) (by intro a' F'; have h43 := F'.at' 43 _ rfl; have h44 := F'.at' 44 _ rfl; go_simp) ?_
        clear F a9
        intro a9 F
        refine fr_do F (wanted_free rfl) 46 rfl (by decide) (.string x) (by intro a' F'; have h45 := F'.at' 45 _ rfl; have hc := HC.out _ HFC.low; go_simp) ?_
        clear F a9
        intro a9 F
        refine fr_do F (wanted_free rfl) 47 rfl (by decide) (.string (J ++ x)) (by intro a' F'; have h42 := F'.at' 42 _ rfl; have h46 := F'.at' 46 _ rfl; go_simp <;> omega) ?_
        clear F a9
        intro a9 F
        refine fr_ch F 1 [(9, .string (J ++ x))] (by kernel_rfl) ?_
        clear F a9
        intro a9 F
        refine wpList_nil ?_
        show Code.wp _ _ _ _ _
        replace F := F.cut [(11, .int .i64 (k : Int)), (10, .slice aT T.length cT), (9, .string (J ++ x)), (8, .pointer (some ⟨Y, 0, none⟩)), (7, .pointer (some ⟨X, 0, none⟩)), (2, .slice d D.length cd), (1, .slice a A.length ca)] (by kernel_rfl)
        refine wp_seq ?_
        refine wp_region_lit ?_
        refine fr_ch F 3 [(50, .int .i64 (k : Int)), (49, .slice a A.length ca), (48, .pointer (some ⟨X, 0, none⟩))] (by kernel_rfl) ?_
        clear F a9
        intro a9 F
        refine fr_do F (wanted_free rfl) 51 rfl (by decide) (.pointer (some ⟨bb, oo + k, none⟩)) (by intro a' F'; have h49 := F'.at' 49 _ rfl; have h50 := F'.at' 50 _ rfl; go_simp) ?_
        clear F a9
        intro a9 F
        refine fr_do F (wanted_free rfl) 52 rfl (by decide) (.string x) (by intro a' F'; have h51 := F'.at' 51 _ rfl; have hc := HC.out _ HFC.low; go_simp) ?_
        clear F a9
        intro a9 F
        refine fr_call F (wanted_free rfl) 53 rfl (by decide) 19 #[.pointer (some ⟨X, 0, none⟩), .string x] (by intro a' F'; have h48 := F'.at' 48 _ rfl; have h52 := F'.at' 52 _ rfl; go_simp) (frame_Push HFC (by omega) HB0 x (by omega)) ?_
        rintro e9 w8 ⟨rfl, hfc, hon⟩
        replace HT := hon.own HT (nfre _ (by decide) (by decide))
        replace HS := HS.only hon (nfre _ (by decide) (by decide))
        clear HFC hon
        clear w9
        rename World => w9
        have HFC := hfc
        clear hfc
        refine ⟨_, rfl, ?_⟩
        clear F a9
        intro a9 F
        refine wpList_nil ?_
        show Code.wp _ _ _ _ _
        replace F := F.cut [(11, .int .i64 (k : Int)), (10, .slice aT T.length cT), (9, .string (J ++ x)), (8, .pointer (some ⟨Y, 0, none⟩)), (7, .pointer (some ⟨X, 0, none⟩)), (2, .slice d D.length cd), (1, .slice a A.length ca)] (by kernel_rfl)
        by_cases hld : k < D.length
        · skip
          obtain ⟨y, hy⟩ : ∃ y, D[k]? = some y := ⟨_, List.getElem?_eq_getElem hld⟩
          obtain ⟨b2, o2, hdl, hc0⟩ := HRD.out k (.bool y) (by rw [List.getElem?_map, hy]; rfl)
          have HC2 := Lib.hid (show ∀ w9, Below w.heap.size w w9 → w9.cell? ⟨b2, o2 + k, none⟩ = some (.bool y) from fun w9 hb => (hb.cell (p := ⟨b2, o2 + k, none⟩) (World.block_lt_of_cell? _ _ hc0)).trans hc0)
          clear hc0 hy
          cases y
          · refine wp_seq ?_
            refine wp_region_lit ?_
            refine fr_ch F 3 [(56, .int .i64 (D.length : Int)), (55, .slice d D.length cd), (54, .int .i64 (k : Int))] (by kernel_rfl) ?_
            clear F a9
            intro a9 F
            refine fr_do F (wanted_free rfl) 57 rfl (by decide) (.bool true) (by intro a' F'; have h54 := F'.at' 54 _ rfl; have h56 := F'.at' 56 _ rfl; go_simp) ?_
            clear F a9
            intro a9 F
            refine fr_ch F 1 [(58, .bool true)] (by kernel_rfl) ?_
            clear F a9
            intro a9 F
            refine fr_mv F (by rw [wanted_at F rfl (t := 58) (b := true) (by kernel_rfl) rfl]; rfl) 59 rfl (by decide) 2 rfl rfl ?_
            clear F a9
            intro a9 F
            refine fr_mv F (by rw [wanted_at F rfl (t := 58) (b := true) (by kernel_rfl) rfl]; rfl) 60 rfl (by decide) 11 rfl rfl ?_
            clear F a9
            intro a9 F
            refine fr_do F (by rw [wanted_at F rfl (t := 58) (b := true) (by kernel_rfl) rfl]; rfl) 61 rfl (by decide) (.pointer (some ⟨b2, o2 + k, none⟩)) (by intro a' F'; have h59 := F'.at' 59 _ rfl; have h60 := F'.at' 60 _ rfl; go_simp) ?_
            clear F a9
            intro a9 F
            refine fr_do F (by rw [wanted_at F rfl (t := 58) (b := true) (by kernel_rfl) rfl]; rfl) 62 rfl (by decide) (.bool false) (by intro a' F'; have h61 := F'.at' 61 _ rfl; have hc := HC2.out _ HFC.low; go_simp) ?_
            clear F a9
            intro a9 F
            refine fr_ch F 1 [(63, .bool false)] (by kernel_rfl) ?_
            clear F a9
            intro a9 F
            refine wpList_nil ?_
            show Code.wp _ _ _ _ _
            refine wp_cond_false (F.ev 63 rfl) ?_
            refine wp_skip ?_
            exact ⟨T, aT, cT, J ++ x, Lf ++ bl x, ((((((((FrL.nil F.size F.defers).add 1 _ (F.at' 1 _ rfl)).add 2 _ (F.at' 2 _ rfl)).add 7 _ (F.at' 7 _ rfl)).add 8 _ (F.at' 8 _ rfl)).add 9 _ (F.at' 9 _ rfl)).add 10 _ (F.at' 10 _ rfl)).add 11 _ (F.at' 11 _ rfl)), HFC, HT, HS, HJ2.out, hJ2⟩
          · refine wp_seq ?_
            refine wp_region_lit ?_
            refine fr_mv F (wanted_free rfl) 54 rfl (by decide) 11 rfl rfl ?_
            clear F a9
            intro a9 F
            refine fr_mv F (wanted_free rfl) 55 rfl (by decide) 2 rfl rfl ?_
            clear F a9
            intro a9 F
            refine fr_ch F 1 [(56, .int .i64 (D.length : Int))] (by kernel_rfl) ?_
            clear F a9
            intro a9 F
            refine fr_do F (wanted_free rfl) 57 rfl (by decide) (.bool true) (by intro a' F'; have h54 := F'.at' 54 _ rfl; have h56 := F'.at' 56 _ rfl; go_simp) ?_
            clear F a9
            intro a9 F
            refine fr_ch F 1 [(58, .bool true)] (by kernel_rfl) ?_
            clear F a9
            intro a9 F
            refine fr_mv F (by rw [wanted_at F rfl (t := 58) (b := true) (by kernel_rfl) rfl]; rfl) 59 rfl (by decide) 2 rfl rfl ?_
            clear F a9
            intro a9 F
            refine fr_mv F (by rw [wanted_at F rfl (t := 58) (b := true) (by kernel_rfl) rfl]; rfl) 60 rfl (by decide) 11 rfl rfl ?_
            clear F a9
            intro a9 F
            refine fr_do F (by rw [wanted_at F rfl (t := 58) (b := true) (by kernel_rfl) rfl]; rfl) 61 rfl (by decide) (.pointer (some ⟨b2, o2 + k, none⟩)) (by intro a' F'; have h59 := F'.at' 59 _ rfl; have h60 := F'.at' 60 _ rfl; go_simp) ?_
            clear F a9
            intro a9 F
            refine fr_do F (by rw [wanted_at F rfl (t := 58) (b := true) (by kernel_rfl) rfl]; rfl) 62 rfl (by decide) (.bool true) (by intro a' F'; have h61 := F'.at' 61 _ rfl; have hc := HC2.out _ HFC.low; go_simp) ?_
            clear F a9
            intro a9 F
            refine fr_ch F 1 [(63, .bool true)] (by kernel_rfl) ?_
            clear F a9
            intro a9 F
            refine wpList_nil ?_
            show Code.wp _ _ _ _ _
            refine wp_cond_true (F.ev 63 rfl) ?_
            replace F := F.cut [(11, .int .i64 (k : Int)), (10, .slice aT T.length cT), (9, .string (J ++ x)), (8, .pointer (some ⟨Y, 0, none⟩)), (7, .pointer (some ⟨X, 0, none⟩)), (2, .slice d D.length cd), (1, .slice a A.length ca)] (by kernel_rfl)
            refine wp_seq ?_
            refine wp_region_lit ?_
            refine fr_ch F 2 [(65, .pointer (some ⟨X, 0, none⟩)), (64, .slice aT T.length cT)] (by kernel_rfl) ?_
            clear F a9
            intro a9 F
            refine fr_call F (wanted_free rfl) 66 rfl (by decide) 23 #[.pointer (some ⟨X, 0, none⟩)] (by intro a' F'; have h65 := F'.at' 65 _ rfl; go_simp) (drain_free HFC (by omega) (by omega) HB0 HB1 (by omega)) ?_
            rintro e9 w8 ⟨U, aU, cU, rfl, HTU, HSU, hUm, hfc, hon⟩
            replace HT := hon.own HT (nfre _ (by decide) (by decide))
            replace HS := HS.only hon (nfre _ (by decide) (by decide))
            have HTU2 := own_base HTU HFC.low.size
            have HSU2 : SubsIn w8 w.heap.size U := fun x hx => own_base (HSU x hx) HFC.low.size
            clear HFC hon HTU HSU
            clear w9
            rename World => w9
            have HFC := hfc
            have HTU := HTU2
            have HSU := HSU2
            clear hfc HTU2 HSU2
            have HUM := Lib.hid hUm
            have hul := told_lens hUm
            clear hUm
            refine ⟨_, rfl, ?_⟩
            clear F a9
            intro a9 F
            obtain ⟨ax, cx, HK, HO⟩ := HFC
            obtain ⟨i0, hi, hz0, hz1, hz2⟩ := info_parts infoTold
            refine fr_appendP F rfl 67 rfl (by decide) (.tmp 64) (.tmp 66) 48 rfl w.heap.size 51 i0 _ 25 208 Tryd.underlying48 hi hz0 hz1 hz2 rfl (by decide) (.slice aT T.length cT) T.length (tdCells T) (F.ev 64 rfl) HT aU U.length cU (own_none HTU) (tdCells U) (F.ev 66 rfl) (tdCells_len U) (own_cells HTU) (tdCells_one U) (by unfold maxLen; omega) (by omega) HK.size ?_
            intro v8 w8 hown hgr
            clear hi hz0 hz1 hz2 i0
            have HK2 := HK.grownBox HT (Nat.le_refl _) hgr (by
              intro x hx
              rcases List.mem_cons.1 hx with rfl | hx
              · exact (by decide : 54 ≠ 51)
              · exact HB1 x hx)
            have HO2 := own_grownE HO HT hgr (by decide)
            have HS2 : SubsIn w8 w.heap.size (T ++ U) := by
              intro x hx
              rcases List.mem_append.1 hx with hx | hx
              · exact own_grownE (HS x hx) HT hgr (by decide)
              · exact own_grownE (HSU x hx) HT hgr (by decide)
            obtain ⟨a3, c3, hv8, hx1, hx2⟩ := own_form hown
            clear hx1 hx2
            subst hv8
            clear HK HO HS HT HTU HSU hgr
            clear w9
            rename World => w9
            have HFC : FrC w (gB Y m) X m (tellR m (Lf ++ bl x)).2.1 (tellR m (Lf ++ bl x)).2.2 w9 := ⟨ax, cx, HK2, HO2⟩
            have HS := HS2
            have HT : w9.ownsRow w.heap.size 51 25 (.slice a3 (T ++ U).length c3) (T ++ U).length (tdCells (T ++ U)) := by
              rw [tdCells_app, List.length_append]
              exact hown
            clear HK2 HO2 HS2 hown
            rw [← List.length_append]
            intro a10 F'
            clear F a9
            rename Act => a9
            have F := F'
            clear F'
            refine fr_as F (wanted_free rfl) 10 rfl (by decide) 67 rfl rfl ?_
            clear F a9
            intro a9 F
            refine wpList_nil ?_
            show Code.wp _ _ _ _ _
            replace F := F.cut [(11, .int .i64 (k : Int)), (10, .slice a3 (T ++ U).length c3), (9, .string (J ++ x)), (8, .pointer (some ⟨Y, 0, none⟩)), (7, .pointer (some ⟨X, 0, none⟩)), (2, .slice d D.length cd), (1, .slice a A.length ca)] (by kernel_rfl)
            obtain ⟨V, hV⟩ : ∃ V, T ++ U = V := ⟨_, rfl⟩
            have hVl : V.length ≤ T.length + U.length := by rw [← hV, List.length_append]; exact Nat.le_refl _
            rw [hV] at F HT HS
            obtain ⟨er, her⟩ : ∃ er, (tellR m (Lf ++ bl x)).2.2 = er := ⟨_, rfl⟩
            have HER := Lib.hid her
            rw [her] at HFC
            clear her
            by_cases he0 : er = 0
            · subst he0
              have HJ3 := Lib.hid (show Jt m (catZ (A.take (k + 1))) (tellR m (Lf ++ bl x)).2.1 V from by rw [← hV]; exact jt_drain HJ2.out HER.out HUM.out)
              have hFIN := Lib.hid (show ∀ (a9 : Act) (w9 : World), FrL 134 [(11, .int .i64 (k : Int)), (10, .slice a3 V.length c3), (9, .string (J ++ x)), (8, .pointer (some ⟨Y, 0, none⟩)), (7, .pointer (some ⟨X, 0, none⟩)), (2, .slice d D.length cd), (1, .slice a A.length ca)] a9 → FrC w (gB Y m) X m (tellR m (Lf ++ bl x)).2.1 0 w9 → w9.ownsRow w.heap.size 51 25 (.slice a3 V.length c3) V.length (tdCells V) ∧ SubsIn w9 w.heap.size V → ∃ (T : List TdE) (aT : Option Addr) (cT : Nat) (J : ByteArray) (Lf : Bs), FrL 134 [(11, .int .i64 (k : Int)), (10, .slice aT T.length cT), (9, .string J), (8, .pointer (some ⟨Y, 0, none⟩)), (7, .pointer (some ⟨X, 0, none⟩)), (2, .slice d D.length cd), (1, .slice a A.length ca)] a9 ∧ FrC w (gB Y m) X m Lf 0 w9 ∧ w9.ownsRow w.heap.size 51 25 (.slice aT T.length cT) T.length (tdCells T) ∧ SubsIn w9 w.heap.size T ∧ Jt m (catZ (A.take (k + 1))) Lf T ∧ J.size = sumZ (A.take (k + 1)) from fun a9 w9 h3 h4 h5 => ⟨V, a3, c3, J ++ x, _, h3, h4, h5.1, h5.2, HJ3.out, hJ2⟩)
              refine wp_seq ?_
              by_cases hv0 : V.length = 0
              · skip
                refine wp_region_lit ?_
                refine fr_mv F (wanted_free rfl) 68 rfl (by decide) 10 rfl rfl ?_
                clear F a9
                intro a9 F
                refine fr_do F (wanted_free rfl) 69 rfl (by decide) (.int .i64 (V.length : Int)) (by intro a' F'; have h68 := F'.at' 68 _ rfl; go_simp) ?_
                clear F a9
                intro a9 F
                refine fr_do F (wanted_free rfl) 70 rfl (by decide) (.bool false) (by intro a' F'; have h69 := F'.at' 69 _ rfl; go_simp) ?_
                clear F a9
                intro a9 F
                refine fr_ch F 10 [(80, .bool false), (79, undef), (78, undef), (77, undef), (76, undef), (75, undef), (74, undef), (73, undef), (72, undef), (71, .bool false)] (by kernel_rfl) ?_
                clear F a9
                intro a9 F
                refine wpList_nil ?_
                show Code.wp _ _ _ _ _
                refine wp_cond_false (F.ev 80 rfl) ?_
                refine wp_skip ?_
                exact hFIN.out _ _ ((((((((FrL.nil F.size F.defers).add 1 _ (F.at' 1 _ rfl)).add 2 _ (F.at' 2 _ rfl)).add 7 _ (F.at' 7 _ rfl)).add 8 _ (F.at' 8 _ rfl)).add 9 _ (F.at' 9 _ rfl)).add 10 _ (F.at' 10 _ rfl)).add 11 _ (F.at' 11 _ rfl)) HFC ⟨HT, HS⟩
              · skip
                obtain ⟨x3, hx3⟩ : ∃ x3, V[V.length - 1]? = some x3 := ⟨_, List.getElem?_eq_getElem (by omega)⟩
                obtain ⟨e3, he3⟩ : ∃ e3, x3.2 = e3 := ⟨_, rfl⟩
                have h30 : e3 = 0 := by rw [← he3]; exact HJ3.out.zero x3 (List.mem_of_getElem? hx3)
                obtain ⟨bb3, oo3, hal3, HC3⟩ : ∃ b o, a3 = some ⟨b, o, none⟩ ∧ Hid (w9.cell? ⟨b, o + (V.length - 1) * 25 + 24, none⟩ = some (.int .i64 (e3 : Int))) := by
                  obtain ⟨b, o, h3, h4, _⟩ := td_range (own_cells HT) hx3
                  refine ⟨b, o, h3, Lib.hid (h4 24 _ ?_)⟩
                  rw [← he3]
                  rfl
                subst h30
                clear hx3 he3
                refine wp_region_lit ?_
                refine fr_mv F (wanted_free rfl) 68 rfl (by decide) 10 rfl rfl ?_
                clear F a9
                intro a9 F
                refine fr_do F (wanted_free rfl) 69 rfl (by decide) (.int .i64 (V.length : Int)) (by intro a' F'; have h68 := F'.at' 68 _ rfl; go_simp) ?_
                clear F a9
                intro a9 F
                refine fr_do F (wanted_free rfl) 70 rfl (by decide) (.bool true) (by intro a' F'; have h69 := F'.at' 69 _ rfl; go_simp <;> omega) ?_
                clear F a9
                intro a9 F
                refine fr_ch F 1 [(71, .bool true)] (by kernel_rfl) ?_
                clear F a9
                intro a9 F
                refine fr_mv F (by rw [wanted_at F rfl (t := 71) (b := true) (by kernel_rfl) rfl]; rfl) 72 rfl (by decide) 10 rfl rfl ?_
                clear F a9
                intro a9 F
                refine fr_mv F (by rw [wanted_at F rfl (t := 71) (b := true) (by kernel_rfl) rfl]; rfl) 73 rfl (by decide) 10 rfl rfl ?_
                clear F a9
                intro a9 F
                refine fr_ch F 1 [(74, .int .i64 (V.length : Int))] (by kernel_rfl) ?_
                clear F a9
                intro a9 F
                refine fr_do F (by rw [wanted_at F rfl (t := 71) (b := true) (by kernel_rfl) rfl]; rfl) 75 rfl (by decide) (.int .i64 ((V.length - 1 : Nat) : Int)) (by intro a' F'; have h74 := F'.at' 74 _ rfl; go_simp <;> (rw [IntKind.wrap_i64]; omega)) ?_
                clear F a9
                intro a9 F
                refine fr_do F (by rw [wanted_at F rfl (t := 71) (b := true) (by kernel_rfl) rfl]; rfl) 76 rfl (by decide) (.pointer (some ⟨bb3, oo3 + (V.length - 1) * 25, none⟩)) (by intro a' F'; have h72 := F'.at' 72 _ rfl; have h75 := F'.at' 75 _ rfl; go_simp <;> omega) ?_
                clear F a9
                intro a9 F
                refine fr_ch F 1 [(77, .pointer (some ⟨bb3, oo3 + (V.length - 1) * 25 + 24, none⟩))] (by kernel_rfl) ?_
                clear F a9
                intro a9 F
                refine fr_do F (by rw [wanted_at F rfl (t := 71) (b := true) (by kernel_rfl) rfl]; rfl) 78 rfl (by decide) (.int .i64 (0 : Int)) (by intro a' F'; have h77 := F'.at' 77 _ rfl; have hc := HC3.out; go_simp) ?_
                clear F a9
                intro a9 F
                refine fr_ch F 2 [(80, .bool false), (79, .bool false)] (by kernel_rfl) ?_
                clear F a9
                intro a9 F
                refine wpList_nil ?_
                show Code.wp _ _ _ _ _
                refine wp_cond_false (F.ev 80 rfl) ?_
                refine wp_skip ?_
                exact hFIN.out _ _ ((((((((FrL.nil F.size F.defers).add 1 _ (F.at' 1 _ rfl)).add 2 _ (F.at' 2 _ rfl)).add 7 _ (F.at' 7 _ rfl)).add 8 _ (F.at' 8 _ rfl)).add 9 _ (F.at' 9 _ rfl)).add 10 _ (F.at' 10 _ rfl)).add 11 _ (F.at' 11 _ rfl)) HFC ⟨HT, HS⟩
            · skip
              obtain ⟨x3, hx3, hx0⟩ := last_err (T := T) HUM.out (by rw [HER.out]; exact he0)
              rw [hV] at hx3
              have HX3 := Lib.hid hx3
              have HX0 := Lib.hid hx0
              obtain ⟨e3, he3⟩ : ∃ e3, x3.2 = e3 := ⟨_, rfl⟩
              have h30 : ((e3 : Int) != 0) = true := by rw [bne_iff_ne, ← he3]; omega
              have hv1 : 0 < V.length := by have := (List.getElem?_eq_some_iff.1 hx3).1; omega
              obtain ⟨bb3, oo3, hal3, HC3⟩ : ∃ b o, a3 = some ⟨b, o, none⟩ ∧ Hid (w9.cell? ⟨b, o + (V.length - 1) * 25 + 24, none⟩ = some (.int .i64 (e3 : Int))) := by
                obtain ⟨b, o, h3, h4, _⟩ := td_range (own_cells HT) hx3
                refine ⟨b, o, h3, Lib.hid (h4 24 _ ?_)⟩
                rw [← he3]
                rfl
              clear hx3 he3 hx0
              have HEND := Lib.hid (jt_err HJ2.out (by rw [HER.out]; exact he0) HUM.out (catZ (A.drop (k + 1))))
              refine wp_seq ?_
              refine wp_region_lit ?_
              refine fr_mv F (wanted_free rfl) 68 rfl (by decide) 10 rfl rfl ?_
              clear F a9
              intro a9 F
              refine fr_ch F 1 [(69, .int .i64 (V.length : Int))] (by kernel_rfl) ?_
              clear F a9
              intro a9 F
              refine fr_do F (wanted_free rfl) 70 rfl (by decide) (.bool true) (by intro a' F'; have h69 := F'.at' 69 _ rfl; go_simp) ?_
              clear F a9
              intro a9 F
              refine fr_ch F 1 [(71, .bool true)] (by kernel_rfl) ?_
              clear F a9
              intro a9 F
              refine fr_mv F (by rw [wanted_at F rfl (t := 71) (b := true) (by kernel_rfl) rfl]; rfl) 72 rfl (by decide) 10 rfl rfl ?_
              clear F a9
              intro a9 F
              refine fr_mv F (by rw [wanted_at F rfl (t := 71) (b := true) (by kernel_rfl) rfl]; rfl) 73 rfl (by decide) 10 rfl rfl ?_
              clear F a9
              intro a9 F
              refine fr_ch F 1 [(74, .int .i64 (V.length : Int))] (by kernel_rfl) ?_
              clear F a9
              intro a9 F
              refine fr_do F (by rw [wanted_at F rfl (t := 71) (b := true) (by kernel_rfl) rfl]; rfl) 75 rfl (by decide) (.int .i64 ((V.length - 1 : Nat) : Int)) (by intro a' F'; have h74 := F'.at' 74 _ rfl; go_simp <;> (rw [IntKind.wrap_i64]; omega)) ?_
              clear F a9
              intro a9 F
              refine fr_do F (by rw [wanted_at F rfl (t := 71) (b := true) (by kernel_rfl) rfl]; rfl) 76 rfl (by decide) (.pointer (some ⟨bb3, oo3 + (V.length - 1) * 25, none⟩)) (by intro a' F'; have h72 := F'.at' 72 _ rfl; have h75 := F'.at' 75 _ rfl; go_simp <;> omega) ?_
              clear F a9
              intro a9 F
              refine fr_ch F 1 [(77, .pointer (some ⟨bb3, oo3 + (V.length - 1) * 25 + 24, none⟩))] (by kernel_rfl) ?_
              clear F a9
              intro a9 F
              refine fr_do F (by rw [wanted_at F rfl (t := 71) (b := true) (by kernel_rfl) rfl]; rfl) 78 rfl (by decide) (.int .i64 (e3 : Int)) (by intro a' F'; have h77 := F'.at' 77 _ rfl; have hc := HC3.out; go_simp) ?_
              clear F a9
              intro a9 F
              refine fr_do F (by rw [wanted_at F rfl (t := 71) (b := true) (by kernel_rfl) rfl]; rfl) 79 rfl (by decide) (.bool true) (by intro a' F'; have h78 := F'.at' 78 _ rfl; go_simp) ?_
              clear F a9
              intro a9 F
              refine fr_ch F 1 [(80, .bool true)] (by kernel_rfl) ?_
              clear F a9
              intro a9 F
              refine wpList_nil ?_
              show Code.wp _ _ _ _ _
              refine wp_cond_true (F.ev 80 rfl) ?_
              refine wp_exit ?_
              have hen := HEND.out
              rw [← take_drop_cat, hV] at hen
              refine exit_past (by decide) ?_
              first | refine then_exit (then_exit (exit_in ?_)) | refine then_exit (exit_in ?_) | refine then_exit (then_exit (then_exit (exit_in ?_)))
              exact ⟨V, a3, c3, J ++ x, (tellR m (Lf ++ bl x)).2.1, ⟨k, ((((((((FrL.nil F.size F.defers).add 1 _ (F.at' 1 _ rfl)).add 2 _ (F.at' 2 _ rfl)).add 7 _ (F.at' 7 _ rfl)).add 8 _ (F.at' 8 _ rfl)).add 9 _ (F.at' 9 _ rfl)).add 10 _ (F.at' 10 _ rfl)).add 11 _ (F.at' 11 _ rfl))⟩, ⟨er, HFC, Or.inr ⟨he0, hen.1, by rw [hen.2, ← HER.out], by omega, x3, HX3.out, HX0.out⟩⟩, HT, HS, by omega⟩
        · refine wp_seq ?_
          refine wp_region_lit ?_
          refine fr_mv F (wanted_free rfl) 54 rfl (by decide) 11 rfl rfl ?_
          clear F a9
          intro a9 F
          refine fr_mv F (wanted_free rfl) 55 rfl (by decide) 2 rfl rfl ?_
          clear F a9
          intro a9 F
          refine fr_ch F 1 [(56, .int .i64 (D.length : Int))] (by kernel_rfl) ?_
          clear F a9
          intro a9 F
          refine fr_do F (wanted_free rfl) 57 rfl (by decide) (.bool false) (by intro a' F'; have h54 := F'.at' 54 _ rfl; have h56 := F'.at' 56 _ rfl; go_simp) ?_
          clear F a9
          intro a9 F
          refine fr_ch F 6 [(63, .bool false), (62, undef), (61, undef), (60, undef), (59, undef), (58, .bool false)] (by kernel_rfl) ?_
          clear F a9
          intro a9 F
          refine wpList_nil ?_
          show Code.wp _ _ _ _ _
          refine wp_cond_false (F.ev 63 rfl) ?_
          refine wp_skip ?_
          exact ⟨T, aT, cT, J ++ x, Lf ++ bl x, ((((((((FrL.nil F.size F.defers).add 1 _ (F.at' 1 _ rfl)).add 2 _ (F.at' 2 _ rfl)).add 7 _ (F.at' 7 _ rfl)).add 8 _ (F.at' 8 _ rfl)).add 9 _ (F.at' 9 _ rfl)).add 10 _ (F.at' 10 _ rfl)).add 11 _ (F.at' 11 _ rfl)), HFC, HT, HS, HJ2.out, hJ2⟩
      · clear F HFC HT HS HC HCAT HJ HJ2 hsn hcl hJ hcat hxl hll hjl2 hjn2 hcl2 hJ2 hst0 T aT cT J Lf a9 w9
        rintro a9 w9 ⟨T, aT, cT, J, Lf, F, HFC, HT, HS, hj, hJ⟩
        show Code.wp _ _ _ _ _
        refine wp_region_lit ?_
        refine fr_mv F (wanted_free rfl) 40 rfl (by decide) 11 rfl rfl ?_
        clear F a9
        intro a9 F
        refine fr_do F (wanted_free rfl) 41 rfl (by decide) (.int .i64 ((k + 1 : Nat) : Int)) (by intro a' F'; have h40 := F'.at' 40 _ rfl; go_simp <;> (rw [IntKind.wrap_i64]; omega)) ?_
        clear F a9
        intro a9 F
        refine fr_ch F 1 [(11, .int .i64 ((k + 1 : Nat) : Int))] (by kernel_rfl) ?_
        clear F a9
        intro a9 F
        refine wpList_nil ?_
        replace F := F.cut [(11, .int .i64 ((k + 1 : Nat) : Int)), (10, .slice aT T.length cT), (9, .string J), (8, .pointer (some ⟨Y, 0, none⟩)), (7, .pointer (some ⟨X, 0, none⟩)), (2, .slice d D.length cd), (1, .slice a A.length ca)] (by kernel_rfl)
        refine ⟨⟨k + 1, by omega, T, aT, cT, J, Lf, F, HFC, HT, HS, hj, hJ⟩, ?_⟩
        rw [muI_at F 11 (k + 1) rfl]
        omega
    · have hk2 : k = A.length := by omega
      subst hk2
      refine wp_region_lit ?_
      refine fr_mv F (wanted_free rfl) 36 rfl (by decide) 11 rfl rfl ?_
      clear F a9
      intro a9 F
      refine fr_ch F 2 [(38, .int .i64 (A.length : Int))] (by kernel_rfl) ?_
      clear F a9
      intro a9 F
      refine fr_do F (wanted_free rfl) 39 rfl (by decide) (.bool false) (by intro a' F'; have h36 := F'.at' 36 _ rfl; have h38 := F'.at' 38 _ rfl; go_simp) ?_
      clear F a9
      intro a9 F
      refine wpList_nil ?_
      show Code.wp _ _ _ _ _
      have hj := HJ.out
      rw [List.take_length] at hj hJ
      refine wp_cond_false (F.ev 39 rfl) ?_
      refine wp_exit ?_
      exact then_exit (then_exit (exit_in ⟨T, aT, cT, J, Lf, ⟨A.length, ((((((((FrL.nil F.size F.defers).add 1 _ (F.at' 1 _ rfl)).add 2 _ (F.at' 2 _ rfl)).add 7 _ (F.at' 7 _ rfl)).add 8 _ (F.at' 8 _ rfl)).add 9 _ (F.at' 9 _ rfl)).add 10 _ (F.at' 10 _ rfl)).add 11 _ (F.at' 11 _ rfl))⟩, ⟨0, HFC, Or.inl ⟨rfl, hj⟩⟩, HT, HS, by omega⟩))
  · clear F HFC a9 w9
    rintro a9 w9 ⟨T, aT, cT, J, Lf, ⟨kk, F⟩, ⟨er, HFC, hq⟩, HT, HS, hJ⟩
    show Code.wp _ _ _ _ _
    obtain ⟨CA, hCA⟩ : ∃ CA, catZ A = CA := ⟨_, rfl⟩
    have hcl : CA.length = sumZ A := by rw [← hCA]; exact catZ_len A
    have HCA := Lib.hid hCA
    rw [hCA] at hq
    clear hCA
    have HTK := Lib.hid (tell_ok m CA.length CA (Nat.le_refl _) (by omega))
    have HTL := tell_len m CA.length CA (Nat.le_refl _)
    refine wp_seq ?_
    replace F := F.cut [(10, .slice aT T.length cT), (9, .string J), (8, .pointer (some ⟨Y, 0, none⟩)), (7, .pointer (some ⟨X, 0, none⟩)), (1, .slice a A.length ca)] (by kernel_rfl)
    refine wp_meet (fun a' w' => ∃ (T : List TdE) (aT : Option Addr) (cT : Nat), FrL 134 [(10, .slice aT T.length cT), (9, .string J), (8, .pointer (some ⟨Y, 0, none⟩)), (7, .pointer (some ⟨X, 0, none⟩)), (1, .slice a A.length ca)] a' ∧ FrC w (gB Y m) X m (tellR m CA).2.1 (tellR m CA).2.2 w' ∧ T.map tp = toldR m CA ∧ w'.ownsRow w.heap.size 51 25 (.slice aT T.length cT) T.length (tdCells T) ∧ SubsIn w' w.heap.size T) ?_ ?_
    · rcases hq with ⟨rfl, hj⟩ | ⟨he0, hm, ht, htl, x3, hx3, hx0⟩
      · skip
        have HJ := Lib.hid hj
        have hjl := jt_len hj
        have hjn := hj.len
        clear hj
        refine wp_seq ?_
        refine wp_meet (fun a' w' => FrL 134 [(93, .bool true), (10, .slice aT T.length cT), (9, .string J), (8, .pointer (some ⟨Y, 0, none⟩)), (7, .pointer (some ⟨X, 0, none⟩)), (1, .slice a A.length ca)] a' ∧ w' = w9) ?_ ?_
        · by_cases hv0 : T.length = 0
          · skip
            refine wp_region_lit ?_
            refine fr_ch F 2 [(82, .int .i64 (T.length : Int)), (81, .slice aT T.length cT)] (by kernel_rfl) ?_
            clear F a9
            intro a9 F
            refine fr_do F (wanted_free rfl) 83 rfl (by decide) (.bool true) (by intro a' F'; have h82 := F'.at' 82 _ rfl; go_simp) ?_
            clear F a9
            intro a9 F
            refine fr_ch F 10 [(93, .bool true), (92, undef), (91, undef), (90, undef), (89, undef), (88, undef), (87, undef), (86, undef), (85, undef), (84, .bool true)] (by kernel_rfl) ?_
            clear F a9
            intro a9 F
            refine wpList_nil ?_
            exact ⟨(((((((FrL.nil F.size F.defers).add 1 _ (F.at' 1 _ rfl)).add 7 _ (F.at' 7 _ rfl)).add 8 _ (F.at' 8 _ rfl)).add 9 _ (F.at' 9 _ rfl)).add 10 _ (F.at' 10 _ rfl)).add 93 _ (F.at' 93 _ rfl)), rfl⟩
          · skip
            obtain ⟨V, a3, c3, hVV, ha3, hc3⟩ : ∃ (V : List TdE) (a3 : Option Addr) (c3 : Nat), T = V ∧ aT = a3 ∧ cT = c3 := ⟨_, _, _, rfl, rfl, rfl⟩
            subst hVV ha3 hc3
            have hv1 : 0 < T.length := by omega
            obtain ⟨x3, hx3⟩ : ∃ x3, T[T.length - 1]? = some x3 := ⟨_, List.getElem?_eq_getElem (by omega)⟩
            obtain ⟨e3, he3⟩ : ∃ e3, x3.2 = e3 := ⟨_, rfl⟩
            have h30 : e3 = 0 := by rw [← he3]; exact HJ.out.zero x3 (List.mem_of_getElem? hx3)
            obtain ⟨bb3, oo3, hal3, HC3⟩ : ∃ b o, aT = some ⟨b, o, none⟩ ∧ Hid (w9.cell? ⟨b, o + (T.length - 1) * 25 + 24, none⟩ = some (.int .i64 (e3 : Int))) := by
              obtain ⟨b, o, h3, h4, _⟩ := td_range (own_cells HT) hx3
              refine ⟨b, o, h3, Lib.hid (h4 24 _ ?_)⟩
              rw [← he3]
              rfl
            subst h30
            clear hx3 he3
            refine wp_region_lit ?_
            refine fr_mv F (wanted_free rfl) 81 rfl (by decide) 10 rfl rfl ?_
            clear F a9
            intro a9 F
            refine fr_ch F 1 [(82, .int .i64 (T.length : Int))] (by kernel_rfl) ?_
            clear F a9
            intro a9 F
            refine fr_do F (wanted_free rfl) 83 rfl (by decide) (.bool false) (by intro a' F'; have h82 := F'.at' 82 _ rfl; go_simp <;> (intro hcon; rw [hcon] at hv1; exact absurd hv1 (by decide))) ?_
            clear F a9
            intro a9 F
            refine fr_ch F 1 [(84, .bool false)] (by kernel_rfl) ?_
            clear F a9
            intro a9 F
            refine fr_mv F (by rw [wanted_at F rfl (t := 84) (b := false) (by kernel_rfl) rfl]; rfl) 85 rfl (by decide) 10 rfl rfl ?_
            clear F a9
            intro a9 F
            refine fr_mv F (by rw [wanted_at F rfl (t := 84) (b := false) (by kernel_rfl) rfl]; rfl) 86 rfl (by decide) 10 rfl rfl ?_
            clear F a9
            intro a9 F
            refine fr_ch F 1 [(87, .int .i64 (T.length : Int))] (by kernel_rfl) ?_
            clear F a9
            intro a9 F
            refine fr_do F (by rw [wanted_at F rfl (t := 84) (b := false) (by kernel_rfl) rfl]; rfl) 88 rfl (by decide) (.int .i64 ((T.length - 1 : Nat) : Int)) (by intro a' F'; have h87 := F'.at' 87 _ rfl; go_simp <;> (rw [IntKind.wrap_i64]; omega)) ?_
            clear F a9
            intro a9 F
            refine fr_do F (by rw [wanted_at F rfl (t := 84) (b := false) (by kernel_rfl) rfl]; rfl) 89 rfl (by decide) (.pointer (some ⟨bb3, oo3 + (T.length - 1) * 25, none⟩)) (by intro a' F'; have h85 := F'.at' 85 _ rfl; have h88 := F'.at' 88 _ rfl; go_simp <;> omega) ?_
            clear F a9
            intro a9 F
            refine fr_ch F 1 [(90, .pointer (some ⟨bb3, oo3 + (T.length - 1) * 25 + 24, none⟩))] (by kernel_rfl) ?_
            clear F a9
            intro a9 F
            refine fr_do F (by rw [wanted_at F rfl (t := 84) (b := false) (by kernel_rfl) rfl]; rfl) 91 rfl (by decide) (.int .i64 (0 : Int)) (by intro a' F'; have h90 := F'.at' 90 _ rfl; have hc := HC3.out; go_simp) ?_
            clear F a9
            intro a9 F
            refine fr_ch F 2 [(93, .bool true), (92, .bool true)] (by kernel_rfl) ?_
            clear F a9
            intro a9 F
            refine wpList_nil ?_
            exact ⟨(((((((FrL.nil F.size F.defers).add 1 _ (F.at' 1 _ rfl)).add 7 _ (F.at' 7 _ rfl)).add 8 _ (F.at' 8 _ rfl)).add 9 _ (F.at' 9 _ rfl)).add 10 _ (F.at' 10 _ rfl)).add 93 _ (F.at' 93 _ rfl)), rfl⟩
        · clear F a9
          rintro a9 w8 ⟨F, rfl⟩
          show Code.wp _ _ _ _ _
          rename World => w9
          refine wp_cond_true (F.ev 93 rfl) ?_
          replace F := F.cut [(10, .slice aT T.length cT), (9, .string J), (8, .pointer (some ⟨Y, 0, none⟩)), (7, .pointer (some ⟨X, 0, none⟩)), (1, .slice a A.length ca)] (by kernel_rfl)
          refine wp_region_lit ?_
          refine fr_ch F 2 [(95, .pointer (some ⟨X, 0, none⟩)), (94, .slice aT T.length cT)] (by kernel_rfl) ?_
          clear F a9
          intro a9 F
          refine fr_call F (wanted_free rfl) 96 rfl (by decide) 23 #[.pointer (some ⟨X, 0, none⟩)] (by intro a' F'; have h95 := F'.at' 95 _ rfl; go_simp) (drain_free HFC (by omega) (by omega) HB0 HB1 (by omega)) ?_
          rintro e9 w8 ⟨U, aU, cU, rfl, HTU, HSU, hUm, hfc, hon⟩
          replace HT := hon.own HT (nfre _ (by decide) (by decide))
          replace HS := HS.only hon (nfre _ (by decide) (by decide))
          have HTU2 := own_base HTU HFC.low.size
          have HSU2 : SubsIn w8 w.heap.size U := fun x hx => own_base (HSU x hx) HFC.low.size
          clear HFC hon HTU HSU
          clear w9
          rename World => w9
          have HFC := hfc
          have HTU := HTU2
          have HSU := HSU2
          clear hfc HTU2 HSU2
          have HUM := Lib.hid hUm
          have hul := told_lens hUm
          clear hUm
          refine ⟨_, rfl, ?_⟩
          clear F a9
          intro a9 F
          obtain ⟨ax, cx, HK, HO⟩ := HFC
          obtain ⟨i0, hi, hz0, hz1, hz2⟩ := info_parts infoTold
          refine fr_appendP F rfl 97 rfl (by decide) (.tmp 94) (.tmp 96) 48 rfl w.heap.size 51 i0 _ 25 208 Tryd.underlying48 hi hz0 hz1 hz2 rfl (by decide) (.slice aT T.length cT) T.length (tdCells T) (F.ev 94 rfl) HT aU U.length cU (own_none HTU) (tdCells U) (F.ev 96 rfl) (tdCells_len U) (own_cells HTU) (tdCells_one U) (by unfold maxLen; omega) (by omega) HK.size ?_
          intro v8 w8 hown hgr
          clear hi hz0 hz1 hz2 i0
          have HK2 := HK.grownBox HT (Nat.le_refl _) hgr (by
            intro x hx
            rcases List.mem_cons.1 hx with rfl | hx
            · exact (by decide : 54 ≠ 51)
            · exact HB1 x hx)
          have HO2 := own_grownE HO HT hgr (by decide)
          have HS2 : SubsIn w8 w.heap.size (T ++ U) := by
            intro x hx
            rcases List.mem_append.1 hx with hx | hx
            · exact own_grownE (HS x hx) HT hgr (by decide)
            · exact own_grownE (HSU x hx) HT hgr (by decide)
          obtain ⟨a3, c3, hv8, hx1, hx2⟩ := own_form hown
          clear hx1 hx2
          subst hv8
          clear HK HO HS HT HTU HSU hgr
          clear w9
          rename World => w9
          have HFC : FrC w (gB Y m) X m (tellR m Lf).2.1 (tellR m Lf).2.2 w9 := ⟨ax, cx, HK2, HO2⟩
          have HS := HS2
          have HT : w9.ownsRow w.heap.size 51 25 (.slice a3 (T ++ U).length c3) (T ++ U).length (tdCells (T ++ U)) := by
            rw [tdCells_app, List.length_append]
            exact hown
          clear HK2 HO2 HS2 hown
          rw [← List.length_append]
          intro a10 F'
          clear F a9
          rename Act => a9
          have F := F'
          clear F'
          refine fr_as F (wanted_free rfl) 10 rfl (by decide) 97 rfl rfl ?_
          clear F a9
          intro a9 F
          refine wpList_nil ?_
          have hen := jt_end HJ.out HUM.out
          refine ⟨T ++ U, a3, c3, ((((((FrL.nil F.size F.defers).add 1 _ (F.at' 1 _ rfl)).add 7 _ (F.at' 7 _ rfl)).add 8 _ (F.at' 8 _ rfl)).add 9 _ (F.at' 9 _ rfl)).add 10 _ (F.at' 10 _ rfl)), ?_, hen.1, HT, HS⟩
          rw [hen.2]
          exact HFC
      · skip
        obtain ⟨e3, he3⟩ : ∃ e3, x3.2 = e3 := ⟨_, rfl⟩
        have h30 : ((e3 : Int) == 0) = false := by rw [beq_eq_false_iff_ne, ← he3]; omega
        have hv1 : 0 < T.length := by have := (List.getElem?_eq_some_iff.1 hx3).1; omega
        obtain ⟨bb3, oo3, hal3, HC3⟩ : ∃ b o, aT = some ⟨b, o, none⟩ ∧ Hid (w9.cell? ⟨b, o + (T.length - 1) * 25 + 24, none⟩ = some (.int .i64 (e3 : Int))) := by
          obtain ⟨b, o, h3, h4, _⟩ := td_range (own_cells HT) hx3
          refine ⟨b, o, h3, Lib.hid (h4 24 _ ?_)⟩
          rw [← he3]
          rfl
        clear hx3 he3 hx0
        refine wp_seq ?_
        refine wp_region_lit ?_
        refine fr_mv F (wanted_free rfl) 81 rfl (by decide) 10 rfl rfl ?_
        clear F a9
        intro a9 F
        refine fr_ch F 1 [(82, .int .i64 (T.length : Int))] (by kernel_rfl) ?_
        clear F a9
        intro a9 F
        refine fr_do F (wanted_free rfl) 83 rfl (by decide) (.bool false) (by intro a' F'; have h82 := F'.at' 82 _ rfl; go_simp <;> (intro hcon; rw [hcon] at hv1; exact absurd hv1 (by decide))) ?_
        clear F a9
        intro a9 F
        refine fr_ch F 1 [(84, .bool false)] (by kernel_rfl) ?_
        clear F a9
        intro a9 F
        refine fr_mv F (by rw [wanted_at F rfl (t := 84) (b := false) (by kernel_rfl) rfl]; rfl) 85 rfl (by decide) 10 rfl rfl ?_
        clear F a9
        intro a9 F
        refine fr_mv F (by rw [wanted_at F rfl (t := 84) (b := false) (by kernel_rfl) rfl]; rfl) 86 rfl (by decide) 10 rfl rfl ?_
        clear F a9
        intro a9 F
        refine fr_ch F 1 [(87, .int .i64 (T.length : Int))] (by kernel_rfl) ?_
        clear F a9
        intro a9 F
        refine fr_do F (by rw [wanted_at F rfl (t := 84) (b := false) (by kernel_rfl) rfl]; rfl) 88 rfl (by decide) (.int .i64 ((T.length - 1 : Nat) : Int)) (by intro a' F'; have h87 := F'.at' 87 _ rfl; go_simp <;> (rw [IntKind.wrap_i64]; omega)) ?_
        clear F a9
        intro a9 F
        refine fr_do F (by rw [wanted_at F rfl (t := 84) (b := false) (by kernel_rfl) rfl]; rfl) 89 rfl (by decide) (.pointer (some ⟨bb3, oo3 + (T.length - 1) * 25, none⟩)) (by intro a' F'; have h85 := F'.at' 85 _ rfl; have h88 := F'.at' 88 _ rfl; go_simp <;> omega) ?_
        clear F a9
        intro a9 F
        refine fr_ch F 1 [(90, .pointer (some ⟨bb3, oo3 + (T.length - 1) * 25 + 24, none⟩))] (by kernel_rfl) ?_
        clear F a9
        intro a9 F
        refine fr_do F (by rw [wanted_at F rfl (t := 84) (b := false) (by kernel_rfl) rfl]; rfl) 91 rfl (by decide) (.int .i64 (e3 : Int)) (by intro a' F'; have h90 := F'.at' 90 _ rfl; have hc := HC3.out; go_simp) ?_
        clear F a9
        intro a9 F
        refine fr_do F (by rw [wanted_at F rfl (t := 84) (b := false) (by kernel_rfl) rfl]; rfl) 92 rfl (by decide) (.bool false) (by intro a' F'; have h91 := F'.at' 91 _ rfl; go_simp) ?_
        clear F a9
        intro a9 F
        refine fr_ch F 1 [(93, .bool false)] (by kernel_rfl) ?_
        clear F a9
        intro a9 F
        refine wpList_nil ?_
        show Code.wp _ _ _ _ _
        refine wp_cond_false (F.ev 93 rfl) ?_
        refine wp_skip ?_
        refine ⟨T, aT, cT, ((((((FrL.nil F.size F.defers).add 1 _ (F.at' 1 _ rfl)).add 7 _ (F.at' 7 _ rfl)).add 8 _ (F.at' 8 _ rfl)).add 9 _ (F.at' 9 _ rfl)).add 10 _ (F.at' 10 _ rfl)), ?_, hm, HT, HS⟩
        rw [ht]
        exact HFC
    · clear F HFC HT HS hq T aT cT er Lf a9 w9
      rintro a9 w9 ⟨T, aT, cT, F, HFC, hTm, HT, HS⟩
      show Code.wp _ _ _ _ _
      have hTl := told_lens hTm
      have HTM := Lib.hid hTm
      clear hTm
      refine wp_seq ?_
      refine wp_region_lit ?_
      refine fr_ch F 1 [(12, .string ⟨#[]⟩)] (by kernel_rfl) ?_
      clear F a9
      intro a9 F
      refine wpList_nil ?_
      show Code.wp _ _ _ _ _
      refine wp_seq ?_
      refine wp_seq ?_
      refine wp_region_lit ?_
      refine fr_ch F 1 [(13, .int .i64 0)] (by kernel_rfl) ?_
      clear F a9
      intro a9 F
      refine wpList_nil ?_
      show Code.wp _ _ _ _ _
      replace F := F.cut [(13, .int .i64 0), (12, .string ⟨#[]⟩), (10, .slice aT T.length cT), (9, .string J), (8, .pointer (some ⟨Y, 0, none⟩)), (7, .pointer (some ⟨X, 0, none⟩)), (1, .slice a A.length ca)] (by kernel_rfl)
      refine wp_block_end (fun a' w' => ∃ (V : ByteArray) (kk : Nat), FrL 134 [(13, .int .i64 (kk : Int)), (12, .string V), (10, .slice aT T.length cT), (9, .string J), (8, .pointer (some ⟨Y, 0, none⟩)), (7, .pointer (some ⟨X, 0, none⟩)), (1, .slice a A.length ca)] a' ∧ w' = w9 ∧ bl V = catZ A) ?_ ?_
      · skip
        refine wp_loop (fun a' w' => ∃ (k : Nat) (V : ByteArray), k ≤ A.length ∧ FrL 134 [(13, .int .i64 (k : Int)), (12, .string V), (10, .slice aT T.length cT), (9, .string J), (8, .pointer (some ⟨Y, 0, none⟩)), (7, .pointer (some ⟨X, 0, none⟩)), (1, .slice a A.length ca)] a' ∧ w' = w9 ∧ bl V = catZ (A.take k)) (fun a' _ => muI A.length 13 a') ⟨0, ⟨#[]⟩, Nat.zero_le _, F, rfl, rfl⟩ ?_
        clear F a9
        rintro a9 w8 ⟨k, V, hk, F, rfl, hV⟩
        rename World => w9
        rw [muI_at F 13 k rfl]
        have HV := Lib.hid hV
        have hvs : V.size = sumZ (A.take k) := by rw [← bl_len, hV]; exact catZ_len _
        have hst0 := sumZ_take A k
        clear hV
        refine wp_seq ?_
        refine wp_seq ?_
        by_cases hlt : k < A.length
        · skip
          refine wp_region_lit ?_
          refine fr_mv F (wanted_free rfl) 98 rfl (by decide) 13 rfl rfl ?_
          clear F a9
          intro a9 F
          refine fr_mv F (wanted_free rfl) 99 rfl (by decide) 1 rfl rfl ?_
          clear F a9
          intro a9 F
          refine fr_ch F 1 [(100, .int .i64 (A.length : Int))] (by kernel_rfl) ?_
          clear F a9
          intro a9 F
          refine fr_do F (wanted_free rfl) 101 rfl (by decide) (.bool true) (by intro a' F'; have h98 := F'.at' 98 _ rfl; have h100 := F'.at' 100 _ rfl; go_simp) ?_
          clear F a9
          intro a9 F
          refine wpList_nil ?_
          show Code.wp _ _ _ _ _
          refine wp_cond_true (F.ev 101 rfl) ?_
          refine wp_skip ?_
          show Code.wp _ _ _ _ _
          replace F := F.cut [(13, .int .i64 (k : Int)), (12, .string V), (10, .slice aT T.length cT), (9, .string J), (8, .pointer (some ⟨Y, 0, none⟩)), (7, .pointer (some ⟨X, 0, none⟩)), (1, .slice a A.length ca)] (by kernel_rfl)
          obtain ⟨x, hx⟩ : ∃ x, A[k]? = some x := ⟨_, List.getElem?_eq_getElem hlt⟩
          obtain ⟨bb, oo, hal, hc0⟩ := (HRA.out.below HFC.low) k (.string x) (by rw [List.getElem?_map, hx]; rfl)
          have HC := Lib.hid hc0
          have HCAT := Lib.hid (catZ_snoc hx)
          have hsn := sumZ_snoc hx
          have hst := sumZ_take A (k + 1)
          have hcat : ¬ 9223372036854775807 < V.size + x.size := by omega
          clear hc0 hx
          refine wp_seq ?_
          refine wp_block_end (fun a' w' => ∃ (V : ByteArray), FrL 134 [(13, .int .i64 (k : Int)), (12, .string V), (10, .slice aT T.length cT), (9, .string J), (8, .pointer (some ⟨Y, 0, none⟩)), (7, .pointer (some ⟨X, 0, none⟩)), (1, .slice a A.length ca)] a' ∧ w' = w9 ∧ bl V = catZ (A.take (k + 1))) ?_ ?_
          · skip
            refine wp_region_lit ?_
            refine fr_ch F 3 [(106, .int .i64 (k : Int)), (105, .slice a A.length ca), (104, .string V)] (by kernel_rfl) ?_
            clear F a9
            intro a9 F
            refine fr_do F (wanted_free rfl) 107 rfl (by decide) (.pointer (some ⟨bb, oo + k, none⟩)) (by intro a' F'; have h105 := F'.at' 105 _ rfl; have h106 := F'.at' 106 _ rfl; go_simp) ?_
            clear F a9
            intro a9 F
            refine fr_do F (wanted_free rfl) 108 rfl (by decide) (.string x) (by intro a' F'; have h107 := F'.at' 107 _ rfl; have hc := HC.out; go_simp) ?_
            clear F a9
            intro a9 F
            refine fr_do F (wanted_free rfl) 109 rfl (by decide) (.string (V ++ x)) (by intro a' F'; have h104 := F'.at' 104 _ rfl; have h108 := F'.at' 108 _ rfl; go_simp <;> omega) ?_
            clear F a9
            intro a9 F
            refine fr_ch F 1 [(12, .string (V ++ x))] (by kernel_rfl) ?_
            clear F a9
            intro a9 F
            refine wpList_nil ?_
            exact ⟨V ++ x, ((((((((FrL.nil F.size F.defers).add 1 _ (F.at' 1 _ rfl)).add 7 _ (F.at' 7 _ rfl)).add 8 _ (F.at' 8 _ rfl)).add 9 _ (F.at' 9 _ rfl)).add 10 _ (F.at' 10 _ rfl)).add 12 _ (F.at' 12 _ rfl)).add 13 _ (F.at' 13 _ rfl)), rfl, by rw [HCAT.out, bl_add, HV.out]⟩
          · clear F HV hvs hcat V a9
            rintro a9 w8 ⟨V, F, rfl, hV⟩
            rename World => w9
            show Code.wp _ _ _ _ _
            refine wp_region_lit ?_
            refine fr_mv F (wanted_free rfl) 102 rfl (by decide) 13 rfl rfl ?_
            clear F a9
            intro a9 F
            refine fr_do F (wanted_free rfl) 103 rfl (by decide) (.int .i64 ((k + 1 : Nat) : Int)) (by intro a' F'; have h102 := F'.at' 102 _ rfl; go_simp <;> (rw [IntKind.wrap_i64]; omega)) ?_
            clear F a9
            intro a9 F
            refine fr_ch F 1 [(13, .int .i64 ((k + 1 : Nat) : Int))] (by kernel_rfl) ?_
            clear F a9
            intro a9 F
            refine wpList_nil ?_
            replace F := F.cut [(13, .int .i64 ((k + 1 : Nat) : Int)), (12, .string V), (10, .slice aT T.length cT), (9, .string J), (8, .pointer (some ⟨Y, 0, none⟩)), (7, .pointer (some ⟨X, 0, none⟩)), (1, .slice a A.length ca)] (by kernel_rfl)
            refine ⟨⟨k + 1, V, by omega, F, rfl, hV⟩, ?_⟩
            rw [muI_at F 13 (k + 1) rfl]
            omega
        · have hk2 : k = A.length := by omega
          subst hk2
          refine wp_region_lit ?_
          refine fr_mv F (wanted_free rfl) 98 rfl (by decide) 13 rfl rfl ?_
          clear F a9
          intro a9 F
          refine fr_ch F 2 [(100, .int .i64 (A.length : Int))] (by kernel_rfl) ?_
          clear F a9
          intro a9 F
          refine fr_do F (wanted_free rfl) 101 rfl (by decide) (.bool false) (by intro a' F'; have h98 := F'.at' 98 _ rfl; have h100 := F'.at' 100 _ rfl; go_simp) ?_
          clear F a9
          intro a9 F
          refine wpList_nil ?_
          show Code.wp _ _ _ _ _
          have hv := HV.out
          rw [List.take_length] at hv
          refine wp_cond_false (F.ev 101 rfl) ?_
          refine wp_exit ?_
          exact then_exit (then_exit (exit_in ⟨V, A.length, ((((((((FrL.nil F.size F.defers).add 1 _ (F.at' 1 _ rfl)).add 7 _ (F.at' 7 _ rfl)).add 8 _ (F.at' 8 _ rfl)).add 9 _ (F.at' 9 _ rfl)).add 10 _ (F.at' 10 _ rfl)).add 12 _ (F.at' 12 _ rfl)).add 13 _ (F.at' 13 _ rfl)), rfl, hv⟩))
      · clear F a9
        rintro a9 w8 ⟨V, kk, F, rfl, hV⟩
        rename World => w9
        show Code.wp _ _ _ _ _
        rw [HCA.out] at hV
        have hvs : V.size = sumZ A := by rw [← bl_len, hV, hcl]
        obtain ⟨LX, hLX⟩ : ∃ LX, (tellR m CA).2.1 = LX := ⟨_, rfl⟩
        obtain ⟨eX, heX⟩ : ∃ eX, (tellR m CA).2.2 = eX := ⟨_, rfl⟩
        have HLX := Lib.hid hLX
        rw [hLX, heX] at HFC
        clear hLX heX
        obtain ⟨aX, cX, HKX, HOX⟩ := HFC
        have HFC : FrC w [(X, frV m aX LX.length cX eX, 54)] Y m [] 0 w9 := ⟨none, 0, HKX.swap, out_nil _ _⟩
        have HB2 : ∀ x ∈ [(X, frV m aX LX.length cX eX, 54)], x.2.2 ≠ 5 := by
          intro x hx
          simp at hx
          subst hx
          exact (by decide : 54 ≠ 5)
        have HB3 : ∀ x ∈ [(X, frV m aX LX.length cX eX, 54)], x.2.2 ≠ 51 := by
          intro x hx
          simp at hx
          subst hx
          exact (by decide : 54 ≠ 51)
        clear HKX HOX HB0 HB1
        replace F := F.cut [(12, .string V), (10, .slice aT T.length cT), (9, .string J), (8, .pointer (some ⟨Y, 0, none⟩)), (7, .pointer (some ⟨X, 0, none⟩))] (by kernel_rfl)
        refine wp_seq ?_
        refine wp_region_lit ?_
        refine fr_ch F 2 [(111, .string V), (110, .pointer (some ⟨Y, 0, none⟩))] (by kernel_rfl) ?_
        clear F a9
        intro a9 F
        refine fr_call F (wanted_free rfl) 112 rfl (by decide) 19 #[.pointer (some ⟨Y, 0, none⟩), .string V] (by intro a' F'; have h110 := F'.at' 110 _ rfl; have h111 := F'.at' 111 _ rfl; go_simp) (frame_Push HFC (by omega) HB2 V (by simp; omega)) ?_
        rintro e9 w8 ⟨rfl, hfc, hon⟩
        replace HT := hon.own HT (nfre _ (by decide) (by decide))
        replace HS := HS.only hon (nfre _ (by decide) (by decide))
        clear HFC hon
        clear w9
        rename World => w9
        have HFC := hfc
        clear hfc
        rw [List.nil_append, hV] at HFC
        refine ⟨_, rfl, ?_⟩
        clear F a9
        intro a9 F
        refine wpList_nil ?_
        show Code.wp _ _ _ _ _
        replace F := F.cut [(12, .string V), (10, .slice aT T.length cT), (9, .string J), (8, .pointer (some ⟨Y, 0, none⟩)), (7, .pointer (some ⟨X, 0, none⟩))] (by kernel_rfl)
        refine wp_seq ?_
        refine wp_region_lit ?_
        refine fr_ch F 2 [(114, .pointer (some ⟨Y, 0, none⟩)), (113, .slice aT T.length cT)] (by kernel_rfl) ?_
        clear F a9
        intro a9 F
        refine fr_call F (wanted_free rfl) 115 rfl (by decide) 23 #[.pointer (some ⟨Y, 0, none⟩)] (by intro a' F'; have h114 := F'.at' 114 _ rfl; go_simp) (drain_free HFC (by omega) (by omega) HB2 HB3 (by omega)) ?_
        rintro e9 w8 ⟨U, aU, cU, rfl, HTU, HSU, hUm, hfc, hon⟩
        replace HT := hon.own HT (nfre _ (by decide) (by decide))
        replace HS := HS.only hon (nfre _ (by decide) (by decide))
        obtain ⟨B8, hB8⟩ : ∃ B8, w9.heap.size = B8 := ⟨_, rfl⟩
        rw [hB8] at HTU HSU
        rw [HLX.out] at hfc
        clear HFC hon hB8
        clear w9
        rename World => w9
        have HFC := hfc
        clear hfc
        have HPP := Lib.hid (show ∀ y ∈ toldR m CA, PkOk y.1 from fun y hy => by
          unfold toldR at hy
          rcases List.mem_append.1 hy with hy | hy
          · obtain ⟨p, hp, rfl⟩ := List.mem_map.1 hy
            exact HTK.out p hp
          · split at hy
            · simp at hy
              subst hy
              exact pk_zero
            · cases hy)
        have HPU := Lib.hid (show ∀ x ∈ U, PkOk x.1.1 from fun x hx => HPP.out (tp x) (by rw [← hUm]; exact List.mem_map_of_mem hx))
        have HPT := Lib.hid (show ∀ x ∈ T, PkOk x.1.1 from fun x hx => HPP.out (tp x) (by rw [← HTM.out]; exact List.mem_map_of_mem hx))
        have HEQ := Lib.hid (HTM.out.trans hUm.symm)
        clear hUm
        refine ⟨_, rfl, ?_⟩
        clear F a9
        intro a9 F
        refine fr_call F (wanted_free rfl) 116 rfl (by decide) 22 #[.slice aT T.length cT, .slice aU U.length cU] (by intro a' F'; have h113 := F'.at' 113 _ rfl; have h115 := F'.at' 115 _ rfl; go_simp) (law06_same aT cT T aU cU U w9 HFC.env (own_cells HT) (own_cells HTU) (told_in HS HPT.out) (told_in HSU HPU.out) HEQ.out (by omega)) ?_
        rintro e9 w8 ⟨rfl, hb8⟩
        replace HFC := HFC.below hb8
        clear hb8 HT HS HTU HSU
        clear w9
        rename World => w9
        refine ⟨_, rfl, ?_⟩
        clear F a9
        intro a9 F
        refine fr_mv F (wanted_free rfl) 117 rfl (by decide) 116 rfl rfl ?_
        clear F a9
        intro a9 F
        refine fr_mv F (by rw [wanted_at F rfl (t := 117) (b := true) (by kernel_rfl) rfl]; rfl) 118 rfl (by decide) 7 rfl rfl ?_
        clear F a9
        intro a9 F
        refine fr_call F (by rw [wanted_at F rfl (t := 117) (b := true) (by kernel_rfl) rfl]; rfl) 119 rfl (by decide) 21 #[.pointer (some ⟨X, 0, none⟩)] (by intro a' F'; have h118 := F'.at' 118 _ rfl; go_simp) ((by obtain ⟨aY, cY, HKY, _⟩ := HFC; exact frame_Left2 HKY.swap)) ?_
        rintro e9 w8 ⟨rfl, rfl⟩
        refine ⟨_, rfl, ?_⟩
        clear F a9
        intro a9 F
        refine fr_mv F (by rw [wanted_at F rfl (t := 117) (b := true) (by kernel_rfl) rfl]; rfl) 120 rfl (by decide) 8 rfl rfl ?_
        clear F a9
        intro a9 F
        refine fr_call F (by rw [wanted_at F rfl (t := 117) (b := true) (by kernel_rfl) rfl]; rfl) 121 rfl (by decide) 21 #[.pointer (some ⟨Y, 0, none⟩)] (by intro a' F'; have h120 := F'.at' 120 _ rfl; go_simp) (frame_Left HFC) ?_
        rintro e9 w8 ⟨rfl, rfl⟩
        refine ⟨_, rfl, ?_⟩
        clear F a9
        intro a9 F
        refine fr_do F (by rw [wanted_at F rfl (t := 117) (b := true) (by kernel_rfl) rfl]; rfl) 122 rfl (by decide) (.bool true) (by intro a' F'; have h119 := F'.at' 119 _ rfl; have h121 := F'.at' 121 _ rfl; go_simp) ?_
        clear F a9
        intro a9 F
        refine fr_ch F 2 [(124, .bool true), (123, .bool true)] (by kernel_rfl) ?_
        clear F a9
        intro a9 F
        refine fr_mv F (by rw [wanted_at F rfl (t := 124) (b := true) (by kernel_rfl) rfl]; rfl) 125 rfl (by decide) 9 rfl rfl ?_
        clear F a9
        intro a9 F
        refine fr_ch F 1 [(126, .int .i64 (J.size : Int))] (by kernel_rfl) ?_
        clear F a9
        intro a9 F
        refine fr_mv F (by rw [wanted_at F rfl (t := 124) (b := true) (by kernel_rfl) rfl]; rfl) 127 rfl (by decide) 12 rfl rfl ?_
        clear F a9
        intro a9 F
        refine fr_ch F 1 [(128, .int .i64 (V.size : Int))] (by kernel_rfl) ?_
        clear F a9
        intro a9 F
        refine fr_do F (by rw [wanted_at F rfl (t := 124) (b := true) (by kernel_rfl) rfl]; rfl) 129 rfl (by decide) (.bool true) (by intro a' F'; have h126 := F'.at' 126 _ rfl; have h128 := F'.at' 128 _ rfl; go_simp) ?_
        clear F a9
        intro a9 F
        refine fr_ch F 2 [(131, .bool true), (130, .bool true)] (by kernel_rfl) ?_
        clear F a9
        intro a9 F
        refine fr_call F (by rw [wanted_at F rfl (t := 131) (b := true) (by kernel_rfl) rfl]; rfl) 132 rfl (by decide) 25 #[] (by intro a' F'; go_simp) (law06_awake _ HFC.env) ?_
        rintro e9 w8 ⟨rfl, hb8⟩
        replace HFC := HFC.below hb8
        clear hb8
        clear w9
        rename World => w9
        refine ⟨_, rfl, ?_⟩
        clear F a9
        intro a9 F
        refine fr_ch F 2 [(6, .bool true), (133, .bool true)] (by kernel_rfl) ?_
        clear F a9
        intro a9 F
        refine wpList_nil ?_
        show Code.wp _ _ _ _ _
        refine wp_ret ?_
        exact fr_ret1 F rfl _ rfl (FIN.out _ HFC.low)
theorem law06_FrameChunks (i : Int) (a : Option Addr) (ca : Nat) (A : List ByteArray) (d : Option Addr) (cd : Nat) (D : List Bool) (w : World) (hE : Env w) (_hi : Whole i) (hA : A.length ≤ 9223372036854775807) (ha : CellsA w a (A.map Value.string)) (hD : D.length ≤ 9223372036854775807) (hd : CellsA w d (D.map Value.bool)) : Calls Tryd.prog 7 #[.int .i64 i, .slice a A.length ca, .slice d D.length cd] w fun e w' => e = .returned (.bool true) ∧ Below w.heap.size w w' := by
  cases hg : greatZ A
  · by_cases hi : i < 16 ∨ 65536 < i
    · exact fchunk_none a ca A d cd D w hE ha hA hd hD i hi hg
    · obtain ⟨m, rfl⟩ : ∃ m : Nat, i = (m : Int) := ⟨i.toNat, by omega⟩
      exact fchunk_good a ca A d cd D w hE ha hA hd hD m (by omega) (by omega) hg
  · exact fchunk_great a ca A d cd D w hE ha hA hd hD i hg
end Go.Proofs.YtfljdlaelanliaaDoor
