/- The walk of FrameRow. Conditions: the decoder's tables lie as Go lays them; the packets and their lists in their cells. -/
import Derived.Test.YtfljdlaelanliaaDoorFrameF
import Derived.Test.YtfljdlaelanliaaDoorJoinE
import Derived.Test.YtfljdlaelanliaaDoorPacketCopy
import Derived.Test.YtfljdlaelanliaaDoorWhole
import Derived.Test.YtfljdlaelanliaaDoorWriteEncode
import Derived.Test.YtfljdlaelanliaaDoorLaw03Great
namespace Go.Proofs.YtfljdlaelanliaaDoor
open Go.RowKit
def pks (A : List PkE) : List Pk := A.map fun x => x.1
def rowE (A : List PkE) : Bs := (pks A).flatMap encB
theorem pks_snoc {A : List PkE} {k : Nat} {x : PkE} (h : A[k]? = some x) : pks (A.take (k + 1)) = pks (A.take k) ++ [x.1] := by
  have : A.take (k + 1) = A.take k ++ [x] := by rw [List.take_add_one, h]; rfl
  unfold pks
  rw [this, List.map_append]
  rfl
theorem rowE_snoc {A : List PkE} {k : Nat} {x : PkE} (h : A[k]? = some x) : rowE (A.take (k + 1)) = rowE (A.take k) ++ encB x.1 := by
  unfold rowE
  rw [pks_snoc h, List.flatMap_append]
  simp
set_option maxRecDepth 100000 in
set_option maxHeartbeats 4000000 in
theorem frow_many (a : Option Addr) (ca : Nat) (A : List PkE) (w : World) (hE : Env w) (_ha : CellsA w a (pkCells A)) (_hA : ∀ x ∈ A, PkArg w x.1 x.2.1 x.2.2) (i : Int) (h : 20 < A.length) : Calls Tryd.prog 9 #[.int .i64 i, .slice a A.length ca] w fun e w' => e = .returned (.bool true) ∧ Below w.heap.size w w' := by
  obtain ⟨RR, hRR⟩ : ∃ RR : Ending → World → Prop, RR = fun e w' => e = .returned (.bool true) ∧ Below w.heap.size w w' := ⟨_, rfl⟩
  have FIN := Lib.hid (show ∀ w', Below w.heap.size w w' → RR (.returned (.bool true)) w' from fun w' hb => by rw [hRR]; exact ⟨rfl, hb⟩)
  rw [← hRR]
  obtain ⟨w9, hw9⟩ : ∃ w9, w9 = w := ⟨_, rfl⟩
  have HK : Keep w [] [] w9 := by rw [hw9]; exact Keep.begin hE _ (by intro r hr; cases hr)
  suffices hgo : Calls Tryd.prog 9 #[.int .i64 i, .slice a A.length ca] w9 RR by rw [hw9] at hgo; exact hgo
  clear hw9 hRR hE
  go_enter Tryd.func9, Tryd.ntmps9
  refine wp_forget (n := 89) (L := [(1, .slice a A.length ca), (0, .int .i64 i)]) (FrL.add (FrL.add (FrL.nil ?_ ?_) _ _ ?_) _ _ ?_) ?_
  iterate 4 rfl
  intro a9 F
  refine wp_seq ?_
  refine wp_region_lit ?_
  refine fr_ch F 1 [(4, .bool false)] (by kernel_rfl) ?_
  clear F a9
  intro a9 F
  refine wpList_nil ?_
  show Code.wp _ _ _ _ _
  replace F := F.cut [(1, .slice a A.length ca), (0, .int .i64 i)] (by kernel_rfl)
  refine wp_seq ?_
  refine wp_seq ?_
  refine wp_region_lit ?_
  refine fr_ch F 2 [(12, .int .i64 (A.length : Int))] (by kernel_rfl) ?_
  clear F a9
  intro a9 F
  refine fr_do F (wanted_free rfl) 13 rfl (by decide) (.bool true) (by intro a' F'; have h12 := F'.at' 12 _ rfl; go_simp <;> omega) ?_
  clear F a9
  intro a9 F
  refine wpList_nil ?_
  show Code.wp _ _ _ _ _
  refine wp_cond_true (F.ev 13 rfl) ?_
  refine wp_seq ?_
  refine wp_region_lit ?_
  refine fr_call F (wanted_free rfl) 14 rfl (by decide) 25 #[] (by intro a' F'; go_simp) (law06_awake _ HK.env) ?_
  rintro e9 w8 ⟨rfl, hb8⟩
  replace HK := HK.below hb8
  clear hb8
  clear w9
  rename World => w9
  refine ⟨_, rfl, ?_⟩
  clear F a9
  intro a9 F
  refine fr_ch F 1 [(4, .bool true)] (by kernel_rfl) ?_
  clear F a9
  intro a9 F
  refine wpList_nil ?_
  show Code.wp _ _ _ _ _
  refine wp_ret ?_
  exact fr_ret1 F rfl _ rfl (FIN.out _ HK.low)
set_option maxRecDepth 100000 in
set_option maxHeartbeats 4000000 in
theorem frow_none (a : Option Addr) (ca : Nat) (A : List PkE) (w : World) (hE : Env w) (_ha : CellsA w a (pkCells A)) (_hA : ∀ x ∈ A, PkArg w x.1 x.2.1 x.2.2) (i : Int) (hi : i < 16 ∨ 65536 < i) (h : A.length ≤ 20) : Calls Tryd.prog 9 #[.int .i64 i, .slice a A.length ca] w fun e w' => e = .returned (.bool true) ∧ Below w.heap.size w w' := by
  obtain ⟨RR, hRR⟩ : ∃ RR : Ending → World → Prop, RR = fun e w' => e = .returned (.bool true) ∧ Below w.heap.size w w' := ⟨_, rfl⟩
  have FIN := Lib.hid (show ∀ w', Below w.heap.size w w' → RR (.returned (.bool true)) w' from fun w' hb => by rw [hRR]; exact ⟨rfl, hb⟩)
  rw [← hRR]
  obtain ⟨w9, hw9⟩ : ∃ w9, w9 = w := ⟨_, rfl⟩
  have HK : Keep w [] [] w9 := by rw [hw9]; exact Keep.begin hE _ (by intro r hr; cases hr)
  suffices hgo : Calls Tryd.prog 9 #[.int .i64 i, .slice a A.length ca] w9 RR by rw [hw9] at hgo; exact hgo
  clear hw9 hRR hE
  go_enter Tryd.func9, Tryd.ntmps9
  refine wp_forget (n := 89) (L := [(1, .slice a A.length ca), (0, .int .i64 i)]) (FrL.add (FrL.add (FrL.nil ?_ ?_) _ _ ?_) _ _ ?_) ?_
  iterate 4 rfl
  intro a9 F
  refine wp_seq ?_
  refine wp_region_lit ?_
  refine fr_ch F 1 [(4, .bool false)] (by kernel_rfl) ?_
  clear F a9
  intro a9 F
  refine wpList_nil ?_
  show Code.wp _ _ _ _ _
  replace F := F.cut [(1, .slice a A.length ca), (0, .int .i64 i)] (by kernel_rfl)
  refine wp_seq ?_
  refine wp_seq ?_
  refine wp_region_lit ?_
  refine fr_ch F 2 [(12, .int .i64 (A.length : Int))] (by kernel_rfl) ?_
  clear F a9
  intro a9 F
  refine fr_do F (wanted_free rfl) 13 rfl (by decide) (.bool false) (by intro a' F'; have h12 := F'.at' 12 _ rfl; go_simp <;> omega) ?_
  clear F a9
  intro a9 F
  refine wpList_nil ?_
  show Code.wp _ _ _ _ _
  refine wp_cond_false (F.ev 13 rfl) ?_
  refine wp_skip ?_
  show Code.wp _ _ _ _ _
  replace F := F.cut [(1, .slice a A.length ca), (0, .int .i64 i)] (by kernel_rfl)
  refine wp_seq ?_
  refine wp_region_lit ?_
  refine fr_ch F 1 [(15, .int .i64 i)] (by kernel_rfl) ?_
  clear F a9
  intro a9 F
  refine fr_call F (wanted_free rfl) 16 rfl (by decide) 18 #[.int .i64 i] (by intro a' F'; have h15 := F'.at' 15 _ rfl; go_simp) (frame_New_no i hi w9) ?_
  rintro e9 w8 ⟨rfl, rfl⟩
  refine ⟨_, rfl, ?_⟩
  clear F a9
  intro a9 F
  refine fr_ch F 1 [(5, .pointer none)] (by kernel_rfl) ?_
  clear F a9
  intro a9 F
  refine wpList_nil ?_
  show Code.wp _ _ _ _ _
  replace F := F.cut [(5, .pointer none), (0, .int .i64 i)] (by kernel_rfl)
  refine wp_seq ?_
  refine wp_seq ?_
  refine wp_region_lit ?_
  refine fr_ch F 2 [(18, .bool true)] (by kernel_rfl) ?_
  clear F a9
  intro a9 F
  refine wpList_nil ?_
  show Code.wp _ _ _ _ _
  refine wp_cond_true (F.ev 18 rfl) ?_
  by_cases hlo : i < 16
  · skip
    refine wp_seq ?_
    refine wp_region_lit ?_
    refine fr_ch F 1 [(19, .int .i64 i)] (by kernel_rfl) ?_
    clear F a9
    intro a9 F
    refine fr_do F (wanted_free rfl) 20 rfl (by decide) (.bool true) (by intro a' F'; have h19 := F'.at' 19 _ rfl; go_simp) ?_
    clear F a9
    intro a9 F
    refine fr_ch F 5 [(25, .bool true), (24, .bool true), (23, undef), (22, undef), (21, .bool true)] (by kernel_rfl) ?_
    clear F a9
    intro a9 F
    refine fr_call F (by rw [wanted_at F rfl (t := 25) (b := true) (by kernel_rfl) rfl]; rfl) 26 rfl (by decide) 25 #[] (by intro a' F'; go_simp) (law06_awake _ HK.env) ?_
    rintro e9 w8 ⟨rfl, hb8⟩
    replace HK := HK.below hb8
    clear hb8
    clear w9
    rename World => w9
    refine ⟨_, rfl, ?_⟩
    clear F a9
    intro a9 F
    refine fr_ch F 2 [(4, .bool true), (27, .bool true)] (by kernel_rfl) ?_
    clear F a9
    intro a9 F
    refine wpList_nil ?_
    show Code.wp _ _ _ _ _
    refine wp_ret ?_
    exact fr_ret1 F rfl _ rfl (FIN.out _ HK.low)
  · skip
    have hhi : 65536 < i := by omega
    refine wp_seq ?_
    refine wp_region_lit ?_
    refine fr_ch F 1 [(19, .int .i64 i)] (by kernel_rfl) ?_
    clear F a9
    intro a9 F
    refine fr_do F (wanted_free rfl) 20 rfl (by decide) (.bool false) (by intro a' F'; have h19 := F'.at' 19 _ rfl; go_simp) ?_
    clear F a9
    intro a9 F
    refine fr_ch F 2 [(22, .int .i64 i), (21, .bool false)] (by kernel_rfl) ?_
    clear F a9
    intro a9 F
    refine fr_do F (by rw [wanted_at F rfl (t := 21) (b := false) (by kernel_rfl) rfl]; rfl) 23 rfl (by decide) (.bool true) (by intro a' F'; have h22 := F'.at' 22 _ rfl; go_simp) ?_
    clear F a9
    intro a9 F
    refine fr_ch F 2 [(25, .bool true), (24, .bool true)] (by kernel_rfl) ?_
    clear F a9
    intro a9 F
    refine fr_call F (by rw [wanted_at F rfl (t := 25) (b := true) (by kernel_rfl) rfl]; rfl) 26 rfl (by decide) 25 #[] (by intro a' F'; go_simp) (law06_awake _ HK.env) ?_
    rintro e9 w8 ⟨rfl, hb8⟩
    replace HK := HK.below hb8
    clear hb8
    clear w9
    rename World => w9
    refine ⟨_, rfl, ?_⟩
    clear F a9
    intro a9 F
    refine fr_ch F 2 [(4, .bool true), (27, .bool true)] (by kernel_rfl) ?_
    clear F a9
    intro a9 F
    refine wpList_nil ?_
    show Code.wp _ _ _ _ _
    refine wp_ret ?_
    exact fr_ret1 F rfl _ rfl (FIN.out _ HK.low)
set_option maxRecDepth 100000 in
set_option maxHeartbeats 4000000 in
theorem frow_good (a : Option Addr) (ca : Nat) (A : List PkE) (w : World) (hE : Env w) (ha : CellsA w a (pkCells A)) (hA : ∀ x ∈ A, PkArg w x.1 x.2.1 x.2.2) (m : Nat) (h1 : 16 ≤ m) (h2 : m ≤ 65536) (h20 : A.length ≤ 20) : Calls Tryd.prog 9 #[.int .i64 (m : Int), .slice a A.length ca] w fun e w' => e = .returned (.bool true) ∧ Below w.heap.size w w' := by
  have HA := Lib.hid hA
  have HRA := Lib.hid ha
  have HB0 : ∀ x ∈ ([] : List Box), x.2.2 ≠ 5 := by intro x hx; cases hx
  obtain ⟨RR, hRR⟩ : ∃ RR : Ending → World → Prop, RR = fun e w' => e = .returned (.bool true) ∧ Below w.heap.size w w' := ⟨_, rfl⟩
  have FIN := Lib.hid (show ∀ w', Below w.heap.size w w' → RR (.returned (.bool true)) w' from fun w' hb => by rw [hRR]; exact ⟨rfl, hb⟩)
  rw [← hRR]
  obtain ⟨w9, hw9⟩ : ∃ w9, w9 = w := ⟨_, rfl⟩
  have HK : Keep w [] [] w9 := by rw [hw9]; exact Keep.begin hE _ (by intro r hr; cases hr)
  suffices hgo : Calls Tryd.prog 9 #[.int .i64 (m : Int), .slice a A.length ca] w9 RR by rw [hw9] at hgo; exact hgo
  clear hw9 hRR hE
  clear ha hA
  go_enter Tryd.func9, Tryd.ntmps9
  refine wp_forget (n := 89) (L := [(1, .slice a A.length ca), (0, .int .i64 (m : Int))]) (FrL.add (FrL.add (FrL.nil ?_ ?_) _ _ ?_) _ _ ?_) ?_
  iterate 4 rfl
  intro a9 F
  refine wp_seq ?_
  refine wp_region_lit ?_
  refine fr_ch F 1 [(4, .bool false)] (by kernel_rfl) ?_
  clear F a9
  intro a9 F
  refine wpList_nil ?_
  show Code.wp _ _ _ _ _
  replace F := F.cut [(1, .slice a A.length ca), (0, .int .i64 (m : Int))] (by kernel_rfl)
  refine wp_seq ?_
  refine wp_seq ?_
  refine wp_region_lit ?_
  refine fr_ch F 2 [(12, .int .i64 (A.length : Int))] (by kernel_rfl) ?_
  clear F a9
  intro a9 F
  refine fr_do F (wanted_free rfl) 13 rfl (by decide) (.bool false) (by intro a' F'; have h12 := F'.at' 12 _ rfl; go_simp <;> omega) ?_
  clear F a9
  intro a9 F
  refine wpList_nil ?_
  show Code.wp _ _ _ _ _
  refine wp_cond_false (F.ev 13 rfl) ?_
  refine wp_skip ?_
  show Code.wp _ _ _ _ _
  replace F := F.cut [(1, .slice a A.length ca), (0, .int .i64 (m : Int))] (by kernel_rfl)
  refine wp_seq ?_
  refine wp_region_lit ?_
  refine fr_ch F 1 [(15, .int .i64 (m : Int))] (by kernel_rfl) ?_
  clear F a9
  intro a9 F
  refine fr_call F (wanted_free rfl) 16 rfl (by decide) 18 #[.int .i64 (m : Int)] (by intro a' F'; have h15 := F'.at' 15 _ rfl; go_simp) (frame_New m h1 h2 HK) ?_
  rintro e9 w8 ⟨X, rfl, HFC, hb8⟩
  clear HK hb8
  clear w9
  rename World => w9
  refine ⟨_, rfl, ?_⟩
  clear F a9
  intro a9 F
  refine fr_ch F 1 [(5, .pointer (some ⟨X, 0, none⟩))] (by kernel_rfl) ?_
  clear F a9
  intro a9 F
  refine wpList_nil ?_
  show Code.wp _ _ _ _ _
  replace F := F.cut [(5, .pointer (some ⟨X, 0, none⟩)), (1, .slice a A.length ca), (0, .int .i64 (m : Int))] (by kernel_rfl)
  refine wp_seq ?_
  refine wp_seq ?_
  refine wp_region_lit ?_
  refine fr_ch F 2 [(18, .bool false)] (by kernel_rfl) ?_
  clear F a9
  intro a9 F
  refine wpList_nil ?_
  show Code.wp _ _ _ _ _
  refine wp_cond_false (F.ev 18 rfl) ?_
  refine wp_skip ?_
  show Code.wp _ _ _ _ _
  replace F := F.cut [(5, .pointer (some ⟨X, 0, none⟩)), (1, .slice a A.length ca), (0, .int .i64 (m : Int))] (by kernel_rfl)
  refine wp_seq ?_
  refine wp_region_lit ?_
  refine fr_ch F 1 [(6, .slice none 0 0)] (by kernel_rfl) ?_
  clear F a9
  intro a9 F
  refine wpList_nil ?_
  show Code.wp _ _ _ _ _
  refine wp_seq ?_
  refine wp_region_lit ?_
  refine fr_ch F 1 [(7, .bool false)] (by kernel_rfl) ?_
  clear F a9
  intro a9 F
  refine wpList_nil ?_
  show Code.wp _ _ _ _ _
  refine wp_seq ?_
  refine wp_seq ?_
  refine wp_region_lit ?_
  refine fr_ch F 1 [(8, .int .i64 0)] (by kernel_rfl) ?_
  clear F a9
  intro a9 F
  refine wpList_nil ?_
  show Code.wp _ _ _ _ _
  replace F := F.cut [(8, .int .i64 0), (7, .bool false), (6, .slice none 0 0), (5, .pointer (some ⟨X, 0, none⟩)), (1, .slice a A.length ca), (0, .int .i64 (m : Int))] (by kernel_rfl)
  refine wp_block_end (fun a' w' => ∃ (T : List TdE) (aT : Option Addr) (cT : Nat) (lg : Bool), (∃ kk : Nat, FrL 89 [(8, .int .i64 (kk : Int)), (7, .bool lg), (6, .slice aT T.length cT), (5, .pointer (some ⟨X, 0, none⟩)), (1, .slice a A.length ca), (0, .int .i64 (m : Int))] a') ∧ FrC w [] X m (rowE (A.take (A.length))) 0 w' ∧ w'.ownsRow w.heap.size 51 25 (.slice aT T.length cT) T.length (tdCells T) ∧ SubsIn w' w.heap.size T ∧ T.map tp = wantF m (pks (A.take (A.length))) ∧ lg = longF m (pks (A.take (A.length))) ∧ (∀ y ∈ A.take (A.length), GoodR y) ∧ (rowE (A.take (A.length))).length ≤ (A.length) * 10420 ∧ T.length ≤ A.length) ?_ ?_
  · skip
    refine wp_loop (fun a' w' => ∃ (k : Nat), k ≤ A.length ∧ ∃ (T : List TdE) (aT : Option Addr) (cT : Nat) (lg : Bool), FrL 89 [(8, .int .i64 (k : Int)), (7, .bool lg), (6, .slice aT T.length cT), (5, .pointer (some ⟨X, 0, none⟩)), (1, .slice a A.length ca), (0, .int .i64 (m : Int))] a' ∧ FrC w [] X m (rowE (A.take (k))) 0 w' ∧ w'.ownsRow w.heap.size 51 25 (.slice aT T.length cT) T.length (tdCells T) ∧ SubsIn w' w.heap.size T ∧ T.map tp = wantF m (pks (A.take (k))) ∧ lg = longF m (pks (A.take (k))) ∧ (∀ y ∈ A.take (k), GoodR y) ∧ (rowE (A.take (k))).length ≤ (k) * 10420 ∧ T.length ≤ k) (fun a' _ => muI A.length 8 a') ⟨0, Nat.zero_le _, [], none, 0, false, F, HFC, World.ownsRow_nil _ _ _ _, (by intro x hx; cases hx), rfl, rfl, (by intro y hy; simp at hy), Nat.le_refl _, Nat.le_refl _⟩ ?_
    clear F HFC a9 w9
    rintro a9 w9 ⟨k, hk, T, aT, cT, lg, F, HFC, HT, HS, hq1, hq2, hq3, hq4, hq5⟩
    rw [muI_at F 8 k rfl]
    have HQ := Lib.hid (And.intro hq1 (And.intro hq2 hq3))
    clear hq1 hq2 hq3
    refine wp_seq ?_
    refine wp_seq ?_
    by_cases hlt : k < A.length
    · skip
      refine wp_region_lit ?_
      refine fr_ch F 3 [(30, .int .i64 (A.length : Int)), (29, .slice a A.length ca), (28, .int .i64 (k : Int))] (by kernel_rfl) ?_
      clear F a9
      intro a9 F
      refine fr_do F (wanted_free rfl) 31 rfl (by decide) (.bool true) (by intro a' F'; have h28 := F'.at' 28 _ rfl; have h30 := F'.at' 30 _ rfl; go_simp) ?_
      clear F a9
      intro a9 F
      refine wpList_nil ?_
      show Code.wp _ _ _ _ _
      refine wp_cond_true (F.ev 31 rfl) ?_
      refine wp_skip ?_
      show Code.wp _ _ _ _ _
      replace F := F.cut [(8, .int .i64 (k : Int)), (7, .bool lg), (6, .slice aT T.length cT), (5, .pointer (some ⟨X, 0, none⟩)), (1, .slice a A.length ca), (0, .int .i64 (m : Int))] (by kernel_rfl)
      obtain ⟨x, hx⟩ : ∃ x, A[k]? = some x := ⟨_, List.getElem?_eq_getElem hlt⟩
      have HX := Lib.hid hx
      have HPA := Lib.hid (HA.out x (List.mem_of_getElem? hx))
      obtain ⟨bb, oo, hal, hrg, hbb⟩ := pk_range HRA.out hx
      have HRG := Lib.hid hrg
      clear hrg hx
      obtain ⟨p, pa, pc⟩ := x
      refine wp_seq ?_
      refine wp_block_end (fun a' w' => ∃ (T : List TdE) (aT : Option Addr) (cT : Nat) (lg : Bool), FrL 89 [(8, .int .i64 (k : Int)), (7, .bool lg), (6, .slice aT T.length cT), (5, .pointer (some ⟨X, 0, none⟩)), (1, .slice a A.length ca), (0, .int .i64 (m : Int))] a' ∧ FrC w [] X m (rowE (A.take (k + 1))) 0 w' ∧ w'.ownsRow w.heap.size 51 25 (.slice aT T.length cT) T.length (tdCells T) ∧ SubsIn w' w.heap.size T ∧ T.map tp = wantF m (pks (A.take (k + 1))) ∧ lg = longF m (pks (A.take (k + 1))) ∧ (∀ y ∈ A.take (k + 1), GoodR y) ∧ (rowE (A.take (k + 1))).length ≤ (k + 1) * 10420 ∧ T.length ≤ k + 1) ?_ ?_
      · skip
        obtain ⟨gb, hgp⟩ : ∃ gb, greatB p = gb := ⟨_, rfl⟩
        have HG := Lib.hid (show ∀ w9, CellsA w9 pa (subCells p.subs) → Calls Tryd.prog 31 #[.agg (pkV p pa pc)] w9 fun e w' => e = .returned (.bool gb) ∧ Below w9.heap.size w9 w' from fun w9 h1 => by
          have h2 := law03_Great p pa pc w9 h1
          rw [hgp] at h2
          exact h2)
        cases gb
        · skip
          refine wp_seq ?_
          refine wp_seq ?_
          refine wp_region_lit ?_
          refine fr_ch F 2 [(35, .int .i64 (k : Int)), (34, .slice a A.length ca)] (by kernel_rfl) ?_
          clear F a9
          intro a9 F
          refine fr_do F (wanted_free rfl) 36 rfl (by decide) (.pointer (some ⟨bb, oo + k * 24, none⟩)) (by intro a' F'; have h34 := F'.at' 34 _ rfl; have h35 := F'.at' 35 _ rfl; go_simp) ?_
          clear F a9
          intro a9 F
          refine fr_do F (wanted_free rfl) 37 rfl (by decide) (.agg (pkV p pa pc)) (fun a' F' => run_load_midF 27 _ rfl bb (oo + k * 24) (F'.ev 36 rfl) (pkC (p, pa, pc)) _ (range_low HRG.out hbb HFC.low) Tryd.underlying27 rfl (pk_size p pa pc)) ?_
          clear F a9
          intro a9 F
          refine fr_call F (wanted_free rfl) 38 rfl (by decide) 31 #[.agg (pkV p pa pc)] (by intro a' F'; have h37 := F'.at' 37 _ rfl; go_simp) (HG.out _ (HPA.out.row.below HFC.low)) ?_
          rintro e9 w8 ⟨rfl, hb8⟩
          replace HFC := HFC.below hb8
          replace HT := own_only HT (Only.of_below hb8 (fun _ => False)) (fun _ _ h => h)
          replace HS := HS.below hb8
          clear hb8
          clear w9
          rename World => w9
          refine ⟨_, rfl, ?_⟩
          clear F a9
          intro a9 F
          refine wpList_nil ?_
          show Code.wp _ _ _ _ _
          refine wp_cond_false (F.ev 38 rfl) ?_
          refine wp_skip ?_
          show Code.wp _ _ _ _ _
          replace F := F.cut [(8, .int .i64 (k : Int)), (7, .bool lg), (6, .slice aT T.length cT), (5, .pointer (some ⟨X, 0, none⟩)), (1, .slice a A.length ca), (0, .int .i64 (m : Int))] (by kernel_rfl)
          have hsm := small_of hgp
          have hp := hsm.ok HPA.out.ty
          obtain ⟨t, ht⟩ : ∃ t, encS p = t := ⟨_, rfl⟩
          by_cases h0 : 0 ≤ restP p
          · skip
            have HN := Lib.hid (show ∀ w9, Env w9 → CellsA w9 pa (subCells p.subs) → Calls Tryd.prog 32 #[.agg (pkV p pa pc)] w9 fun e w' => e = .returned (.tuple #[.string t, .int .i64 0]) ∧ Below w9.heap.size w9 w' from fun w9 h1 h2 => by
              have h3 := write_Encode p pa pc w9 h1 hp h2
              rw [encE_good h0, ht] at h3
              exact h3)
            have hbt : bl t = encB p := by rw [← ht, encS_good h0]; rfl
            have hes := enc_small hsm
            have hts : t.size ≤ 10420 := by rw [← bl_len, hbt]; exact hes
            have htl : (encB p).length = t.size := by rw [← hbt, bl_len]
            have HGX := Lib.hid (show GoodR (p, pa, pc) from ⟨hsm, hp, h0⟩)
            have HCO := Lib.hid (show ∀ w9, Env w9 → CellsA w9 pa (subCells p.subs) → Calls Tryd.prog 33 #[.agg (pkV p pa pc)] w9 (RetCopy p w9) from fun w9 h1 h2 => packet_Copy p pa pc w9 h1 hp HPA.out.nil h2)
            obtain ⟨L, hLL⟩ : ∃ L, rowE (A.take k) = L := ⟨_, rfl⟩
            have HROW := Lib.hid (show rowE (A.take (k + 1)) = L ++ bl t by rw [rowE_snoc HX.out, hLL, hbt])
            have HW := Lib.hid (show wantF m (pks (A.take (k + 1))) = if longF m (pks (A.take k)) = true then wantF m (pks (A.take k)) else if m < t.size then wantF m (pks (A.take k)) ++ [(Pk.zero, 3)] else wantF m (pks (A.take k)) ++ [(p, 0)] by rw [pks_snoc HX.out, wantF_snoc, htl])
            have HLG := Lib.hid (show longF m (pks (A.take (k + 1))) = (longF m (pks (A.take k)) || decide (m < t.size)) by rw [pks_snoc HX.out, longF_snoc, htl])
            rw [hLL] at HFC hq4
            have HGD := Lib.hid (take_good HX.out HQ.out.2.2 HGX.out)
            clear hgp ht hp hsm hbt hes h0 HG hLL htl
            refine wp_seq ?_
            refine wp_region_lit ?_
            refine fr_ch F 2 [(42, .int .i64 (k : Int)), (41, .slice a A.length ca)] (by kernel_rfl) ?_
            clear F a9
            intro a9 F
            refine fr_do F (wanted_free rfl) 43 rfl (by decide) (.pointer (some ⟨bb, oo + k * 24, none⟩)) (by intro a' F'; have h41 := F'.at' 41 _ rfl; have h42 := F'.at' 42 _ rfl; go_simp) ?_
            clear F a9
            intro a9 F
            refine fr_do F (wanted_free rfl) 44 rfl (by decide) (.agg (pkV p pa pc)) (fun a' F' => run_load_midF 27 _ rfl bb (oo + k * 24) (F'.ev 43 rfl) (pkC (p, pa, pc)) _ (range_low HRG.out hbb HFC.low) Tryd.underlying27 rfl (pk_size p pa pc)) ?_
            clear F a9
            intro a9 F
            refine fr_call F (wanted_free rfl) 45 rfl (by decide) 32 #[.agg (pkV p pa pc)] (by intro a' F'; have h44 := F'.at' 44 _ rfl; go_simp) (HN.out _ HFC.env (HPA.out.row.below HFC.low)) ?_
            rintro e9 w8 ⟨rfl, hb8⟩
            replace HFC := HFC.below hb8
            replace HT := own_only HT (Only.of_below hb8 (fun _ => False)) (fun _ _ h => h)
            replace HS := HS.below hb8
            clear hb8
            clear w9
            rename World => w9
            refine ⟨_, rfl, ?_⟩
            clear F a9
            intro a9 F
            refine fr_ch F 5 [(10, .int .i64 0), (9, .string t), (47, .int .i64 0), (46, .string t), (40, .tuple #[.string t, .int .i64 0])] (by kernel_rfl) ?_
            clear F a9
            intro a9 F
            refine wpList_nil ?_
            show Code.wp _ _ _ _ _
            replace F := F.cut [(10, .int .i64 0), (9, .string t), (8, .int .i64 (k : Int)), (7, .bool lg), (6, .slice aT T.length cT), (5, .pointer (some ⟨X, 0, none⟩)), (1, .slice a A.length ca), (0, .int .i64 (m : Int))] (by kernel_rfl)
            refine wp_seq ?_
            refine wp_seq ?_
            refine wp_region_lit ?_
            refine fr_ch F 2 [(49, .bool false), (48, .int .i64 0)] (by kernel_rfl) ?_
            clear F a9
            intro a9 F
            refine wpList_nil ?_
            show Code.wp _ _ _ _ _
            refine wp_cond_false (F.ev 49 rfl) ?_
            refine wp_skip ?_
            show Code.wp _ _ _ _ _
            replace F := F.cut [(9, .string t), (8, .int .i64 (k : Int)), (7, .bool lg), (6, .slice aT T.length cT), (5, .pointer (some ⟨X, 0, none⟩)), (1, .slice a A.length ca), (0, .int .i64 (m : Int))] (by kernel_rfl)
            refine wp_seq ?_
            refine wp_region_lit ?_
            refine fr_ch F 2 [(52, .string t), (51, .pointer (some ⟨X, 0, none⟩))] (by kernel_rfl) ?_
            clear F a9
            intro a9 F
            refine fr_call F (wanted_free rfl) 53 rfl (by decide) 19 #[.pointer (some ⟨X, 0, none⟩), .string t] (by intro a' F'; have h51 := F'.at' 51 _ rfl; have h52 := F'.at' 52 _ rfl; go_simp) (frame_Push HFC (by omega) HB0 t (by omega)) ?_
            rintro e9 w8 ⟨rfl, hfc, hon⟩
            replace HT := hon.own HT (nfre _ (by decide) (by decide))
            replace HS := HS.only hon (nfre _ (by decide) (by decide))
            clear HFC hon
            clear w9
            rename World => w9
            have HFC := hfc
            clear hfc
            rw [← HROW.out] at HFC
            refine ⟨_, rfl, ?_⟩
            clear F a9
            intro a9 F
            refine wpList_nil ?_
            show Code.wp _ _ _ _ _
            replace F := F.cut [(9, .string t), (8, .int .i64 (k : Int)), (7, .bool lg), (6, .slice aT T.length cT), (5, .pointer (some ⟨X, 0, none⟩)), (1, .slice a A.length ca), (0, .int .i64 (m : Int))] (by kernel_rfl)
            cases lg
            · by_cases hlo : m < t.size
              · skip
                refine wp_seq ?_
                refine wp_seq ?_
                refine wp_region_lit ?_
                refine fr_ch F 6 [(59, .int .i64 (m : Int)), (58, .int .i64 (t.size : Int)), (57, .string t), (56, .bool true), (55, .bool true), (54, .bool false)] (by kernel_rfl) ?_
                clear F a9
                intro a9 F
                refine fr_do F (by rw [wanted_at F rfl (t := 56) (b := true) (by kernel_rfl) rfl]; rfl) 60 rfl (by decide) (.bool true) (by intro a' F'; have h58 := F'.at' 58 _ rfl; have h59 := F'.at' 59 _ rfl; go_simp) ?_
                clear F a9
                intro a9 F
                refine fr_ch F 1 [(61, .bool true)] (by kernel_rfl) ?_
                clear F a9
                intro a9 F
                refine wpList_nil ?_
                show Code.wp _ _ _ _ _
                refine wp_cond_true (F.ev 61 rfl) ?_
                replace F := F.cut [(8, .int .i64 (k : Int)), (7, .bool false), (6, .slice aT T.length cT), (5, .pointer (some ⟨X, 0, none⟩)), (1, .slice a A.length ca), (0, .int .i64 (m : Int))] (by kernel_rfl)
                refine wp_seq ?_
                refine wp_region_lit ?_
                refine fr_ch F 1 [(7, .bool true)] (by kernel_rfl) ?_
                clear F a9
                intro a9 F
                refine wpList_nil ?_
                show Code.wp _ _ _ _ _
                refine wp_region_lit ?_
                refine fr_ch F 2 [(63, .agg (tdC ((Pk.zero, none, 0), 3)).toArray), (62, .slice aT T.length cT)] (by kernel_rfl) ?_
                clear F a9
                intro a9 F
                obtain ⟨ax, cx, HK, HO⟩ := HFC
                have HSUB : w9.ownsRow w.heap.size 31 2 (.slice none 0 0) 0 [] := World.ownsRow_nil _ _ _ _
                obtain ⟨i0, hi, hz0, hz1, hz2⟩ := info_parts infoTold
                refine fr_doW F (wanted_free rfl) 64 rfl (by decide) (.slice (some ⟨w9.heap.size, 0, none⟩) 1 1) (w9.alloc (.cells (tdC ((Pk.zero, none, 0), 3)).toArray 51)) (fun a' F' => run_slice1 48 51 _ rfl (tdC ((Pk.zero, none, 0), 3)).toArray (F'.ev 63 rfl) i0 _ Tryd.underlying48 hi hz0 (by rw [hz1]; decide) (by rw [hz1]; decide) (by rw [hz1]; kernel_rfl)) ?_
                clear F a9
                intro a9 F
                have hb8 : Below w9.heap.size w9 (w9.alloc (.cells (tdC ((Pk.zero, none, 0), 3)).toArray 51)) := (Below.refl _ _).alloc (Nat.le_refl _) _
                have hnr : CellsA (w9.alloc (.cells (tdC ((Pk.zero, none, 0), 3)).toArray 51)) (some ⟨w9.heap.size, 0, none⟩) (tdC ((Pk.zero, none, 0), 3)) := cells_new
                replace HK := HK.below hb8
                replace HO := HO.below hb8
                replace HT := own_only HT (Only.of_below hb8 (fun _ => False)) (fun _ _ h => h)
                replace HSUB := own_only HSUB (Only.of_below hb8 (fun _ => False)) (fun _ _ h => h)
                replace HS := HS.below hb8
                obtain ⟨Z, hZ⟩ : ∃ Z, w9.heap.size = Z := ⟨_, rfl⟩
                rw [hZ] at hnr F
                clear hb8 hZ
                generalize w9.alloc (.cells (tdC ((Pk.zero, none, 0), 3)).toArray 51) = w8 at *
                clear w9
                rename World => w9
                refine fr_appendP F rfl 65 rfl (by decide) (.tmp 62) (.tmp 64) 48 rfl w.heap.size 51 i0 _ 25 208 Tryd.underlying48 hi hz0 hz1 hz2 rfl (by decide) (.slice aT T.length cT) T.length (tdCells T) (F.ev 62 rfl) HT (some ⟨Z, 0, none⟩) 1 1 (fun h => by cases h) (tdC ((Pk.zero, none, 0), 3)) (F.ev 64 rfl) rfl hnr (tdC_one _) (by unfold maxLen; omega) (by omega) HK.size ?_
                intro v8 w8 hown hgr
                clear hi hz0 hz1 hz2 i0 hnr
                have HK2 := HK.grownBox HT (Nat.le_refl _) hgr (by
                  intro x hx
                  rcases List.mem_cons.1 hx with rfl | hx
                  · exact (by decide : 54 ≠ 51)
                  · cases hx)
                have HO2 := own_grownE HO HT hgr (by decide)
                have HSUB2 := own_grownE HSUB HT hgr (by decide)
                have HS2 : SubsIn w8 w.heap.size T := fun x hx => own_grownE (HS x hx) HT hgr (by decide)
                obtain ⟨a3, c3, hv8, hx1, hx2⟩ := own_form hown
                clear hx1 hx2
                subst hv8
                clear HK HO HSUB HS HT hgr
                clear w9
                rename World => w9
                have HFC : FrC w [] X m (rowE (A.take (k + 1))) 0 w9 := ⟨ax, cx, HK2, HO2⟩
                have HSUB := HSUB2
                have HS := HS2
                have HT := hown
                clear HK2 HO2 HSUB2 HS2 hown
                intro a10 F'
                clear F a9
                rename Act => a9
                have F := F'
                clear F'
                have HT2 : w9.ownsRow w.heap.size 51 25 (.slice a3 (T ++ [((Pk.zero, none, 0), 3)]).length c3) (T ++ [((Pk.zero, none, 0), 3)]).length (tdCells (T ++ [((Pk.zero, none, 0), 3)])) := by
                  rw [tdCells_snoc, List.length_append]
                  exact HT
                clear HT
                have HT := HT2
                clear HT2
                have HS2 : SubsIn w9 w.heap.size (T ++ [((Pk.zero, none, 0), 3)]) := by
                  intro y hy
                  rcases List.mem_append.1 hy with hy | hy
                  · exact HS y hy
                  · simp at hy
                    subst hy
                    exact HSUB
                clear HS HSUB
                have HS := HS2
                clear HS2
                refine fr_ch F 1 [(6, .slice a3 (T.length + 1) c3)] (by kernel_rfl) ?_
                clear F a9
                intro a9 F
                refine wpList_nil ?_
                show Code.wp _ _ _ _ _
                replace F := F.cut [(8, .int .i64 (k : Int)), (7, .bool true), (6, .slice a3 (T.length + 1) c3), (5, .pointer (some ⟨X, 0, none⟩)), (1, .slice a A.length ca), (0, .int .i64 (m : Int))] (by kernel_rfl)
                refine wp_seq ?_
                refine wp_region_lit ?_
                refine fr_ch F 2 [(67, .bool false), (66, .bool true)] (by kernel_rfl) ?_
                clear F a9
                intro a9 F
                refine wpList_nil ?_
                show Code.wp _ _ _ _ _
                refine wp_cond_false (F.ev 67 rfl) ?_
                refine wp_skip ?_
                have hqq := HQ.out
                refine ⟨T ++ [((Pk.zero, none, 0), 3)], a3, c3, true, ?_, HFC, HT, HS, ?_, ?_, HGD.out, ?_, ?_⟩
                · rw [List.length_append]; exact (((((((FrL.nil F.size F.defers).add 0 _ (F.at' 0 _ rfl)).add 1 _ (F.at' 1 _ rfl)).add 5 _ (F.at' 5 _ rfl)).add 6 _ (F.at' 6 _ rfl)).add 7 _ (F.at' 7 _ rfl)).add 8 _ (F.at' 8 _ rfl))
                · rw [List.map_append, HW.out, ← hqq.2.1, if_neg (by decide), if_pos hlo, hqq.1]; rfl
                · rw [HLG.out, ← hqq.2.1, decide_eq_true hlo]; rfl
                · rw [HROW.out, List.length_append, bl_len]
                  omega
                · rw [List.length_append]; show T.length + 1 ≤ _; omega
              · skip
                refine wp_seq ?_
                refine wp_seq ?_
                refine wp_region_lit ?_
                refine fr_ch F 6 [(59, .int .i64 (m : Int)), (58, .int .i64 (t.size : Int)), (57, .string t), (56, .bool true), (55, .bool true), (54, .bool false)] (by kernel_rfl) ?_
                clear F a9
                intro a9 F
                refine fr_do F (by rw [wanted_at F rfl (t := 56) (b := true) (by kernel_rfl) rfl]; rfl) 60 rfl (by decide) (.bool false) (by intro a' F'; have h58 := F'.at' 58 _ rfl; have h59 := F'.at' 59 _ rfl; go_simp) ?_
                clear F a9
                intro a9 F
                refine fr_ch F 1 [(61, .bool false)] (by kernel_rfl) ?_
                clear F a9
                intro a9 F
                refine wpList_nil ?_
                show Code.wp _ _ _ _ _
                refine wp_cond_false (F.ev 61 rfl) ?_
                refine wp_skip ?_
                show Code.wp _ _ _ _ _
                replace F := F.cut [(8, .int .i64 (k : Int)), (7, .bool false), (6, .slice aT T.length cT), (5, .pointer (some ⟨X, 0, none⟩)), (1, .slice a A.length ca), (0, .int .i64 (m : Int))] (by kernel_rfl)
                refine wp_seq ?_
                refine wp_region_lit ?_
                refine fr_ch F 2 [(67, .bool true), (66, .bool false)] (by kernel_rfl) ?_
                clear F a9
                intro a9 F
                refine wpList_nil ?_
                show Code.wp _ _ _ _ _
                refine wp_cond_true (F.ev 67 rfl) ?_
                replace F := F.cut [(8, .int .i64 (k : Int)), (7, .bool false), (6, .slice aT T.length cT), (5, .pointer (some ⟨X, 0, none⟩)), (1, .slice a A.length ca), (0, .int .i64 (m : Int))] (by kernel_rfl)
                refine wp_region_lit ?_
                refine fr_ch F 3 [(70, .int .i64 (k : Int)), (69, .slice a A.length ca), (68, .slice aT T.length cT)] (by kernel_rfl) ?_
                clear F a9
                intro a9 F
                refine fr_do F (wanted_free rfl) 71 rfl (by decide) (.pointer (some ⟨bb, oo + k * 24, none⟩)) (by intro a' F'; have h69 := F'.at' 69 _ rfl; have h70 := F'.at' 70 _ rfl; go_simp) ?_
                clear F a9
                intro a9 F
                refine fr_do F (wanted_free rfl) 72 rfl (by decide) (.agg (pkV p pa pc)) (fun a' F' => run_load_midF 27 _ rfl bb (oo + k * 24) (F'.ev 71 rfl) (pkC (p, pa, pc)) _ (range_low HRG.out hbb HFC.low) Tryd.underlying27 rfl (pk_size p pa pc)) ?_
                clear F a9
                intro a9 F
                refine fr_call F (wanted_free rfl) 73 rfl (by decide) 33 #[.agg (pkV p pa pc)] (by intro a' F'; have h72 := F'.at' 72 _ rfl; go_simp) (HCO.out _ HFC.env (HPA.out.row.below HFC.low)) ?_
                rintro e9 w8 ⟨al, cap, rfl, hsub, hb8⟩
                have HSUB := own_base hsub HFC.low.size
                clear hsub
                replace HFC := HFC.below hb8
                replace HT := own_only HT (Only.of_below hb8 (fun _ => False)) (fun _ _ h => h)
                replace HS := HS.below hb8
                clear hb8
                clear w9
                rename World => w9
                refine ⟨_, rfl, ?_⟩
                clear F a9
                intro a9 F
                refine fr_ch F 1 [(74, .agg (tdC ((p, al, cap), 0)).toArray)] (by kernel_rfl) ?_
                clear F a9
                intro a9 F
                obtain ⟨ax, cx, HK, HO⟩ := HFC
                obtain ⟨i0, hi, hz0, hz1, hz2⟩ := info_parts infoTold
                refine fr_doW F (wanted_free rfl) 75 rfl (by decide) (.slice (some ⟨w9.heap.size, 0, none⟩) 1 1) (w9.alloc (.cells (tdC ((p, al, cap), 0)).toArray 51)) (fun a' F' => run_slice1 48 51 _ rfl (tdC ((p, al, cap), 0)).toArray (F'.ev 74 rfl) i0 _ Tryd.underlying48 hi hz0 (by rw [hz1]; decide) (by rw [hz1]; decide) (by rw [hz1]; kernel_rfl)) ?_
                clear F a9
                intro a9 F
                have hb8 : Below w9.heap.size w9 (w9.alloc (.cells (tdC ((p, al, cap), 0)).toArray 51)) := (Below.refl _ _).alloc (Nat.le_refl _) _
                have hnr : CellsA (w9.alloc (.cells (tdC ((p, al, cap), 0)).toArray 51)) (some ⟨w9.heap.size, 0, none⟩) (tdC ((p, al, cap), 0)) := cells_new
                replace HK := HK.below hb8
                replace HO := HO.below hb8
                replace HT := own_only HT (Only.of_below hb8 (fun _ => False)) (fun _ _ h => h)
                replace HSUB := own_only HSUB (Only.of_below hb8 (fun _ => False)) (fun _ _ h => h)
                replace HS := HS.below hb8
                obtain ⟨Z, hZ⟩ : ∃ Z, w9.heap.size = Z := ⟨_, rfl⟩
                rw [hZ] at hnr F
                clear hb8 hZ
                generalize w9.alloc (.cells (tdC ((p, al, cap), 0)).toArray 51) = w8 at *
                clear w9
                rename World => w9
                refine fr_appendP F rfl 76 rfl (by decide) (.tmp 68) (.tmp 75) 48 rfl w.heap.size 51 i0 _ 25 208 Tryd.underlying48 hi hz0 hz1 hz2 rfl (by decide) (.slice aT T.length cT) T.length (tdCells T) (F.ev 68 rfl) HT (some ⟨Z, 0, none⟩) 1 1 (fun h => by cases h) (tdC ((p, al, cap), 0)) (F.ev 75 rfl) rfl hnr (tdC_one _) (by unfold maxLen; omega) (by omega) HK.size ?_
                intro v8 w8 hown hgr
                clear hi hz0 hz1 hz2 i0 hnr
                have HK2 := HK.grownBox HT (Nat.le_refl _) hgr (by
                  intro x hx
                  rcases List.mem_cons.1 hx with rfl | hx
                  · exact (by decide : 54 ≠ 51)
                  · cases hx)
                have HO2 := own_grownE HO HT hgr (by decide)
                have HSUB2 := own_grownE HSUB HT hgr (by decide)
                have HS2 : SubsIn w8 w.heap.size T := fun x hx => own_grownE (HS x hx) HT hgr (by decide)
                obtain ⟨a3, c3, hv8, hx1, hx2⟩ := own_form hown
                clear hx1 hx2
                subst hv8
                clear HK HO HSUB HS HT hgr
                clear w9
                rename World => w9
                have HFC : FrC w [] X m (rowE (A.take (k + 1))) 0 w9 := ⟨ax, cx, HK2, HO2⟩
                have HSUB := HSUB2
                have HS := HS2
                have HT := hown
                clear HK2 HO2 HSUB2 HS2 hown
                intro a10 F'
                clear F a9
                rename Act => a9
                have F := F'
                clear F'
                have HT2 : w9.ownsRow w.heap.size 51 25 (.slice a3 (T ++ [((p, al, cap), 0)]).length c3) (T ++ [((p, al, cap), 0)]).length (tdCells (T ++ [((p, al, cap), 0)])) := by
                  rw [tdCells_snoc, List.length_append]
                  exact HT
                clear HT
                have HT := HT2
                clear HT2
                have HS2 : SubsIn w9 w.heap.size (T ++ [((p, al, cap), 0)]) := by
                  intro y hy
                  rcases List.mem_append.1 hy with hy | hy
                  · exact HS y hy
                  · simp at hy
                    subst hy
                    exact HSUB
                clear HS HSUB
                have HS := HS2
                clear HS2
                refine fr_ch F 1 [(6, .slice a3 (T.length + 1) c3)] (by kernel_rfl) ?_
                clear F a9
                intro a9 F
                refine wpList_nil ?_
                have hqq := HQ.out
                refine ⟨T ++ [((p, al, cap), 0)], a3, c3, false, ?_, HFC, HT, HS, ?_, ?_, HGD.out, ?_, ?_⟩
                · rw [List.length_append]; exact (((((((FrL.nil F.size F.defers).add 0 _ (F.at' 0 _ rfl)).add 1 _ (F.at' 1 _ rfl)).add 5 _ (F.at' 5 _ rfl)).add 6 _ (F.at' 6 _ rfl)).add 7 _ (F.at' 7 _ rfl)).add 8 _ (F.at' 8 _ rfl))
                · rw [List.map_append, HW.out, ← hqq.2.1, if_neg (by decide), if_neg hlo, hqq.1]; rfl
                · rw [HLG.out, ← hqq.2.1, decide_eq_false hlo]; rfl
                · rw [HROW.out, List.length_append, bl_len]
                  omega
                · rw [List.length_append]; show T.length + 1 ≤ _; omega
            · skip
              refine wp_seq ?_
              refine wp_seq ?_
              refine wp_region_lit ?_
              refine fr_ch F 8 [(61, .bool false), (60, undef), (59, undef), (58, undef), (57, undef), (56, .bool false), (55, .bool false), (54, .bool true)] (by kernel_rfl) ?_
              clear F a9
              intro a9 F
              refine wpList_nil ?_
              show Code.wp _ _ _ _ _
              refine wp_cond_false (F.ev 61 rfl) ?_
              refine wp_skip ?_
              show Code.wp _ _ _ _ _
              replace F := F.cut [(8, .int .i64 (k : Int)), (7, .bool true), (6, .slice aT T.length cT), (5, .pointer (some ⟨X, 0, none⟩)), (1, .slice a A.length ca), (0, .int .i64 (m : Int))] (by kernel_rfl)
              refine wp_seq ?_
              refine wp_region_lit ?_
              refine fr_ch F 2 [(67, .bool false)] (by kernel_rfl) ?_
              clear F a9
              intro a9 F
              refine wpList_nil ?_
              show Code.wp _ _ _ _ _
              refine wp_cond_false (F.ev 67 rfl) ?_
              refine wp_skip ?_
              have hqq := HQ.out
              refine ⟨T, aT, cT, true, ?_, HFC, HT, HS, ?_, ?_, HGD.out, ?_, ?_⟩
              · exact (((((((FrL.nil F.size F.defers).add 0 _ (F.at' 0 _ rfl)).add 1 _ (F.at' 1 _ rfl)).add 5 _ (F.at' 5 _ rfl)).add 6 _ (F.at' 6 _ rfl)).add 7 _ (F.at' 7 _ rfl)).add 8 _ (F.at' 8 _ rfl))
              · rw [HW.out, ← hqq.2.1, if_pos rfl, hqq.1]
              · rw [HLG.out, ← hqq.2.1]; rfl
              · rw [HROW.out, List.length_append, bl_len]
                omega
              · omega
          · skip
            have HN := Lib.hid (show ∀ w9, Env w9 → CellsA w9 pa (subCells p.subs) → Calls Tryd.prog 32 #[.agg (pkV p pa pc)] w9 fun e w' => e = .returned (.tuple #[.string t, .int .i64 4]) ∧ Below w9.heap.size w9 w' from fun w9 h1 h2 => by
              have h3 := write_Encode p pa pc w9 h1 hp h2
              rw [encE_bad (by omega), ht] at h3
              exact h3)
            clear hgp ht hp hsm h0 HG
            refine wp_seq ?_
            refine wp_region_lit ?_
            refine fr_ch F 2 [(42, .int .i64 (k : Int)), (41, .slice a A.length ca)] (by kernel_rfl) ?_
            clear F a9
            intro a9 F
            refine fr_do F (wanted_free rfl) 43 rfl (by decide) (.pointer (some ⟨bb, oo + k * 24, none⟩)) (by intro a' F'; have h41 := F'.at' 41 _ rfl; have h42 := F'.at' 42 _ rfl; go_simp) ?_
            clear F a9
            intro a9 F
            refine fr_do F (wanted_free rfl) 44 rfl (by decide) (.agg (pkV p pa pc)) (fun a' F' => run_load_midF 27 _ rfl bb (oo + k * 24) (F'.ev 43 rfl) (pkC (p, pa, pc)) _ (range_low HRG.out hbb HFC.low) Tryd.underlying27 rfl (pk_size p pa pc)) ?_
            clear F a9
            intro a9 F
            refine fr_call F (wanted_free rfl) 45 rfl (by decide) 32 #[.agg (pkV p pa pc)] (by intro a' F'; have h44 := F'.at' 44 _ rfl; go_simp) (HN.out _ HFC.env (HPA.out.row.below HFC.low)) ?_
            rintro e9 w8 ⟨rfl, hb8⟩
            replace HFC := HFC.below hb8
            replace HT := own_only HT (Only.of_below hb8 (fun _ => False)) (fun _ _ h => h)
            replace HS := HS.below hb8
            clear hb8
            clear w9
            rename World => w9
            refine ⟨_, rfl, ?_⟩
            clear F a9
            intro a9 F
            refine fr_ch F 5 [(10, .int .i64 4), (9, .string t), (47, .int .i64 4), (46, .string t), (40, .tuple #[.string t, .int .i64 4])] (by kernel_rfl) ?_
            clear F a9
            intro a9 F
            refine wpList_nil ?_
            show Code.wp _ _ _ _ _
            replace F := F.cut [(10, .int .i64 4), (9, .string t), (8, .int .i64 (k : Int)), (7, .bool lg), (6, .slice aT T.length cT), (5, .pointer (some ⟨X, 0, none⟩)), (1, .slice a A.length ca), (0, .int .i64 (m : Int))] (by kernel_rfl)
            refine wp_seq ?_
            refine wp_seq ?_
            refine wp_region_lit ?_
            refine fr_ch F 2 [(49, .bool true)] (by kernel_rfl) ?_
            clear F a9
            intro a9 F
            refine wpList_nil ?_
            show Code.wp _ _ _ _ _
            refine wp_cond_true (F.ev 49 rfl) ?_
            refine wp_seq ?_
            refine wp_region_lit ?_
            refine fr_call F (wanted_free rfl) 50 rfl (by decide) 25 #[] (by intro a' F'; go_simp) (law06_awake _ HFC.env) ?_
            rintro e9 w8 ⟨rfl, hb8⟩
            replace HFC := HFC.below hb8
            replace HT := own_only HT (Only.of_below hb8 (fun _ => False)) (fun _ _ h => h)
            replace HS := HS.below hb8
            clear hb8
            clear w9
            rename World => w9
            refine ⟨_, rfl, ?_⟩
            clear F a9
            intro a9 F
            refine fr_ch F 1 [(4, .bool true)] (by kernel_rfl) ?_
            clear F a9
            intro a9 F
            refine wpList_nil ?_
            show Code.wp _ _ _ _ _
            refine wp_ret ?_
            exact fr_ret1 F rfl _ rfl (FIN.out _ HFC.low)
        · skip
          refine wp_seq ?_
          refine wp_seq ?_
          refine wp_region_lit ?_
          refine fr_ch F 2 [(35, .int .i64 (k : Int)), (34, .slice a A.length ca)] (by kernel_rfl) ?_
          clear F a9
          intro a9 F
          refine fr_do F (wanted_free rfl) 36 rfl (by decide) (.pointer (some ⟨bb, oo + k * 24, none⟩)) (by intro a' F'; have h34 := F'.at' 34 _ rfl; have h35 := F'.at' 35 _ rfl; go_simp) ?_
          clear F a9
          intro a9 F
          refine fr_do F (wanted_free rfl) 37 rfl (by decide) (.agg (pkV p pa pc)) (fun a' F' => run_load_midF 27 _ rfl bb (oo + k * 24) (F'.ev 36 rfl) (pkC (p, pa, pc)) _ (range_low HRG.out hbb HFC.low) Tryd.underlying27 rfl (pk_size p pa pc)) ?_
          clear F a9
          intro a9 F
          refine fr_call F (wanted_free rfl) 38 rfl (by decide) 31 #[.agg (pkV p pa pc)] (by intro a' F'; have h37 := F'.at' 37 _ rfl; go_simp) (HG.out _ (HPA.out.row.below HFC.low)) ?_
          rintro e9 w8 ⟨rfl, hb8⟩
          replace HFC := HFC.below hb8
          replace HT := own_only HT (Only.of_below hb8 (fun _ => False)) (fun _ _ h => h)
          replace HS := HS.below hb8
          clear hb8
          clear w9
          rename World => w9
          refine ⟨_, rfl, ?_⟩
          clear F a9
          intro a9 F
          refine wpList_nil ?_
          show Code.wp _ _ _ _ _
          refine wp_cond_true (F.ev 38 rfl) ?_
          refine wp_seq ?_
          refine wp_region_lit ?_
          refine fr_call F (wanted_free rfl) 39 rfl (by decide) 25 #[] (by intro a' F'; go_simp) (law06_awake _ HFC.env) ?_
          rintro e9 w8 ⟨rfl, hb8⟩
          replace HFC := HFC.below hb8
          replace HT := own_only HT (Only.of_below hb8 (fun _ => False)) (fun _ _ h => h)
          replace HS := HS.below hb8
          clear hb8
          clear w9
          rename World => w9
          refine ⟨_, rfl, ?_⟩
          clear F a9
          intro a9 F
          refine fr_ch F 1 [(4, .bool true)] (by kernel_rfl) ?_
          clear F a9
          intro a9 F
          refine wpList_nil ?_
          show Code.wp _ _ _ _ _
          refine wp_ret ?_
          exact fr_ret1 F rfl _ rfl (FIN.out _ HFC.low)
      · clear F HFC HT HS HQ a9 w9
        rintro a9 w9 ⟨T, aT, cT, lg, F, hrest⟩
        show Code.wp _ _ _ _ _
        refine wp_region_lit ?_
        refine fr_ch F 1 [(32, .int .i64 (k : Int))] (by kernel_rfl) ?_
        clear F a9
        intro a9 F
        refine fr_do F (wanted_free rfl) 33 rfl (by decide) (.int .i64 ((k + 1 : Nat) : Int)) (by intro a' F'; have h32 := F'.at' 32 _ rfl; go_simp <;> (rw [IntKind.wrap_i64]; omega)) ?_
        clear F a9
        intro a9 F
        refine fr_ch F 1 [(8, .int .i64 ((k + 1 : Nat) : Int))] (by kernel_rfl) ?_
        clear F a9
        intro a9 F
        refine wpList_nil ?_
        replace F := F.cut [(8, .int .i64 ((k + 1 : Nat) : Int)), (7, .bool lg), (6, .slice aT T.length cT), (5, .pointer (some ⟨X, 0, none⟩)), (1, .slice a A.length ca), (0, .int .i64 (m : Int))] (by kernel_rfl)
        refine ⟨⟨k + 1, by omega, T, aT, cT, lg, F, hrest⟩, ?_⟩
        rw [muI_at F 8 (k + 1) rfl]
        omega
    · have hk2 : k = A.length := by omega
      subst hk2
      refine wp_region_lit ?_
      refine fr_ch F 3 [(30, .int .i64 (A.length : Int)), (28, .int .i64 (A.length : Int))] (by kernel_rfl) ?_
      clear F a9
      intro a9 F
      refine fr_do F (wanted_free rfl) 31 rfl (by decide) (.bool false) (by intro a' F'; have h28 := F'.at' 28 _ rfl; have h30 := F'.at' 30 _ rfl; go_simp) ?_
      clear F a9
      intro a9 F
      refine wpList_nil ?_
      show Code.wp _ _ _ _ _
      refine wp_cond_false (F.ev 31 rfl) ?_
      refine wp_exit ?_
      exact then_exit (then_exit (exit_in ⟨T, aT, cT, lg, ⟨A.length, (((((((FrL.nil F.size F.defers).add 0 _ (F.at' 0 _ rfl)).add 1 _ (F.at' 1 _ rfl)).add 5 _ (F.at' 5 _ rfl)).add 6 _ (F.at' 6 _ rfl)).add 7 _ (F.at' 7 _ rfl)).add 8 _ (F.at' 8 _ rfl))⟩, HFC, HT, HS, HQ.out.1, HQ.out.2.1, HQ.out.2.2, hq4, hq5⟩))
  · clear F HFC a9 w9
    rintro a9 w9 ⟨T, aT, cT, lg, ⟨kk, F⟩, HFC, HT, HS, hq1, hq2, hq3, hq4, hq5⟩
    show Code.wp _ _ _ _ _
    rw [List.take_length] at HFC hq1 hq3 hq4
    clear hq2
    have hgo : ∀ p ∈ pks A, PkOk p ∧ 0 ≤ restP p := by
      intro p hp
      obtain ⟨y, hy, rfl⟩ := List.mem_map.1 hp
      exact ⟨(hq3 y hy).2.1, (hq3 y hy).2.2⟩
    have htw := tell_want m (pks A) hgo
    have HTW := Lib.hid htw
    have hpl : (pks A).length = A.length := List.length_map _
    have hrl := (rowT_len m (pks A)).1
    have HPW := Lib.hid (show ∀ x ∈ wantF m (pks A), PkOk x.1 from fun x hx => by
      unfold wantF at hx
      rcases List.mem_append.1 hx with hx | hx
      · obtain ⟨q, hq, rfl⟩ := List.mem_map.1 hx
        exact (hgo q ((rowT_len m (pks A)).2 q hq)).1
      · split at hx
        · simp at hx
          subst hx
          exact pk_zero
        · cases hx)
    have hcount : (tellR m (rowE A)).1.length ≤ 70000 := by unfold rowE; rw [htw]; show (rowT m (pks A)).1.length ≤ _; omega
    have HW1 := Lib.hid hq1
    have HTD := Lib.hid (show toldR m (rowE A) = wantF m (pks A) by unfold toldR wantF rowE; rw [htw])
    have HLF := Lib.hid (show (tellR m (rowE A)).2.1 = [] by unfold rowE; rw [htw])
    clear hgo htw hq1 hq3
    replace F := F.cut [(6, .slice aT T.length cT), (5, .pointer (some ⟨X, 0, none⟩))] (by kernel_rfl)
    refine wp_seq ?_
    refine wp_region_lit ?_
    refine fr_ch F 1 [(77, .pointer (some ⟨X, 0, none⟩))] (by kernel_rfl) ?_
    clear F a9
    intro a9 F
    refine fr_call F (wanted_free rfl) 78 rfl (by decide) 23 #[.pointer (some ⟨X, 0, none⟩)] (by intro a' F'; have h77 := F'.at' 77 _ rfl; go_simp) (drain_free HFC (by omega) (by omega) HB0 (by intro x hx; cases hx) hcount) ?_
    rintro e9 w8 ⟨U, aU, cU, rfl, HTU, HSU, hUm, hfc, hon⟩
    replace HT := hon.own HT (nfre _ (by decide) (by decide))
    replace HS := HS.only hon (nfre _ (by decide) (by decide))
    obtain ⟨B9, hB9⟩ : ∃ B9, w9.heap.size = B9 := ⟨_, rfl⟩
    rw [hB9] at HTU HSU
    rw [HLF.out] at hfc
    have HUM := Lib.hid (hUm.trans HTD.out)
    clear HFC hon hB9 hUm
    clear w9
    rename World => w9
    have HFC := hfc
    clear hfc
    have HPU := Lib.hid (show ∀ x ∈ U, PkOk x.1.1 from fun x hx => HPW.out (tp x) (by rw [← HUM.out]; exact List.mem_map_of_mem hx))
    have HPT := Lib.hid (show ∀ x ∈ T, PkOk x.1.1 from fun x hx => HPW.out (tp x) (by rw [← HW1.out]; exact List.mem_map_of_mem hx))
    have hlu : U.length = T.length := by
      have h3 := congrArg List.length (HUM.out.trans HW1.out.symm)
      simpa using h3
    refine ⟨_, rfl, ?_⟩
    clear F a9
    intro a9 F
    refine fr_ch F 1 [(79, .slice aT T.length cT)] (by kernel_rfl) ?_
    clear F a9
    intro a9 F
    refine fr_call F (wanted_free rfl) 80 rfl (by decide) 22 #[.slice aU U.length cU, .slice aT T.length cT] (by intro a' F'; have h78 := F'.at' 78 _ rfl; have h79 := F'.at' 79 _ rfl; go_simp) (law06_same aU cU U aT cT T w9 HFC.env (own_cells HTU) (own_cells HT) (told_in HSU HPU.out) (told_in HS HPT.out) (HUM.out.trans HW1.out.symm) (by omega)) ?_
    rintro e9 w8 ⟨rfl, hb8⟩
    replace HFC := HFC.below hb8
    clear hb8 HT HS HTU HSU
    clear w9
    rename World => w9
    refine ⟨_, rfl, ?_⟩
    clear F a9
    intro a9 F
    refine fr_ch F 2 [(82, .pointer (some ⟨X, 0, none⟩)), (81, .bool true)] (by kernel_rfl) ?_
    clear F a9
    intro a9 F
    refine fr_call F (by rw [wanted_at F rfl (t := 81) (b := true) (by kernel_rfl) rfl]; rfl) 83 rfl (by decide) 21 #[.pointer (some ⟨X, 0, none⟩)] (by intro a' F'; have h82 := F'.at' 82 _ rfl; go_simp) (frame_Left HFC) ?_
    rintro e9 w8 ⟨rfl, rfl⟩
    refine ⟨_, rfl, ?_⟩
    clear F a9
    intro a9 F
    refine fr_ch F 3 [(86, .bool true), (85, .bool true), (84, .bool true)] (by kernel_rfl) ?_
    clear F a9
    intro a9 F
    refine fr_call F (by rw [wanted_at F rfl (t := 86) (b := true) (by kernel_rfl) rfl]; rfl) 87 rfl (by decide) 25 #[] (by intro a' F'; go_simp) (law06_awake _ HFC.env) ?_
    rintro e9 w8 ⟨rfl, hb8⟩
    replace HFC := HFC.below hb8
    clear hb8
    clear w9
    rename World => w9
    refine ⟨_, rfl, ?_⟩
    clear F a9
    intro a9 F
    refine fr_ch F 2 [(4, .bool true), (88, .bool true)] (by kernel_rfl) ?_
    clear F a9
    intro a9 F
    refine wpList_nil ?_
    show Code.wp _ _ _ _ _
    refine wp_ret ?_
    exact fr_ret1 F rfl _ rfl (FIN.out _ HFC.low)
theorem law06_FrameRow (i : Int) (a : Option Addr) (ca : Nat) (A : List PkE) (w : World) (hE : Env w) (_ : Whole i) (_ : a = none → ca = 0) (_ : A.length ≤ 9223372036854775807) (ha : CellsA w a (pkCells A)) (hA : ∀ x ∈ A, PkArg w x.1 x.2.1 x.2.2) : Calls Tryd.prog 9 #[.int .i64 i, .slice a A.length ca] w fun e w' => e = .returned (.bool true) ∧ Below w.heap.size w w' := by
  by_cases h : 20 < A.length
  · exact frow_many a ca A w hE ha hA i h
  by_cases hi : i < 16 ∨ 65536 < i
  · exact frow_none a ca A w hE ha hA i hi (by omega)
  · obtain ⟨m, rfl⟩ : ∃ m : Nat, i = (m : Int) := ⟨i.toNat, by omega⟩
    exact frow_good a ca A w hE ha hA m (by omega) (by omega) (by omega)
end Go.Proofs.YtfljdlaelanliaaDoor
