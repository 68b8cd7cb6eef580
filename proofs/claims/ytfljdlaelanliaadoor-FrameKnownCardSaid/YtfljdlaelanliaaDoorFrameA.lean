/- The walks of frame.New, Push, Left. Conditions: the framer's cells lie in a block of the caller's own, its bytes are a row of its own; a machine's bound on their size. -/
import Derived.Test.YtfljdlaelanliaaDoorJoinF
import Derived.Test.YtfljdlaelanliaaDoorJoinC
import Derived.Test.YtfljdlaelanliaaDoorJoinG
import Derived.Test.YtfljdlaelanliaaDoorJoinE
namespace Go.Proofs.YtfljdlaelanliaaDoor
open Go.RowKit
/-- A framer's cells. -/
def frV (m : Nat) (a : Option Addr) (n c e : Nat) : Array Value := #[.int .i64 (m : Int), .slice a n c, .int .i64 (e : Int)]
/-- What a framer's calls change. -/
def FrE (t : TypeId) : Prop := t = 5 ∨ t = 54
/-- A framer: its limit, its bytes, its error. -/
def FrC (w0 : World) (B : List Box) (X m : Nat) (L : Bs) (e : Nat) (w : World) : Prop :=
  ∃ (a : Option Addr) (c : Nat), Keep w0 ((X, frV m a L.length c e, 54) :: B) [] w ∧ Out w w0.heap.size (.slice a L.length c) L
theorem z_bytes : (Tryd.prog.info? 52).map (·.size) = some 1 := by kernel_rfl
theorem z_err : (Tryd.prog.info? 36).map (·.size) = some 1 := by kernel_rfl
theorem FrC.below {w0 w w' : World} {B : List Box} {X m e : Nat} {L : Bs} (h : FrC w0 B X m L e w) (k : Below w.heap.size w w') : FrC w0 B X m L e w' := by
  obtain ⟨a, c, h1, h2⟩ := h
  exact ⟨a, c, h1.below k, h2.below k⟩
theorem FrC.env {w0 w : World} {B : List Box} {X m e : Nat} {L : Bs} (h : FrC w0 B X m L e w) : Env w := by
  obtain ⟨a, c, h1, h2⟩ := h
  exact h1.env
theorem FrC.low {w0 w : World} {B : List Box} {X m e : Nat} {L : Bs} (h : FrC w0 B X m L e w) : Below w0.heap.size w0 w := by
  obtain ⟨a, c, h1, h2⟩ := h
  exact h1.low
theorem out_nil (w : World) (B : Nat) : Out w B (.slice none 0 0) [] := World.ownsRow_nil _ _ _ _
set_option maxRecDepth 100000 in
set_option maxHeartbeats 4000000 in
theorem frame_New_no (i : Int) (h : i < 16 ∨ 65536 < i) (w : World) : Calls Tryd.prog 18 #[.int .i64 i] w fun e w' => e = .returned (.pointer none) ∧ w = w' := by
  obtain ⟨RR, hRR⟩ : ∃ RR : Ending → World → Prop, RR = fun e w' => e = .returned (.pointer none) ∧ w = w' := ⟨_, rfl⟩
  have FIN := Lib.hid (show RR (.returned (.pointer none)) w from by rw [hRR]; exact ⟨rfl, rfl⟩)
  rw [← hRR]
  clear hRR
  rename World => w9
  go_enter Tryd.func18, Tryd.ntmps18
  refine wp_forget (n := 12) (L := [(0, .int .i64 i)]) (FrL.add (FrL.nil ?_ ?_) _ _ ?_) ?_
  iterate 3 rfl
  intro a9 F
  by_cases hlo : i < 16
  · skip
    refine wp_seq ?_
    refine wp_region_lit ?_
    refine fr_ch F 1 [(2, .pointer none)] (by kernel_rfl) ?_
    clear F a9
    intro a9 F
    refine wpList_nil ?_
    show Code.wp _ _ _ _ _
    replace F := F.cut [(2, .pointer none), (0, .int .i64 i)] (by kernel_rfl)
    refine wp_seq ?_
    refine wp_seq ?_
    refine wp_region_lit ?_
    refine fr_ch F 1 [(3, .int .i64 i)] (by kernel_rfl) ?_
    clear F a9
    intro a9 F
    refine fr_do F (wanted_free rfl) 4 rfl (by decide) (.bool true) (by intro a' F'; have h3 := F'.at' 3 _ rfl; go_simp) ?_
    clear F a9
    intro a9 F
    refine fr_ch F 4 [(8, .bool true), (7, undef), (6, undef), (5, .bool true)] (by kernel_rfl) ?_
    clear F a9
    intro a9 F
    refine wpList_nil ?_
    show Code.wp _ _ _ _ _
    refine wp_cond_true (F.ev 8 rfl) ?_
    refine wp_seq ?_
    refine wp_region_lit ?_
    refine fr_ch F 1 [(2, .pointer none)] (by kernel_rfl) ?_
    clear F a9
    intro a9 F
    refine wpList_nil ?_
    show Code.wp _ _ _ _ _
    refine wp_ret ?_
    exact fr_ret1 F rfl _ rfl (FIN.out)
  · skip
    have hhi : 65536 < i := by omega
    refine wp_seq ?_
    refine wp_region_lit ?_
    refine fr_ch F 1 [(2, .pointer none)] (by kernel_rfl) ?_
    clear F a9
    intro a9 F
    refine wpList_nil ?_
    show Code.wp _ _ _ _ _
    replace F := F.cut [(2, .pointer none), (0, .int .i64 i)] (by kernel_rfl)
    refine wp_seq ?_
    refine wp_seq ?_
    refine wp_region_lit ?_
    refine fr_ch F 1 [(3, .int .i64 i)] (by kernel_rfl) ?_
    clear F a9
    intro a9 F
    refine fr_do F (wanted_free rfl) 4 rfl (by decide) (.bool false) (by intro a' F'; have h3 := F'.at' 3 _ rfl; go_simp) ?_
    clear F a9
    intro a9 F
    refine fr_ch F 2 [(6, .int .i64 i), (5, .bool false)] (by kernel_rfl) ?_
    clear F a9
    intro a9 F
    refine fr_do F (by rw [wanted_at F rfl (t := 5) (b := false) (by kernel_rfl) rfl]; rfl) 7 rfl (by decide) (.bool true) (by intro a' F'; have h6 := F'.at' 6 _ rfl; go_simp) ?_
    clear F a9
    intro a9 F
    refine fr_ch F 1 [(8, .bool true)] (by kernel_rfl) ?_
    clear F a9
    intro a9 F
    refine wpList_nil ?_
    show Code.wp _ _ _ _ _
    refine wp_cond_true (F.ev 8 rfl) ?_
    refine wp_seq ?_
    refine wp_region_lit ?_
    refine fr_ch F 1 [(2, .pointer none)] (by kernel_rfl) ?_
    clear F a9
    intro a9 F
    refine wpList_nil ?_
    show Code.wp _ _ _ _ _
    refine wp_ret ?_
    exact fr_ret1 F rfl _ rfl (FIN.out)
set_option maxRecDepth 100000 in
set_option maxHeartbeats 4000000 in
theorem frame_New2 (m : Nat) (h1 : 16 ≤ m) (h2 : m ≤ 65536) {w0 w : World} {B : List Box} (HK : Keep w0 B [] w) : Calls Tryd.prog 18 #[.int .i64 (m : Int)] w fun e w' => ∃ X, e = .returned (.pointer (some ⟨X, 0, none⟩)) ∧ Keep w0 ((X, frV m none 0 0 0, 54) :: B) [] w' ∧ Below w.heap.size w w' := by
  obtain ⟨RR, hRR⟩ : ∃ RR : Ending → World → Prop, RR = fun e w' => ∃ X, e = .returned (.pointer (some ⟨X, 0, none⟩)) ∧ Keep w0 ((X, frV m none 0 0 0, 54) :: B) [] w' ∧ Below w.heap.size w w' := ⟨_, rfl⟩
  have FIN := Lib.hid (show ∀ X w', Keep w0 ((X, frV m none 0 0 0, 54) :: B) [] w' → Below w.heap.size w w' → RR (.returned (.pointer (some ⟨X, 0, none⟩))) w' from fun X w' h1 h2 => by rw [hRR]; exact ⟨X, rfl, h1, h2⟩)
  rw [← hRR]
  clear hRR
  obtain ⟨w9, hw9⟩ : ∃ w9, w9 = w := ⟨_, rfl⟩
  rw [← hw9] at HK
  suffices hgo : Calls Tryd.prog 18 #[.int .i64 (m : Int)] w9 RR by rw [hw9] at hgo; exact hgo
  have HW9 := Lib.hid hw9
  clear hw9
  go_enter Tryd.func18, Tryd.ntmps18
  refine wp_forget (n := 12) (L := [(0, .int .i64 (m : Int))]) (FrL.add (FrL.nil ?_ ?_) _ _ ?_) ?_
  iterate 3 rfl
  intro a9 F
  refine wp_seq ?_
  refine wp_region_lit ?_
  refine fr_ch F 1 [(2, .pointer none)] (by kernel_rfl) ?_
  clear F a9
  intro a9 F
  refine wpList_nil ?_
  show Code.wp _ _ _ _ _
  replace F := F.cut [(2, .pointer none), (0, .int .i64 (m : Int))] (by kernel_rfl)
  refine wp_seq ?_
  refine wp_seq ?_
  refine wp_region_lit ?_
  refine fr_ch F 1 [(3, .int .i64 (m : Int))] (by kernel_rfl) ?_
  clear F a9
  intro a9 F
  refine fr_do F (wanted_free rfl) 4 rfl (by decide) (.bool false) (by intro a' F'; have h3 := F'.at' 3 _ rfl; go_simp <;> omega) ?_
  clear F a9
  intro a9 F
  refine fr_ch F 2 [(6, .int .i64 (m : Int)), (5, .bool false)] (by kernel_rfl) ?_
  clear F a9
  intro a9 F
  refine fr_do F (by rw [wanted_at F rfl (t := 5) (b := false) (by kernel_rfl) rfl]; rfl) 7 rfl (by decide) (.bool false) (by intro a' F'; have h6 := F'.at' 6 _ rfl; go_simp <;> omega) ?_
  clear F a9
  intro a9 F
  refine fr_ch F 1 [(8, .bool false)] (by kernel_rfl) ?_
  clear F a9
  intro a9 F
  refine wpList_nil ?_
  show Code.wp _ _ _ _ _
  refine wp_cond_false (F.ev 8 rfl) ?_
  refine wp_skip ?_
  show Code.wp _ _ _ _ _
  replace F := F.cut [(0, .int .i64 (m : Int))] (by kernel_rfl)
  refine wp_seq ?_
  refine wp_region_lit ?_
  refine fr_ch F 2 [(10, .agg (frV m none 0 0 0))] (by kernel_rfl) ?_
  clear F a9
  intro a9 F
  refine fr_box F HK 11 (by decide) rfl 54 _ rfl rfl (frV m none 0 0 0) (fun a' F' => F'.ev 10 rfl) ?_
  rintro X a10 w10 hX F' HK' hb
  rw [HW9.out] at hb
  clear HK F hX HW9
  clear a9 w9
  rename World => w9
  rename Act => a9
  have F := F'
  clear F'
  refine fr_ch F 1 [(2, .pointer (some ⟨X, 0, none⟩))] (by kernel_rfl) ?_
  clear F a9
  intro a9 F
  refine wpList_nil ?_
  show Code.wp _ _ _ _ _
  refine wp_ret ?_
  exact fr_ret1 F rfl _ rfl (FIN.out _ _ HK' hb)
theorem frame_New (m : Nat) (h1 : 16 ≤ m) (h2 : m ≤ 65536) {w0 w : World} {B : List Box} (HK : Keep w0 B [] w) : Calls Tryd.prog 18 #[.int .i64 (m : Int)] w fun e w' => ∃ X, e = .returned (.pointer (some ⟨X, 0, none⟩)) ∧ FrC w0 B X m [] 0 w' ∧ Below w.heap.size w w' := by
  refine Calls.mono (frame_New2 m h1 h2 HK) ?_
  rintro e w' ⟨X, rfl, h, hb⟩
  exact ⟨X, rfl, ⟨none, 0, h, out_nil _ _⟩, hb⟩
set_option maxRecDepth 100000 in
set_option maxHeartbeats 4000000 in
theorem frame_Left2 {w0 w : World} {B : List Box} {X m e n c : Nat} {a : Option Addr} (HK : Keep w0 ((X, frV m a n c e, 54) :: B) [] w) : Calls Tryd.prog 21 #[.pointer (some ⟨X, 0, none⟩)] w fun r w' => r = .returned (.int .i64 (n : Int)) ∧ w = w' := by
  obtain ⟨RR, hRR⟩ : ∃ RR : Ending → World → Prop, RR = fun r w' => r = .returned (.int .i64 (n : Int)) ∧ w = w' := ⟨_, rfl⟩
  have FIN := Lib.hid (show RR (.returned (.int .i64 (n : Int))) w from by rw [hRR]; exact ⟨rfl, rfl⟩)
  rw [← hRR]
  clear hRR
  rename World => w9
  go_enter Tryd.func21, Tryd.ntmps21
  refine wp_forget (n := 10) (L := [(0, .pointer (some ⟨X, 0, none⟩))]) (FrL.add (FrL.nil ?_ ?_) _ _ ?_) ?_
  iterate 3 rfl
  intro a9 F
  refine wp_seq ?_
  refine wp_region_lit ?_
  refine fr_ch F 1 [(2, .int .i64 0)] (by kernel_rfl) ?_
  clear F a9
  intro a9 F
  refine wpList_nil ?_
  show Code.wp _ _ _ _ _
  replace F := F.cut [(2, .int .i64 0), (0, .pointer (some ⟨X, 0, none⟩))] (by kernel_rfl)
  refine wp_seq ?_
  refine wp_seq ?_
  refine wp_region_lit ?_
  refine fr_ch F 2 [(4, .bool false)] (by kernel_rfl) ?_
  clear F a9
  intro a9 F
  refine wpList_nil ?_
  show Code.wp _ _ _ _ _
  refine wp_cond_false (F.ev 4 rfl) ?_
  refine wp_skip ?_
  show Code.wp _ _ _ _ _
  refine wp_seq ?_
  refine wp_region_lit ?_
  refine fr_ch F 3 [(7, .pointer (some ⟨X, 1, none⟩))] (by kernel_rfl) ?_
  clear F a9
  intro a9 F
  refine fr_do F (wanted_free rfl) 8 rfl (by decide) (.slice a n c) (by intro a' F'; have hc : w9.cell? ⟨X, 1, none⟩ = some (.slice a n c) := (HK.at 0 rfl).cells 1; have h7 := F'.at' 7 _ rfl; go_simp) ?_
  clear F a9
  intro a9 F
  refine fr_ch F 2 [(2, .int .i64 (n : Int)), (9, .int .i64 (n : Int))] (by kernel_rfl) ?_
  clear F a9
  intro a9 F
  refine wpList_nil ?_
  show Code.wp _ _ _ _ _
  refine wp_ret ?_
  exact fr_ret1 F rfl _ rfl (FIN.out)
theorem frame_Left {w0 w : World} {B : List Box} {X m e : Nat} {L : Bs} (h : FrC w0 B X m L e w) : Calls Tryd.prog 21 #[.pointer (some ⟨X, 0, none⟩)] w fun r w' => r = .returned (.int .i64 (L.length : Int)) ∧ w = w' := by
  obtain ⟨a, c, HK, _⟩ := h
  exact frame_Left2 HK
set_option maxRecDepth 100000 in
set_option maxHeartbeats 4000000 in
theorem frame_Push {w0 w : World} {B : List Box} {X m : Nat} {L : Bs} (h : FrC w0 B X m L 0 w) (hm : 0 < m) (hB : ∀ x ∈ B, x.2.2 ≠ 5) (s : ByteArray) (hs : L.length + s.size ≤ 300000000) : Calls Tryd.prog 19 #[.pointer (some ⟨X, 0, none⟩), .string s] w fun r w' => r = .returned (.tuple #[]) ∧ FrC w0 B X m (L ++ bl s) 0 w' ∧ OnlyT FrE w w' := by
  obtain ⟨a, c, HK, HO⟩ := h
  obtain ⟨RR, hRR⟩ : ∃ RR : Ending → World → Prop, RR = fun r w' => r = .returned (.tuple #[]) ∧ FrC w0 B X m (L ++ bl s) 0 w' ∧ OnlyT FrE w w' := ⟨_, rfl⟩
  have FIN := Lib.hid (show ∀ w', FrC w0 B X m (L ++ bl s) 0 w' → OnlyT FrE w w' → RR (.returned (.tuple #[])) w' from fun w' h1 h2 => by rw [hRR]; exact ⟨rfl, h1, h2⟩)
  rw [← hRR]
  clear hRR
  obtain ⟨w9, hw9⟩ : ∃ w9, w9 = w := ⟨_, rfl⟩
  rw [← hw9] at HK HO
  suffices hgo : Calls Tryd.prog 19 #[.pointer (some ⟨X, 0, none⟩), .string s] w9 RR by rw [hw9] at hgo; exact hgo
  have HW9 := Lib.hid hw9
  clear hw9
  go_enter Tryd.func19, Tryd.ntmps19
  refine wp_forget (n := 29) (L := [(1, .string s), (0, .pointer (some ⟨X, 0, none⟩))]) (FrL.add (FrL.add (FrL.nil ?_ ?_) _ _ ?_) _ _ ?_) ?_
  iterate 4 rfl
  intro a9 F
  refine wp_seq ?_
  refine wp_region_lit ?_
  refine fr_ch F 6 [(9, .pointer (some ⟨X, 0, none⟩)), (6, .bool true)] (by kernel_rfl) ?_
  clear F a9
  intro a9 F
  refine fr_do F (by rw [wanted_at F rfl (t := 6) (b := true) (by kernel_rfl) rfl]; rfl) 10 rfl (by decide) (.int .i64 (m : Int)) (by intro a' F'; have hc : w9.cell? ⟨X, 0, none⟩ = some (.int .i64 (m : Int)) := (HK.at 0 rfl).cells 0; have h9 := F'.at' 9 _ rfl; go_simp) ?_
  clear F a9
  intro a9 F
  refine fr_do F (by rw [wanted_at F rfl (t := 6) (b := true) (by kernel_rfl) rfl]; rfl) 11 rfl (by decide) (.bool true) (by intro a' F'; have h10 := F'.at' 10 _ rfl; go_simp) ?_
  clear F a9
  intro a9 F
  refine fr_ch F 5 [(16, .pointer (some ⟨X, 2, none⟩)), (15, .pointer (some ⟨X, 0, none⟩)), (14, .pointer (some ⟨X, 0, none⟩)), (13, .bool true), (12, .bool true)] (by kernel_rfl) ?_
  clear F a9
  intro a9 F
  refine fr_do F (by rw [wanted_at F rfl (t := 13) (b := true) (by kernel_rfl) rfl]; rfl) 17 rfl (by decide) (.int .i64 ((0 : Nat) : Int)) (by intro a' F'; have hc : w9.cell? ⟨X, 2, none⟩ = some (.int .i64 ((0 : Nat) : Int)) := (HK.at 0 rfl).cells 2; have h16 := F'.at' 16 _ rfl; go_simp) ?_
  clear F a9
  intro a9 F
  refine fr_ch F 2 [(19, .bool true), (18, .bool true)] (by kernel_rfl) ?_
  clear F a9
  intro a9 F
  refine wpList_nil ?_
  show Code.wp _ _ _ _ _
  refine wp_cond_true (F.ev 19 rfl) ?_
  replace F := F.cut [(1, .string s), (0, .pointer (some ⟨X, 0, none⟩))] (by kernel_rfl)
  refine wp_region_lit ?_
  refine fr_ch F 4 [(23, .pointer (some ⟨X, 1, none⟩)), (20, .pointer (some ⟨X, 0, none⟩))] (by kernel_rfl) ?_
  clear F a9
  intro a9 F
  refine fr_do F (wanted_free rfl) 24 rfl (by decide) (.slice a L.length c) (by intro a' F'; have hc : w9.cell? ⟨X, 1, none⟩ = some (.slice a L.length c) := (HK.at 0 rfl).cells 1; have h23 := F'.at' 23 _ rfl; go_simp) ?_
  clear F a9
  intro a9 F
  refine fr_ch F 1 [(25, .string s)] (by kernel_rfl) ?_
  clear F a9
  intro a9 F
  obtain ⟨i0, hi, hz0, hz1, hz2⟩ := info_parts infoU8
  have hss : (bl s).length = s.size := bl_len s
  refine fr_appendS F rfl 26 rfl (by decide) (.tmp 24) (.tmp 25) 52 9 rfl w0.heap.size 5 i0 Tryd.underlying52 Tryd.underlying9 hi hz0 hz1 hz2 (.slice a L.length c) L.length (u8V L) (F.ev 24 rfl) HO s (F.ev 25 rfl) (by unfold maxLen; omega) (by omega) HK.size ?_
  intro v8 w8 hown hgr
  clear hi hz0 hz1 hz2 i0
  have hon1 := OnlyT.grown (E := FrE) HO (Or.inl rfl) hgr
  have HK2 : Keep w0 _ [] w8 := HK.grown hgr (fun g hg => (own_lt HO hg).2) (fun g hg x hx => by
    rcases List.mem_cons.1 hx with rfl | hx
    · exact fun e => BoxAt.ne_own (HK.at 0 rfl) HO (by decide) g hg e
    · exact fun e => BoxAt.ne_own (HK.box x (List.mem_cons_of_mem _ hx)) HO (Ne.symm (hB x hx)) g hg e) (fun r hr => by cases hr)
  obtain ⟨a2, c2, hv8, _, _⟩ := own_form hown
  subst hv8
  rw [HW9.out] at hon1
  clear HK HO hgr HW9 w9
  rename World => w9
  have HK := HK2
  have HO := hown
  clear HK2 hown
  intro a10 F'
  clear F a9
  rename Act => a9
  have F := F'
  clear F'
  refine fr_ch F 2 [(28, .pointer (some ⟨X, 1, none⟩)), (27, .pointer (some ⟨X, 0, none⟩))] (by kernel_rfl) ?_
  clear F a9
  intro a9 F
  refine fr_putO F HK 0 rfl rfl rfl 52 _ _ rfl 1 (.slice a2 (L.length + s.size) c2) (fun a' F' => F'.ev 28 rfl) (fun a' F' => F'.ev 26 rfl) z_bytes (Nat.le_of_ble_eq_true (by kernel_rfl)) (by kernel_rfl) ?_
  intro a10 w10 F' HK' HO2
  have hon2 := hon1.trans (OnlyT.set (E := FrE) HO2 (HK.at 0 rfl) (Or.inr rfl))
  have HO3 := own_only HO HO2 (fun g hg => BoxAt.ne_own (HK.at 0 rfl) HO (by decide) g hg)
  refine wpList_nil ?_
  have e1 : (L ++ bl s).length = L.length + s.size := by rw [List.length_append, hss]
  refine bodyPost_end (results_void rfl _ _) F'.defers (FIN.out _ ⟨a2, c2, ?_, ?_⟩ hon2)
  · rw [e1]
    exact HK'
  · unfold Out
    rw [e1]
    have e2 : u8V (L ++ bl s) = u8V L ++ Lib.strCells s := List.map_append
    rw [e2]
    exact HO3
set_option maxRecDepth 100000 in
set_option maxHeartbeats 4000000 in
theorem frame_Push_no {w0 w : World} {B : List Box} {X m e : Nat} {L : Bs} (h : FrC w0 B X m L e w) (hm : 0 < m) (s : ByteArray) (_hs : L.length + s.size ≤ 300000000) (he : e ≠ 0) : Calls Tryd.prog 19 #[.pointer (some ⟨X, 0, none⟩), .string s] w fun r w' => r = .returned (.tuple #[]) ∧ FrC w0 B X m (L) e w' ∧ OnlyT FrE w w' := by
  obtain ⟨a, c, HK, HO⟩ := h
  obtain ⟨RR, hRR⟩ : ∃ RR : Ending → World → Prop, RR = fun r w' => r = .returned (.tuple #[]) ∧ FrC w0 B X m (L) e w' ∧ OnlyT FrE w w' := ⟨_, rfl⟩
  have FIN := Lib.hid (show ∀ w', FrC w0 B X m (L) e w' → OnlyT FrE w w' → RR (.returned (.tuple #[])) w' from fun w' h1 h2 => by rw [hRR]; exact ⟨rfl, h1, h2⟩)
  rw [← hRR]
  clear hRR
  obtain ⟨w9, hw9⟩ : ∃ w9, w9 = w := ⟨_, rfl⟩
  rw [← hw9] at HK HO
  suffices hgo : Calls Tryd.prog 19 #[.pointer (some ⟨X, 0, none⟩), .string s] w9 RR by rw [hw9] at hgo; exact hgo
  have HW9 := Lib.hid hw9
  clear hw9
  go_enter Tryd.func19, Tryd.ntmps19
  refine wp_forget (n := 29) (L := [(1, .string s), (0, .pointer (some ⟨X, 0, none⟩))]) (FrL.add (FrL.add (FrL.nil ?_ ?_) _ _ ?_) _ _ ?_) ?_
  iterate 4 rfl
  intro a9 F
  refine wp_seq ?_
  refine wp_region_lit ?_
  refine fr_ch F 6 [(9, .pointer (some ⟨X, 0, none⟩)), (6, .bool true)] (by kernel_rfl) ?_
  clear F a9
  intro a9 F
  refine fr_do F (by rw [wanted_at F rfl (t := 6) (b := true) (by kernel_rfl) rfl]; rfl) 10 rfl (by decide) (.int .i64 (m : Int)) (by intro a' F'; have hc : w9.cell? ⟨X, 0, none⟩ = some (.int .i64 (m : Int)) := (HK.at 0 rfl).cells 0; have h9 := F'.at' 9 _ rfl; go_simp) ?_
  clear F a9
  intro a9 F
  refine fr_do F (by rw [wanted_at F rfl (t := 6) (b := true) (by kernel_rfl) rfl]; rfl) 11 rfl (by decide) (.bool true) (by intro a' F'; have h10 := F'.at' 10 _ rfl; go_simp) ?_
  clear F a9
  intro a9 F
  refine fr_ch F 5 [(16, .pointer (some ⟨X, 2, none⟩)), (15, .pointer (some ⟨X, 0, none⟩)), (14, .pointer (some ⟨X, 0, none⟩)), (13, .bool true), (12, .bool true)] (by kernel_rfl) ?_
  clear F a9
  intro a9 F
  refine fr_do F (by rw [wanted_at F rfl (t := 13) (b := true) (by kernel_rfl) rfl]; rfl) 17 rfl (by decide) (.int .i64 (e : Int)) (by intro a' F'; have hc : w9.cell? ⟨X, 2, none⟩ = some (.int .i64 (e : Int)) := (HK.at 0 rfl).cells 2; have h16 := F'.at' 16 _ rfl; go_simp) ?_
  clear F a9
  intro a9 F
  refine fr_do F (by rw [wanted_at F rfl (t := 13) (b := true) (by kernel_rfl) rfl]; rfl) 18 rfl (by decide) (.bool false) (by intro a' F'; have h17 := F'.at' 17 _ rfl; go_simp) ?_
  clear F a9
  intro a9 F
  refine fr_ch F 1 [(19, .bool false)] (by kernel_rfl) ?_
  clear F a9
  intro a9 F
  refine wpList_nil ?_
  show Code.wp _ _ _ _ _
  refine wp_cond_false (F.ev 19 rfl) ?_
  refine wp_skip ?_
  rw [← HW9.out] at FIN
  exact bodyPost_end (results_void rfl _ _) F.defers (FIN.out _ ⟨a, c, HK, HO⟩ (OnlyT.refl _ _))
end Go.Proofs.YtfljdlaelanliaaDoor
