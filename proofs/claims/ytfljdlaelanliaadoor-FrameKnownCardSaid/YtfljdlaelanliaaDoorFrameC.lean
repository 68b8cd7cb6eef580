/- The walk of a framer's Next. Conditions: the framer's cells lie in a block of the caller's own, its bytes are a row of its own; a machine's bound on their size; the decoder's tables lie as Go lays them. -/
import Derived.Test.YtfljdlaelanliaaDoorFrameB
import Derived.Test.YtfljdlaelanliaaDoorReadDecode
namespace Go.Proofs.YtfljdlaelanliaaDoor
open Go.RowKit
/-- What Next tells: a packet, whether it is one, the error; what is left; the framer's error. -/
def nxR (m : Nat) (L : Bs) (e : Nat) : Pk × Bool × Nat × Bs × Nat :=
  if e ≠ 0 then (Pk.zero, false, e, L, e) else match nextR m L with
    | (some p, t, _) => (p, true, 0, t, 0)
    | (none, t, e2) => (Pk.zero, false, e2, t, e2)
def RetNx (w0 : World) (B : List Box) (X m : Nat) (x : Pk × Bool × Nat × Bs × Nat) (w : World) (r : Ending) (w' : World) : Prop :=
  ∃ (a : Option Addr) (c : Nat), r = .returned (.tuple #[.agg (pkV x.1 a c), .bool x.2.1, .int .i64 (x.2.2.1 : Int)]) ∧ w'.ownsRow w.heap.size 31 2 (.slice a x.1.subs.length c) x.1.subs.length (subCells x.1.subs) ∧ FrC w0 B X m x.2.2.2.1 x.2.2.2.2 w' ∧ OnlyT FrE w w'
set_option maxRecDepth 100000 in
set_option maxHeartbeats 4000000 in
theorem next_stuck {w0 w : World} {B : List Box} {X m : Nat} {L : Bs} (e : Nat) (he : e ≠ 0) (h : FrC w0 B X m L e w) (hm : 0 < m) (_hL : L.length ≤ 90000000) (_hB : ∀ x ∈ B, x.2.2 ≠ 5) : Calls Tryd.prog 20 #[.pointer (some ⟨X, 0, none⟩)] w (RetNx w0 B X m (nxR m L e) w) := by
  obtain ⟨a, c, HK, HO⟩ := h
  obtain ⟨RR, hRR⟩ : ∃ RR : Ending → World → Prop, RR = RetNx w0 B X m (nxR m L e) w := ⟨_, rfl⟩
  have FIN := Lib.hid (show ∀ w' (al : Option Addr) (cap : Nat), w'.ownsRow w.heap.size 31 2 (.slice al (Pk.zero).subs.length cap) (Pk.zero).subs.length (subCells (Pk.zero).subs) → FrC w0 B X m (L) (e) w' → OnlyT FrE w w' → RR (.returned (.tuple #[.agg (pkV (Pk.zero) al cap), .bool false, .int .i64 ((e : Nat) : Int)])) w' from fun w' al cap h1 h2 h3 => by
    have e1 : nxR m L e = (Pk.zero, false, e, L, e) := by
      unfold nxR
      rw [if_pos he]
    rw [hRR, e1]
    exact ⟨al, cap, rfl, h1, h2, h3⟩)
  rw [← hRR]
  obtain ⟨w9, hw9⟩ : ∃ w9, w9 = w := ⟨_, rfl⟩
  rw [← hw9] at HK HO
  suffices hgo : Calls Tryd.prog 20 #[.pointer (some ⟨X, 0, none⟩)] w9 RR by rw [hw9] at hgo; exact hgo
  have HON : OnlyT FrE w w9 := by rw [hw9]; exact OnlyT.refl _ _
  have HWV := Lib.hid (show w.heap.size = w9.heap.size by rw [hw9])
  clear hw9 hRR
  go_enter Tryd.func20, Tryd.ntmps20
  refine wp_forget (n := 75) (L := [(0, .pointer (some ⟨X, 0, none⟩))]) (FrL.add (FrL.nil ?_ ?_) _ _ ?_) ?_
  iterate 3 rfl
  intro a9 F
  refine wp_seq ?_
  refine wp_region_lit ?_
  obtain ⟨i0, hi, hz0, hz1, hz2⟩ := info_parts infoPkR
  refine fr_alloc F HK 2 (by decide) rfl 27 rfl rfl i0 _ hi hz0 ?_
  rintro V a10 w10 hX F' HK' hb
  have hVw : w.heap.size ≤ V := by rw [HWV.out]; omega
  replace HO := own_only HO (Only.of_below hb (fun _ => False)) (fun _ _ h => h)
  replace HON := HON.then hb
  clear HK F hb hX hi hz0 hz1 hz2 i0 HWV
  clear a9 w9
  rename World => w9
  rename Act => a9
  have HK := HK'
  have F := F'
  clear HK' F'
  replace HK : Keep w0 ((V, (pkV Pk.zero none 0), 27) :: (X, (frV m a L.length c e), 54) :: B) [] w9 := HK
  refine fr_ch F 2 [(4, .int .i64 0), (3, .bool false)] (by kernel_rfl) ?_
  clear F a9
  intro a9 F
  refine wpList_nil ?_
  show Code.wp _ _ _ _ _
  replace F := F.cut [(4, .int .i64 0), (3, .bool false), (2, .pointer (some ⟨V, 0, none⟩)), (0, .pointer (some ⟨X, 0, none⟩))] (by kernel_rfl)
  refine wp_seq ?_
  refine wp_block ?_
  refine wp_seq ?_
  refine wp_region_lit ?_
  refine fr_ch F 6 [(12, .pointer (some ⟨X, 0, none⟩)), (9, .bool false), (7, .pointer (some ⟨X, 0, none⟩))] (by kernel_rfl) ?_
  clear F a9
  intro a9 F
  refine fr_do F (by rw [wanted_at F rfl (t := 9) (b := false) (by kernel_rfl) rfl]; rfl) 13 rfl (by decide) (.int .i64 (m : Int)) (by intro a' F'; have hc : w9.cell? ⟨X, 0, none⟩ = some (.int .i64 (m : Int)) := (HK.at 1 rfl).cells 0; have h12 := F'.at' 12 _ rfl; go_simp) ?_
  clear F a9
  intro a9 F
  refine fr_do F (by rw [wanted_at F rfl (t := 9) (b := false) (by kernel_rfl) rfl]; rfl) 14 rfl (by decide) (.bool false) (by intro a' F'; have h13 := F'.at' 13 _ rfl; go_simp <;> omega) ?_
  clear F a9
  intro a9 F
  refine fr_ch F 2 [(6, .bool false), (15, .bool false)] (by kernel_rfl) ?_
  clear F a9
  intro a9 F
  refine wpList_nil ?_
  show Code.wp _ _ _ _ _
  refine wp_cond_false (F.ev 6 rfl) ?_
  replace F := F.cut [(4, .int .i64 0), (3, .bool false), (2, .pointer (some ⟨V, 0, none⟩)), (0, .pointer (some ⟨X, 0, none⟩))] (by kernel_rfl)
  refine wp_seq ?_
  refine wp_region_lit ?_
  refine fr_ch F 3 [(20, .pointer (some ⟨X, 2, none⟩))] (by kernel_rfl) ?_
  clear F a9
  intro a9 F
  refine fr_do F (wanted_free rfl) 21 rfl (by decide) (.int .i64 (e : Int)) (by intro a' F'; have hc : w9.cell? ⟨X, 2, none⟩ = some (.int .i64 (e : Int)) := (HK.at 1 rfl).cells 2; have h20 := F'.at' 20 _ rfl; go_simp) ?_
  clear F a9
  intro a9 F
  refine fr_do F (wanted_free rfl) 22 rfl (by decide) (.bool true) (by intro a' F'; have h21 := F'.at' 21 _ rfl; go_simp) ?_
  clear F a9
  intro a9 F
  refine fr_ch F 1 [(17, .bool true)] (by kernel_rfl) ?_
  clear F a9
  intro a9 F
  refine wpList_nil ?_
  show Code.wp _ _ _ _ _
  refine wp_cond_true (F.ev 17 rfl) ?_
  replace F := F.cut [(4, .int .i64 0), (3, .bool false), (2, .pointer (some ⟨V, 0, none⟩)), (0, .pointer (some ⟨X, 0, none⟩))] (by kernel_rfl)
  refine wp_seq ?_
  refine wp_region_noPanic ?_
  have hb8 : Below w9.heap.size w9 w9.drew := below_draws (n := 1) rfl
  replace HK := HK.below hb8
  replace HO := own_only HO (Only.of_below hb8 (fun _ => False)) (fun _ _ h => h)
  replace HON := HON.then hb8
  clear hb8
  refine AnyT.begin (S := fun w' => BoxAt w' X (frV m a L.length c e) 54) (z := 1000) (by kernel_rfl) (HK.at 1 rfl) (fun hS0 => ?_)
  clear hS0
  generalize w9.drew = w8 at *
  clear w9
  rename World => w9
  refine fr_takeG (i := 0) (o := ⟨some 23, _, _, _, _, _⟩) F (HK.at 1 rfl) rfl (wanted_free rfl) 23 rfl (by decide) (.agg (pkV Pk.zero none 0)) (fun w9 hS => (by intro a' F'; exact run_build_to rfl (by simp only [List.map_toArray, List.map_nil, Act.eval]; kernel_rfl))) ?_
  clear F a9
  intro a9 F
  refine fr_takeG (i := 1) (o := ⟨some 24, _, _, _, _, _⟩) F (HK.at 1 rfl) rfl (wanted_free rfl) 24 rfl (by decide) (.pointer (some ⟨X, 0, none⟩)) (fun w9 hS => (by intro a' F'; have h0 := F'.at' 0 _ rfl; go_simp)) ?_
  clear F a9
  intro a9 F
  refine fr_takeG (i := 2) (o := ⟨some 25, _, _, _, _, _⟩) F (HK.at 1 rfl) rfl (wanted_free rfl) 25 rfl (by decide) (.pointer (some ⟨X, 0, none⟩)) (fun w9 hS => (by intro a' F'; have h24 := F'.at' 24 _ rfl; go_simp)) ?_
  clear F a9
  intro a9 F
  refine fr_takeG (i := 3) (o := ⟨some 26, _, _, _, _, _⟩) F (HK.at 1 rfl) rfl (wanted_free rfl) 26 rfl (by decide) (.pointer (some ⟨X, 2, none⟩)) (fun w9 hS => (by intro a' F'; have h25 := F'.at' 25 _ rfl; go_simp)) ?_
  clear F a9
  intro a9 F
  refine fr_takeG (i := 4) (o := ⟨some 27, _, _, _, _, _⟩) F (HK.at 1 rfl) rfl (wanted_free rfl) 27 rfl (by decide) (.int .i64 (e : Int)) (fun w9 hS => (by intro a' F'; have hc : w9.cell? ⟨X, 2, none⟩ = some (.int .i64 (e : Int)) := (show BoxAt w9 X (frV m a L.length c e) 54 from hS).cells 2; have h26 := F'.at' 26 _ rfl; go_simp)) ?_
  clear F a9
  intro a9 F
  refine fr_stepSt (i := 5) (o := ⟨none, _, _, _, _, _⟩) F HK 0 rfl rfl rfl rfl 27 (.tmp 2) (.tmp 23) rfl (pkV Pk.zero none 0) (fun a' F' => F'.ev 2 rfl) (fun a' F' => F'.ev 23 rfl) infoPk rfl (pk_one _ _ _) ?_
  intro a10 w10 F' HK' HO2
  refine ⟨HK'.at 1 rfl, ?_⟩
  have HOn := own_only HO HO2 (fun g hg => BoxAt.ne_own (HK.at 0 rfl) HO (by decide) g hg)
  have HONn := HON.above HO2 hVw
  clear HK F HON HO2 HO
  have HO := HOn
  clear HOn
  have HON := HONn
  clear HONn
  clear a9 w9
  rename World => w9
  rename Act => a9
  have HK := HK'
  have F := F'
  clear HK' F'
  replace HK : Keep w0 ((V, (pkV Pk.zero none 0), 27) :: (X, (frV m a L.length c e), 54) :: B) [] w9 := HK
  refine fr_takeG (i := 6) (o := ⟨some 3, _, _, _, _, _⟩) F (HK.at 1 rfl) rfl (wanted_free rfl) 3 rfl (by decide) (.bool false) (fun w9 hS => (by intro a' F'; go_simp)) ?_
  clear F a9
  intro a9 F
  refine fr_takeG (i := 7) (o := ⟨some 4, _, _, _, _, _⟩) F (HK.at 1 rfl) rfl (wanted_free rfl) 4 rfl (by decide) (.int .i64 (e : Int)) (fun w9 hS => (by intro a' F'; have h27 := F'.at' 27 _ rfl; go_simp)) ?_
  clear F a9
  intro a9 F
  refine AnyT.done (by kernel_rfl) ?_ _
  refine NoPanic.normal ?_
  show Code.wp _ _ _ _ _
  refine wp_ret ?_
  exact fr_ret3 F rfl rfl (HK.at 0 rfl) Tryd.underlying27 rfl infoPk _ _ rfl rfl (FIN.out _ none 0 (World.ownsRow_nil _ _ _ _) ⟨a, c, (HK.swap.sub (List.cons_sublist_cons.2 (List.sublist_cons_self _ _)) (fun r hr => hr)), HO⟩ HON)
set_option maxRecDepth 100000 in
set_option maxHeartbeats 4000000 in
theorem next_fail {w0 w : World} {B : List Box} {X m : Nat} {L : Bs} (h : FrC w0 B X m L 0 w) (hm : 0 < m) (hL : L.length ≤ 90000000) (_hB : ∀ x ∈ B, x.2.2 ≠ 5) (e1 : Nat) (he1 : e1 ≠ 0) (hw : wholeR m L = (0, e1)) : Calls Tryd.prog 20 #[.pointer (some ⟨X, 0, none⟩)] w (RetNx w0 B X m (nxR m L 0) w) := by
  have HWH := Lib.hid (show ∀ (V : Nat) w9, FrC w0 ((V, pkV Pk.zero none 0, 27) :: B) X m L 0 w9 → Calls Tryd.prog 42 #[.pointer (some ⟨X, 0, none⟩)] w9 fun r w' => r = .returned (.tuple #[.int .i64 ((0 : Nat) : Int), .int .i64 (e1 : Int)]) ∧ Below w9.heap.size w9 w' from fun V w9 h => by
    have h2 := frame_whole h hL
    rw [hw] at h2
    exact h2)
  
  obtain ⟨a, c, HK, HO⟩ := h
  obtain ⟨RR, hRR⟩ : ∃ RR : Ending → World → Prop, RR = RetNx w0 B X m (nxR m L 0) w := ⟨_, rfl⟩
  have FIN := Lib.hid (show ∀ w' (al : Option Addr) (cap : Nat), w'.ownsRow w.heap.size 31 2 (.slice al (Pk.zero).subs.length cap) (Pk.zero).subs.length (subCells (Pk.zero).subs) → FrC w0 B X m ([]) (e1) w' → OnlyT FrE w w' → RR (.returned (.tuple #[.agg (pkV (Pk.zero) al cap), .bool false, .int .i64 ((e1 : Nat) : Int)])) w' from fun w' al cap h1 h2 h3 => by
    have e1 : nxR m L 0 = (Pk.zero, false, e1, [], e1) := by
      unfold nxR nextR
      rw [if_neg (by simp), hw]
      simp only
      rw [if_pos he1]
    rw [hRR, e1]
    exact ⟨al, cap, rfl, h1, h2, h3⟩)
  rw [← hRR]
  obtain ⟨w9, hw9⟩ : ∃ w9, w9 = w := ⟨_, rfl⟩
  rw [← hw9] at HK HO
  suffices hgo : Calls Tryd.prog 20 #[.pointer (some ⟨X, 0, none⟩)] w9 RR by rw [hw9] at hgo; exact hgo
  have HON : OnlyT FrE w w9 := by rw [hw9]; exact OnlyT.refl _ _
  have HWV := Lib.hid (show w.heap.size = w9.heap.size by rw [hw9])
  clear hw9 hRR
  have hee : ((e1 : Int) == 0) = false := by rw [beq_eq_false_iff_ne]; omega
  have hen : ((e1 : Int) != 0) = true := by rw [bne_iff_ne]; omega
  go_enter Tryd.func20, Tryd.ntmps20
  refine wp_forget (n := 75) (L := [(0, .pointer (some ⟨X, 0, none⟩))]) (FrL.add (FrL.nil ?_ ?_) _ _ ?_) ?_
  iterate 3 rfl
  intro a9 F
  refine wp_seq ?_
  refine wp_region_lit ?_
  obtain ⟨i0, hi, hz0, hz1, hz2⟩ := info_parts infoPkR
  refine fr_alloc F HK 2 (by decide) rfl 27 rfl rfl i0 _ hi hz0 ?_
  rintro V a10 w10 hX F' HK' hb
  have hVw : w.heap.size ≤ V := by rw [HWV.out]; omega
  replace HO := own_only HO (Only.of_below hb (fun _ => False)) (fun _ _ h => h)
  replace HON := HON.then hb
  clear HK F hb hX hi hz0 hz1 hz2 i0 HWV
  clear a9 w9
  rename World => w9
  rename Act => a9
  have HK := HK'
  have F := F'
  clear HK' F'
  replace HK : Keep w0 ((V, (pkV Pk.zero none 0), 27) :: (X, (frV m a L.length c 0), 54) :: B) [] w9 := HK
  refine fr_ch F 2 [(4, .int .i64 0), (3, .bool false)] (by kernel_rfl) ?_
  clear F a9
  intro a9 F
  refine wpList_nil ?_
  show Code.wp _ _ _ _ _
  replace F := F.cut [(4, .int .i64 0), (3, .bool false), (2, .pointer (some ⟨V, 0, none⟩)), (0, .pointer (some ⟨X, 0, none⟩))] (by kernel_rfl)
  refine wp_seq ?_
  refine wp_block ?_
  refine wp_seq ?_
  refine wp_region_lit ?_
  refine fr_ch F 6 [(12, .pointer (some ⟨X, 0, none⟩)), (9, .bool false)] (by kernel_rfl) ?_
  clear F a9
  intro a9 F
  refine fr_do F (by rw [wanted_at F rfl (t := 9) (b := false) (by kernel_rfl) rfl]; rfl) 13 rfl (by decide) (.int .i64 (m : Int)) (by intro a' F'; have hc : w9.cell? ⟨X, 0, none⟩ = some (.int .i64 (m : Int)) := (HK.at 1 rfl).cells 0; have h12 := F'.at' 12 _ rfl; go_simp) ?_
  clear F a9
  intro a9 F
  refine fr_do F (by rw [wanted_at F rfl (t := 9) (b := false) (by kernel_rfl) rfl]; rfl) 14 rfl (by decide) (.bool false) (by intro a' F'; have h13 := F'.at' 13 _ rfl; go_simp <;> omega) ?_
  clear F a9
  intro a9 F
  refine fr_ch F 2 [(6, .bool false), (15, .bool false)] (by kernel_rfl) ?_
  clear F a9
  intro a9 F
  refine wpList_nil ?_
  show Code.wp _ _ _ _ _
  refine wp_cond_false (F.ev 6 rfl) ?_
  replace F := F.cut [(4, .int .i64 0), (3, .bool false), (2, .pointer (some ⟨V, 0, none⟩)), (0, .pointer (some ⟨X, 0, none⟩))] (by kernel_rfl)
  refine wp_seq ?_
  refine wp_region_lit ?_
  refine fr_ch F 3 [(20, .pointer (some ⟨X, 2, none⟩))] (by kernel_rfl) ?_
  clear F a9
  intro a9 F
  refine fr_do F (wanted_free rfl) 21 rfl (by decide) (.int .i64 (0 : Nat)) (by intro a' F'; have hc : w9.cell? ⟨X, 2, none⟩ = some (.int .i64 (0 : Nat)) := (HK.at 1 rfl).cells 2; have h20 := F'.at' 20 _ rfl; go_simp) ?_
  clear F a9
  intro a9 F
  refine fr_ch F 2 [(17, .bool false), (22, .bool false)] (by kernel_rfl) ?_
  clear F a9
  intro a9 F
  refine wpList_nil ?_
  show Code.wp _ _ _ _ _
  refine wp_cond_false (F.ev 17 rfl) ?_
  refine wp_skip ?_
  show Code.wp _ _ _ _ _
  replace F := F.cut [(4, .int .i64 0), (3, .bool false), (2, .pointer (some ⟨V, 0, none⟩)), (0, .pointer (some ⟨X, 0, none⟩))] (by kernel_rfl)
  refine wp_seq ?_
  refine wp_region_lit ?_
  refine fr_ch F 1 [(29, .pointer (some ⟨X, 0, none⟩))] (by kernel_rfl) ?_
  clear F a9
  intro a9 F
  refine fr_call F (wanted_free rfl) 30 rfl (by decide) 42 #[.pointer (some ⟨X, 0, none⟩)] (by intro a' F'; have h29 := F'.at' 29 _ rfl; go_simp) (HWH.out _ _ ⟨_, _, HK.swap, HO⟩) ?_
  rintro e9 w8 ⟨rfl, hb8⟩
  replace HON := HON.then hb8
  replace HK := HK.below hb8
  replace HO := own_only HO (Only.of_below hb8 (fun _ => False)) (fun _ _ h => h)
  clear hb8
  clear w9
  rename World => w9
  refine ⟨_, rfl, ?_⟩
  clear F a9
  intro a9 F
  refine fr_mv F (wanted_free rfl) 28 rfl (by decide) 30 rfl rfl ?_
  clear F a9
  intro a9 F
  refine fr_ch F 4 [(4, .int .i64 (e1 : Int)), (5, .int .i64 ((0 : Nat) : Int)), (32, .int .i64 (e1 : Int)), (31, .int .i64 ((0 : Nat) : Int))] (by kernel_rfl) ?_
  clear F a9
  intro a9 F
  refine wpList_nil ?_
  show Code.wp _ _ _ _ _
  replace F := F.cut [(5, .int .i64 ((0 : Nat) : Int)), (4, .int .i64 (e1 : Int)), (3, .bool false), (2, .pointer (some ⟨V, 0, none⟩)), (0, .pointer (some ⟨X, 0, none⟩))] (by kernel_rfl)
  refine wp_seq ?_
  refine wp_seq ?_
  refine wp_region_lit ?_
  refine fr_ch F 1 [(33, .int .i64 (e1 : Int))] (by kernel_rfl) ?_
  clear F a9
  intro a9 F
  refine fr_do F (wanted_free rfl) 34 rfl (by decide) (.bool false) (by intro a' F'; have h33 := F'.at' 33 _ rfl; go_simp) ?_
  clear F a9
  intro a9 F
  refine fr_ch F 4 [(38, .bool false), (37, undef), (36, undef), (35, .bool false)] (by kernel_rfl) ?_
  clear F a9
  intro a9 F
  refine wpList_nil ?_
  show Code.wp _ _ _ _ _
  refine wp_cond_false (F.ev 38 rfl) ?_
  refine wp_skip ?_
  show Code.wp _ _ _ _ _
  replace F := F.cut [(5, .int .i64 ((0 : Nat) : Int)), (4, .int .i64 (e1 : Int)), (3, .bool false), (2, .pointer (some ⟨V, 0, none⟩)), (0, .pointer (some ⟨X, 0, none⟩))] (by kernel_rfl)
  refine wp_seq ?_
  refine wp_seq ?_
  refine wp_region_lit ?_
  refine fr_ch F 1 [(51, .int .i64 (e1 : Int))] (by kernel_rfl) ?_
  clear F a9
  intro a9 F
  refine fr_do F (wanted_free rfl) 52 rfl (by decide) (.bool true) (by intro a' F'; have h51 := F'.at' 51 _ rfl; go_simp) ?_
  clear F a9
  intro a9 F
  refine wpList_nil ?_
  show Code.wp _ _ _ _ _
  refine wp_cond_true (F.ev 52 rfl) ?_
  replace F := F.cut [(5, .int .i64 ((0 : Nat) : Int)), (4, .int .i64 (e1 : Int)), (3, .bool false), (2, .pointer (some ⟨V, 0, none⟩)), (0, .pointer (some ⟨X, 0, none⟩))] (by kernel_rfl)
  refine wp_seq ?_
  refine wp_region_lit ?_
  refine fr_ch F 4 [(56, .pointer (some ⟨X, 2, none⟩)), (54, .int .i64 (e1 : Int))] (by kernel_rfl) ?_
  clear F a9
  intro a9 F
  refine fr_putO F HK 1 rfl rfl rfl 36 _ _ rfl 2 (.int .i64 (e1 : Int)) (fun a' F' => F'.ev 56 rfl) (fun a' F' => F'.ev 54 rfl) z_err (Nat.le_of_ble_eq_true (by kernel_rfl)) (by kernel_rfl) ?_
  intro a10 w10 F' HK' HO2
  have HOn := own_only HO HO2 (fun g hg => BoxAt.ne_own (HK.at 1 rfl) HO (by decide) g hg)
  have HONn := HON.trans (OnlyT.set (E := FrE) HO2 (HK.at 1 rfl) (Or.inr rfl))
  clear HK F HON HO2 HO
  have HO := HOn
  clear HOn
  have HON := HONn
  clear HONn
  clear a9 w9
  rename World => w9
  rename Act => a9
  have HK := HK'
  have F := F'
  clear HK' F'
  replace HK : Keep w0 ((V, (pkV Pk.zero none 0), 27) :: (X, (frV m a L.length c e1), 54) :: B) [] w9 := HK
  refine wpList_nil ?_
  show Code.wp _ _ _ _ _
  replace F := F.cut [(5, .int .i64 ((0 : Nat) : Int)), (4, .int .i64 (e1 : Int)), (3, .bool false), (2, .pointer (some ⟨V, 0, none⟩)), (0, .pointer (some ⟨X, 0, none⟩))] (by kernel_rfl)
  refine wp_seq ?_
  refine wp_region_lit ?_
  refine fr_ch F 3 [(59, .pointer (some ⟨X, 1, none⟩))] (by kernel_rfl) ?_
  clear F a9
  intro a9 F
  refine fr_putO F HK 1 rfl rfl rfl 52 _ _ rfl 1 (.slice none 0 0) (fun a' F' => F'.ev 59 rfl) (fun a' F' => rfl) z_bytes (Nat.le_of_ble_eq_true (by kernel_rfl)) (by kernel_rfl) ?_
  intro a10 w10 F' HK' HO2
  have HOn := own_only HO HO2 (fun g hg => BoxAt.ne_own (HK.at 1 rfl) HO (by decide) g hg)
  have HONn := HON.trans (OnlyT.set (E := FrE) HO2 (HK.at 1 rfl) (Or.inr rfl))
  clear HK F HON HO2 HO
  have HO := HOn
  clear HOn
  have HON := HONn
  clear HONn
  clear a9 w9
  rename World => w9
  rename Act => a9
  have HK := HK'
  have F := F'
  clear HK' F'
  replace HK : Keep w0 ((V, (pkV Pk.zero none 0), 27) :: (X, (frV m none 0 0 e1), 54) :: B) [] w9 := HK
  refine wpList_nil ?_
  show Code.wp _ _ _ _ _
  replace F := F.cut [(5, .int .i64 ((0 : Nat) : Int)), (4, .int .i64 (e1 : Int)), (3, .bool false), (2, .pointer (some ⟨V, 0, none⟩)), (0, .pointer (some ⟨X, 0, none⟩))] (by kernel_rfl)
  refine wp_seq ?_
  refine wp_region_lit ?_
  refine fr_ch F 2 [(61, .int .i64 (e1 : Int)), (60, .agg (pkV Pk.zero none 0))] (by kernel_rfl) ?_
  clear F a9
  intro a9 F
  refine fr_storeO F HK 0 rfl rfl rfl 27 (.tmp 2) (.tmp 60) rfl (pkV Pk.zero none 0) (fun a' F' => F'.ev 2 rfl) (fun a' F' => F'.ev 60 rfl) infoPk rfl (pk_one _ _ _) ?_
  intro a10 w10 F' HK' HO2
  have HOn := own_only HO HO2 (fun g hg => BoxAt.ne_own (HK.at 0 rfl) HO (by decide) g hg)
  have HONn := HON.above HO2 hVw
  clear HK F HON HO2 HO
  have HO := HOn
  clear HOn
  have HON := HONn
  clear HONn
  clear a9 w9
  rename World => w9
  rename Act => a9
  have HK := HK'
  have F := F'
  clear HK' F'
  replace HK : Keep w0 ((V, (pkV Pk.zero none 0), 27) :: (X, (frV m none 0 0 e1), 54) :: B) [] w9 := HK
  refine fr_ch F 1 [(3, .bool false)] (by kernel_rfl) ?_
  clear F a9
  intro a9 F
  refine fr_as F (wanted_free rfl) 4 rfl (by decide) 61 rfl rfl ?_
  clear F a9
  intro a9 F
  refine wpList_nil ?_
  show Code.wp _ _ _ _ _
  refine wp_ret ?_
  exact fr_ret3 F rfl rfl (HK.at 0 rfl) Tryd.underlying27 rfl infoPk _ _ rfl rfl (FIN.out _ none 0 (World.ownsRow_nil _ _ _ _) ⟨none, 0, (HK.swap.sub (List.cons_sublist_cons.2 (List.sublist_cons_self _ _)) (fun r hr => hr)), out_nil _ _⟩ HON)
set_option maxRecDepth 100000 in
set_option maxHeartbeats 4000000 in
theorem next_wait {w0 w : World} {B : List Box} {X m : Nat} {L : Bs} (h : FrC w0 B X m L 0 w) (hm : 0 < m) (hL : L.length ≤ 90000000) (_hB : ∀ x ∈ B, x.2.2 ≠ 5) (hw : wholeR m L = (0, 0)) : Calls Tryd.prog 20 #[.pointer (some ⟨X, 0, none⟩)] w (RetNx w0 B X m (nxR m L 0) w) := by
  have HWH := Lib.hid (show ∀ (V : Nat) w9, FrC w0 ((V, pkV Pk.zero none 0, 27) :: B) X m L 0 w9 → Calls Tryd.prog 42 #[.pointer (some ⟨X, 0, none⟩)] w9 fun r w' => r = .returned (.tuple #[.int .i64 ((0 : Nat) : Int), .int .i64 ((0 : Nat) : Int)]) ∧ Below w9.heap.size w9 w' from fun V w9 h => by
    have h2 := frame_whole h hL
    rw [hw] at h2
    exact h2)
  
  obtain ⟨a, c, HK, HO⟩ := h
  obtain ⟨RR, hRR⟩ : ∃ RR : Ending → World → Prop, RR = RetNx w0 B X m (nxR m L 0) w := ⟨_, rfl⟩
  have FIN := Lib.hid (show ∀ w' (al : Option Addr) (cap : Nat), w'.ownsRow w.heap.size 31 2 (.slice al (Pk.zero).subs.length cap) (Pk.zero).subs.length (subCells (Pk.zero).subs) → FrC w0 B X m (L) (0) w' → OnlyT FrE w w' → RR (.returned (.tuple #[.agg (pkV (Pk.zero) al cap), .bool false, .int .i64 ((0 : Nat) : Int)])) w' from fun w' al cap h1 h2 h3 => by
    have e1 : nxR m L 0 = (Pk.zero, false, 0, L, 0) := by
      unfold nxR nextR
      rw [if_neg (by simp), hw]
      simp
    rw [hRR, e1]
    exact ⟨al, cap, rfl, h1, h2, h3⟩)
  rw [← hRR]
  obtain ⟨w9, hw9⟩ : ∃ w9, w9 = w := ⟨_, rfl⟩
  rw [← hw9] at HK HO
  suffices hgo : Calls Tryd.prog 20 #[.pointer (some ⟨X, 0, none⟩)] w9 RR by rw [hw9] at hgo; exact hgo
  have HON : OnlyT FrE w w9 := by rw [hw9]; exact OnlyT.refl _ _
  have HWV := Lib.hid (show w.heap.size = w9.heap.size by rw [hw9])
  clear hw9 hRR
  rcases out_form HO with ⟨e1, e2, e3, e4⟩ | ⟨gg, e1, e2⟩
  · subst e1 e3 e4
    go_enter Tryd.func20, Tryd.ntmps20
    refine wp_forget (n := 75) (L := [(0, .pointer (some ⟨X, 0, none⟩))]) (FrL.add (FrL.nil ?_ ?_) _ _ ?_) ?_
    iterate 3 rfl
    intro a9 F
    refine wp_seq ?_
    refine wp_region_lit ?_
    obtain ⟨i0, hi, hz0, hz1, hz2⟩ := info_parts infoPkR
    refine fr_alloc F HK 2 (by decide) rfl 27 rfl rfl i0 _ hi hz0 ?_
    rintro V a10 w10 hX F' HK' hb
    have hVw : w.heap.size ≤ V := by rw [HWV.out]; omega
    replace HO := own_only HO (Only.of_below hb (fun _ => False)) (fun _ _ h => h)
    replace HON := HON.then hb
    clear HK F hb hX hi hz0 hz1 hz2 i0 HWV
    clear a9 w9
    rename World => w9
    rename Act => a9
    have HK := HK'
    have F := F'
    clear HK' F'
    replace HK : Keep w0 ((V, (pkV Pk.zero none 0), 27) :: (X, (frV m none ([] : Bs).length 0 0), 54) :: B) [] w9 := HK
    refine fr_ch F 2 [(4, .int .i64 0), (3, .bool false)] (by kernel_rfl) ?_
    clear F a9
    intro a9 F
    refine wpList_nil ?_
    show Code.wp _ _ _ _ _
    replace F := F.cut [(4, .int .i64 0), (3, .bool false), (2, .pointer (some ⟨V, 0, none⟩)), (0, .pointer (some ⟨X, 0, none⟩))] (by kernel_rfl)
    refine wp_seq ?_
    refine wp_block ?_
    refine wp_seq ?_
    refine wp_region_lit ?_
    refine fr_ch F 6 [(12, .pointer (some ⟨X, 0, none⟩)), (11, .pointer (some ⟨X, 0, none⟩)), (10, .pointer (some ⟨X, 0, none⟩)), (9, .bool false), (8, .bool false), (7, .pointer (some ⟨X, 0, none⟩))] (by kernel_rfl) ?_
    clear F a9
    intro a9 F
    refine fr_do F (by rw [wanted_at F rfl (t := 9) (b := false) (by kernel_rfl) rfl]; rfl) 13 rfl (by decide) (.int .i64 (m : Int)) (by intro a' F'; have hc : w9.cell? ⟨X, 0, none⟩ = some (.int .i64 (m : Int)) := (HK.at 1 rfl).cells 0; have h12 := F'.at' 12 _ rfl; go_simp) ?_
    clear F a9
    intro a9 F
    refine fr_do F (by rw [wanted_at F rfl (t := 9) (b := false) (by kernel_rfl) rfl]; rfl) 14 rfl (by decide) (.bool false) (by intro a' F'; have h13 := F'.at' 13 _ rfl; go_simp <;> omega) ?_
    clear F a9
    intro a9 F
    refine fr_ch F 2 [(6, .bool false), (15, .bool false)] (by kernel_rfl) ?_
    clear F a9
    intro a9 F
    refine wpList_nil ?_
    show Code.wp _ _ _ _ _
    refine wp_cond_false (F.ev 6 rfl) ?_
    replace F := F.cut [(4, .int .i64 0), (3, .bool false), (2, .pointer (some ⟨V, 0, none⟩)), (0, .pointer (some ⟨X, 0, none⟩))] (by kernel_rfl)
    refine wp_seq ?_
    refine wp_region_lit ?_
    refine fr_ch F 3 [(20, .pointer (some ⟨X, 2, none⟩)), (19, .pointer (some ⟨X, 0, none⟩)), (18, .pointer (some ⟨X, 0, none⟩))] (by kernel_rfl) ?_
    clear F a9
    intro a9 F
    refine fr_do F (wanted_free rfl) 21 rfl (by decide) (.int .i64 (0 : Nat)) (by intro a' F'; have hc : w9.cell? ⟨X, 2, none⟩ = some (.int .i64 (0 : Nat)) := (HK.at 1 rfl).cells 2; have h20 := F'.at' 20 _ rfl; go_simp) ?_
    clear F a9
    intro a9 F
    refine fr_ch F 2 [(17, .bool false), (22, .bool false)] (by kernel_rfl) ?_
    clear F a9
    intro a9 F
    refine wpList_nil ?_
    show Code.wp _ _ _ _ _
    refine wp_cond_false (F.ev 17 rfl) ?_
    refine wp_skip ?_
    show Code.wp _ _ _ _ _
    replace F := F.cut [(4, .int .i64 0), (3, .bool false), (2, .pointer (some ⟨V, 0, none⟩)), (0, .pointer (some ⟨X, 0, none⟩))] (by kernel_rfl)
    refine wp_seq ?_
    refine wp_region_lit ?_
    refine fr_ch F 1 [(29, .pointer (some ⟨X, 0, none⟩))] (by kernel_rfl) ?_
    clear F a9
    intro a9 F
    refine fr_call F (wanted_free rfl) 30 rfl (by decide) 42 #[.pointer (some ⟨X, 0, none⟩)] (by intro a' F'; have h29 := F'.at' 29 _ rfl; go_simp) (HWH.out _ _ ⟨_, _, HK.swap, HO⟩) ?_
    rintro e9 w8 ⟨rfl, hb8⟩
    replace HON := HON.then hb8
    replace HK := HK.below hb8
    replace HO := own_only HO (Only.of_below hb8 (fun _ => False)) (fun _ _ h => h)
    clear hb8
    clear w9
    rename World => w9
    refine ⟨_, rfl, ?_⟩
    clear F a9
    intro a9 F
    refine fr_mv F (wanted_free rfl) 28 rfl (by decide) 30 rfl rfl ?_
    clear F a9
    intro a9 F
    refine fr_ch F 4 [(4, .int .i64 ((0 : Nat) : Int)), (5, .int .i64 ((0 : Nat) : Int)), (32, .int .i64 ((0 : Nat) : Int)), (31, .int .i64 ((0 : Nat) : Int))] (by kernel_rfl) ?_
    clear F a9
    intro a9 F
    refine wpList_nil ?_
    show Code.wp _ _ _ _ _
    replace F := F.cut [(5, .int .i64 ((0 : Nat) : Int)), (4, .int .i64 ((0 : Nat) : Int)), (3, .bool false), (2, .pointer (some ⟨V, 0, none⟩)), (0, .pointer (some ⟨X, 0, none⟩))] (by kernel_rfl)
    have hrl : ([] : Bs).length = 0 := rfl
    refine wp_seq ?_
    refine wp_seq ?_
    refine wp_region_lit ?_
    refine fr_ch F 6 [(38, .bool false), (37, .bool false), (36, .int .i64 ((0 : Nat) : Int)), (35, .bool true), (34, .bool true), (33, .int .i64 ((0 : Nat) : Int))] (by kernel_rfl) ?_
    clear F a9
    intro a9 F
    refine wpList_nil ?_
    show Code.wp _ _ _ _ _
    refine wp_cond_false (F.ev 38 rfl) ?_
    refine wp_skip ?_
    show Code.wp _ _ _ _ _
    replace F := F.cut [(5, .int .i64 ((0 : Nat) : Int)), (4, .int .i64 ((0 : Nat) : Int)), (3, .bool false), (2, .pointer (some ⟨V, 0, none⟩)), (0, .pointer (some ⟨X, 0, none⟩))] (by kernel_rfl)
    refine wp_seq ?_
    refine wp_seq ?_
    refine wp_region_lit ?_
    refine fr_ch F 2 [(52, .bool false), (51, .int .i64 ((0 : Nat) : Int))] (by kernel_rfl) ?_
    clear F a9
    intro a9 F
    refine wpList_nil ?_
    show Code.wp _ _ _ _ _
    refine wp_cond_false (F.ev 52 rfl) ?_
    refine wp_skip ?_
    show Code.wp _ _ _ _ _
    replace F := F.cut [(5, .int .i64 ((0 : Nat) : Int)), (4, .int .i64 ((0 : Nat) : Int)), (3, .bool false), (2, .pointer (some ⟨V, 0, none⟩)), (0, .pointer (some ⟨X, 0, none⟩))] (by kernel_rfl)
    refine wp_seq ?_
    refine wp_region_lit ?_
    refine fr_ch F 4 [(65, .pointer (some ⟨X, 1, none⟩)), (64, .pointer (some ⟨X, 0, none⟩)), (63, .pointer (some ⟨X, 0, none⟩)), (62, .pointer (some ⟨X, 0, none⟩))] (by kernel_rfl) ?_
    clear F a9
    intro a9 F
    refine fr_do F (wanted_free rfl) 66 rfl (by decide) (.slice none ([] : Bs).length 0) (by intro a' F'; have hc : w9.cell? ⟨X, 1, none⟩ = some (.slice none ([] : Bs).length 0) := (HK.at 1 rfl).cells 1; have h65 := F'.at' 65 _ rfl; go_simp) ?_
    clear F a9
    intro a9 F
    refine fr_mv F (wanted_free rfl) 67 rfl (by decide) 5 rfl rfl ?_
    clear F a9
    intro a9 F
    refine fr_ch F 1 [(68, .slice none (([] : Bs).length) (0))] (by kernel_rfl) ?_
    clear F a9
    intro a9 F
    obtain ⟨i0, hi, hz0, hz1, hz2⟩ := info_parts infoU8
    have hnil : w9.ownsRow w0.heap.size 5 1 (.slice none 0 0) 0 [] := World.ownsRow_nil _ _ _ _
    refine fr_appendP F rfl 69 rfl (by decide) (.const (.slice none 0 0)) (.tmp 68) 52 rfl w0.heap.size 5 i0 _ 1 1 Tryd.underlying52 hi hz0 hz1 hz2 rfl (by decide) (.slice none 0 0) 0 [] rfl hnil none (([] : Bs).length) (0) (fun _ => rfl) (u8V (([] : Bs))) (F.ev 68 rfl) (by have h8 := u8V_len (([] : Bs)); have h9 := hrl; omega) (CellsA.nil _ _) (u8V_one _) (by unfold maxLen; omega) (by omega) HK.size ?_
    intro v8 w8 hown hgr
    clear hi hz0 hz1 hz2 i0
    have hon1 := HON.trans (OnlyT.grown (E := FrE) hnil (Or.inl rfl) hgr)
    have HK2 : Keep w0 _ [] w8 := HK.grown hgr (fun g hg => by cases hg) (fun g hg x hx => by cases hg) (fun r hr => by cases hr)
    obtain ⟨a2, c2, hv8, hx1, hx2⟩ := own_form hown
    clear hx1 hx2
    subst hv8
    rw [Nat.zero_add, List.nil_append] at hown
    clear HK HO HON hgr hnil
    clear w9
    rename World => w9
    have HK := HK2
    have HO := hown
    have HON := hon1
    clear HK2 hown hon1
    intro a10 F'
    clear F a9
    rename Act => a9
    have F := F'
    clear F'
    try rw [Nat.zero_add] at F
    refine fr_nc F (wanted_free rfl) 70 rfl (by decide) 62 rfl rfl ?_
    clear F a9
    intro a9 F
    refine fr_ch F 1 [(71, .pointer (some ⟨X, 1, none⟩))] (by kernel_rfl) ?_
    clear F a9
    intro a9 F
    refine fr_putO F HK 1 rfl rfl rfl 52 _ _ rfl 1 (.slice a2 (([] : Bs).length) c2) (fun a' F' => F'.ev 71 rfl) (fun a' F' => F'.ev 69 rfl) z_bytes (Nat.le_of_ble_eq_true (by kernel_rfl)) (by kernel_rfl) ?_
    intro a10 w10 F' HK' HO2
    have HOn := own_only HO HO2 (fun g hg => BoxAt.ne_own (HK.at 1 rfl) HO (by decide) g hg)
    have HONn := HON.trans (OnlyT.set (E := FrE) HO2 (HK.at 1 rfl) (Or.inr rfl))
    clear HK F HON HO2 HO
    have HO := HOn
    clear HOn
    have HON := HONn
    clear HONn
    clear a9 w9
    rename World => w9
    rename Act => a9
    have HK := HK'
    have F := F'
    clear HK' F'
    replace HK : Keep w0 ((V, (pkV Pk.zero none 0), 27) :: (X, (frV m a2 (([] : Bs).length) c2 0), 54) :: B) [] w9 := HK
    refine wpList_nil ?_
    show Code.wp _ _ _ _ _
    replace F := F.cut [(5, .int .i64 ((0 : Nat) : Int)), (4, .int .i64 ((0 : Nat) : Int)), (3, .bool false), (2, .pointer (some ⟨V, 0, none⟩)), (0, .pointer (some ⟨X, 0, none⟩))] (by kernel_rfl)
    refine wp_seq ?_
    refine wp_region_lit ?_
    refine fr_do F (wanted_free rfl) 72 rfl (by decide) (.agg ((pkV Pk.zero none 0))) (by intro a' F'; exact run_load_box rfl (F'.ev 2 rfl) (HK.at 0 rfl) Tryd.underlying27 rfl infoPk) ?_
    clear F a9
    intro a9 F
    refine fr_mv F (wanted_free rfl) 73 rfl (by decide) 5 rfl rfl ?_
    clear F a9
    intro a9 F
    refine fr_ch F 1 [(74, .bool false)] (by kernel_rfl) ?_
    clear F a9
    intro a9 F
    refine fr_storeO F HK 0 rfl rfl rfl 27 (.tmp 2) (.tmp 72) rfl (pkV Pk.zero none 0) (fun a' F' => F'.ev 2 rfl) (fun a' F' => F'.ev 72 rfl) infoPk rfl (pk_one _ _ _) ?_
    intro a10 w10 F' HK' HO2
    have HOn := own_only HO HO2 (fun g hg => BoxAt.ne_own (HK.at 0 rfl) HO (by decide) g hg)
    have HONn := HON.above HO2 hVw
    clear HK F HON HO2 HO
    have HO := HOn
    clear HOn
    have HON := HONn
    clear HONn
    clear a9 w9
    rename World => w9
    rename Act => a9
    have HK := HK'
    have F := F'
    clear HK' F'
    replace HK : Keep w0 ((V, (pkV Pk.zero none 0), 27) :: (X, (frV m a2 (([] : Bs).length) c2 0), 54) :: B) [] w9 := HK
    refine fr_as F (wanted_free rfl) 3 rfl (by decide) 74 rfl rfl ?_
    clear F a9
    intro a9 F
    refine fr_ch F 1 [(4, .int .i64 0)] (by kernel_rfl) ?_
    clear F a9
    intro a9 F
    refine wpList_nil ?_
    show Code.wp _ _ _ _ _
    refine wp_ret ?_
    exact fr_ret3 F rfl rfl (HK.at 0 rfl) Tryd.underlying27 rfl infoPk _ _ rfl rfl (FIN.out _ none 0 (World.ownsRow_nil _ _ _ _) ⟨a2, c2, (HK.swap.sub (List.cons_sublist_cons.2 (List.sublist_cons_self _ _)) (fun r hr => hr)), HO⟩ HON)
  · subst e1
    have hrl : L.length = L.length := rfl
    have HQ1 := Lib.hid (show (if c = 0 then (some ⟨gg, 0, none⟩ : Option Addr) else some ⟨gg, 0, none⟩) = some ⟨gg, 0, none⟩ by split <;> rfl)
    go_enter Tryd.func20, Tryd.ntmps20
    refine wp_forget (n := 75) (L := [(0, .pointer (some ⟨X, 0, none⟩))]) (FrL.add (FrL.nil ?_ ?_) _ _ ?_) ?_
    iterate 3 rfl
    intro a9 F
    refine wp_seq ?_
    refine wp_region_lit ?_
    obtain ⟨i0, hi, hz0, hz1, hz2⟩ := info_parts infoPkR
    refine fr_alloc F HK 2 (by decide) rfl 27 rfl rfl i0 _ hi hz0 ?_
    rintro V a10 w10 hX F' HK' hb
    have hVw : w.heap.size ≤ V := by rw [HWV.out]; omega
    replace HO := own_only HO (Only.of_below hb (fun _ => False)) (fun _ _ h => h)
    replace HON := HON.then hb
    clear HK F hb hX hi hz0 hz1 hz2 i0 HWV
    clear a9 w9
    rename World => w9
    rename Act => a9
    have HK := HK'
    have F := F'
    clear HK' F'
    replace HK : Keep w0 ((V, (pkV Pk.zero none 0), 27) :: (X, (frV m (some ⟨gg, 0, none⟩) L.length c 0), 54) :: B) [] w9 := HK
    refine fr_ch F 2 [(4, .int .i64 0), (3, .bool false)] (by kernel_rfl) ?_
    clear F a9
    intro a9 F
    refine wpList_nil ?_
    show Code.wp _ _ _ _ _
    replace F := F.cut [(4, .int .i64 0), (3, .bool false), (2, .pointer (some ⟨V, 0, none⟩)), (0, .pointer (some ⟨X, 0, none⟩))] (by kernel_rfl)
    refine wp_seq ?_
    refine wp_block ?_
    refine wp_seq ?_
    refine wp_region_lit ?_
    refine fr_ch F 6 [(12, .pointer (some ⟨X, 0, none⟩)), (9, .bool false)] (by kernel_rfl) ?_
    clear F a9
    intro a9 F
    refine fr_do F (by rw [wanted_at F rfl (t := 9) (b := false) (by kernel_rfl) rfl]; rfl) 13 rfl (by decide) (.int .i64 (m : Int)) (by intro a' F'; have hc : w9.cell? ⟨X, 0, none⟩ = some (.int .i64 (m : Int)) := (HK.at 1 rfl).cells 0; have h12 := F'.at' 12 _ rfl; go_simp) ?_
    clear F a9
    intro a9 F
    refine fr_do F (by rw [wanted_at F rfl (t := 9) (b := false) (by kernel_rfl) rfl]; rfl) 14 rfl (by decide) (.bool false) (by intro a' F'; have h13 := F'.at' 13 _ rfl; go_simp <;> omega) ?_
    clear F a9
    intro a9 F
    refine fr_ch F 2 [(6, .bool false), (15, .bool false)] (by kernel_rfl) ?_
    clear F a9
    intro a9 F
    refine wpList_nil ?_
    show Code.wp _ _ _ _ _
    refine wp_cond_false (F.ev 6 rfl) ?_
    replace F := F.cut [(4, .int .i64 0), (3, .bool false), (2, .pointer (some ⟨V, 0, none⟩)), (0, .pointer (some ⟨X, 0, none⟩))] (by kernel_rfl)
    refine wp_seq ?_
    refine wp_region_lit ?_
    refine fr_ch F 3 [(20, .pointer (some ⟨X, 2, none⟩))] (by kernel_rfl) ?_
    clear F a9
    intro a9 F
    refine fr_do F (wanted_free rfl) 21 rfl (by decide) (.int .i64 (0 : Nat)) (by intro a' F'; have hc : w9.cell? ⟨X, 2, none⟩ = some (.int .i64 (0 : Nat)) := (HK.at 1 rfl).cells 2; have h20 := F'.at' 20 _ rfl; go_simp) ?_
    clear F a9
    intro a9 F
    refine fr_ch F 2 [(17, .bool false), (22, .bool false)] (by kernel_rfl) ?_
    clear F a9
    intro a9 F
    refine wpList_nil ?_
    show Code.wp _ _ _ _ _
    refine wp_cond_false (F.ev 17 rfl) ?_
    refine wp_skip ?_
    show Code.wp _ _ _ _ _
    replace F := F.cut [(4, .int .i64 0), (3, .bool false), (2, .pointer (some ⟨V, 0, none⟩)), (0, .pointer (some ⟨X, 0, none⟩))] (by kernel_rfl)
    refine wp_seq ?_
    refine wp_region_lit ?_
    refine fr_ch F 1 [(29, .pointer (some ⟨X, 0, none⟩))] (by kernel_rfl) ?_
    clear F a9
    intro a9 F
    refine fr_call F (wanted_free rfl) 30 rfl (by decide) 42 #[.pointer (some ⟨X, 0, none⟩)] (by intro a' F'; have h29 := F'.at' 29 _ rfl; go_simp) (HWH.out _ _ ⟨_, _, HK.swap, HO⟩) ?_
    rintro e9 w8 ⟨rfl, hb8⟩
    replace HON := HON.then hb8
    replace HK := HK.below hb8
    replace HO := own_only HO (Only.of_below hb8 (fun _ => False)) (fun _ _ h => h)
    clear hb8
    clear w9
    rename World => w9
    refine ⟨_, rfl, ?_⟩
    clear F a9
    intro a9 F
    refine fr_mv F (wanted_free rfl) 28 rfl (by decide) 30 rfl rfl ?_
    clear F a9
    intro a9 F
    refine fr_ch F 4 [(4, .int .i64 ((0 : Nat) : Int)), (5, .int .i64 ((0 : Nat) : Int)), (32, .int .i64 ((0 : Nat) : Int)), (31, .int .i64 ((0 : Nat) : Int))] (by kernel_rfl) ?_
    clear F a9
    intro a9 F
    refine wpList_nil ?_
    show Code.wp _ _ _ _ _
    replace F := F.cut [(5, .int .i64 ((0 : Nat) : Int)), (4, .int .i64 ((0 : Nat) : Int)), (3, .bool false), (2, .pointer (some ⟨V, 0, none⟩)), (0, .pointer (some ⟨X, 0, none⟩))] (by kernel_rfl)
    refine wp_seq ?_
    refine wp_seq ?_
    refine wp_region_lit ?_
    refine fr_ch F 6 [(38, .bool false)] (by kernel_rfl) ?_
    clear F a9
    intro a9 F
    refine wpList_nil ?_
    show Code.wp _ _ _ _ _
    refine wp_cond_false (F.ev 38 rfl) ?_
    refine wp_skip ?_
    show Code.wp _ _ _ _ _
    replace F := F.cut [(5, .int .i64 ((0 : Nat) : Int)), (4, .int .i64 ((0 : Nat) : Int)), (3, .bool false), (2, .pointer (some ⟨V, 0, none⟩)), (0, .pointer (some ⟨X, 0, none⟩))] (by kernel_rfl)
    refine wp_seq ?_
    refine wp_seq ?_
    refine wp_region_lit ?_
    refine fr_ch F 2 [(52, .bool false)] (by kernel_rfl) ?_
    clear F a9
    intro a9 F
    refine wpList_nil ?_
    show Code.wp _ _ _ _ _
    refine wp_cond_false (F.ev 52 rfl) ?_
    refine wp_skip ?_
    show Code.wp _ _ _ _ _
    replace F := F.cut [(5, .int .i64 ((0 : Nat) : Int)), (4, .int .i64 ((0 : Nat) : Int)), (3, .bool false), (2, .pointer (some ⟨V, 0, none⟩)), (0, .pointer (some ⟨X, 0, none⟩))] (by kernel_rfl)
    refine wp_seq ?_
    refine wp_region_lit ?_
    refine fr_ch F 4 [(65, .pointer (some ⟨X, 1, none⟩)), (62, .pointer (some ⟨X, 0, none⟩))] (by kernel_rfl) ?_
    clear F a9
    intro a9 F
    refine fr_do F (wanted_free rfl) 66 rfl (by decide) (.slice (some ⟨gg, 0, none⟩) L.length c) (by intro a' F'; have hc : w9.cell? ⟨X, 1, none⟩ = some (.slice (some ⟨gg, 0, none⟩) L.length c) := (HK.at 1 rfl).cells 1; have h65 := F'.at' 65 _ rfl; go_simp) ?_
    clear F a9
    intro a9 F
    refine fr_mv F (wanted_free rfl) 67 rfl (by decide) 5 rfl rfl ?_
    clear F a9
    intro a9 F
    refine fr_do F (wanted_free rfl) 68 rfl (by decide) (.slice (some ⟨gg, 0, none⟩) (L.length) (c)) (by intro a' F'; have h66 := F'.at' 66 _ rfl; have h67 := F'.at' 67 _ rfl; go_simp) ?_
    clear F a9
    intro a9 F
    obtain ⟨i0, hi, hz0, hz1, hz2⟩ := info_parts infoU8
    have hnil : w9.ownsRow w0.heap.size 5 1 (.slice none 0 0) 0 [] := World.ownsRow_nil _ _ _ _
    refine fr_appendP F rfl 69 rfl (by decide) (.const (.slice none 0 0)) (.tmp 68) 52 rfl w0.heap.size 5 i0 _ 1 1 Tryd.underlying52 hi hz0 hz1 hz2 rfl (by decide) (.slice none 0 0) 0 [] rfl hnil (some ⟨gg, 0, none⟩) (L.length) (c) (fun h => by cases h) (u8V (L)) (F.ev 68 rfl) (by have h8 := u8V_len (L); have h9 := hrl; omega) (own_cells HO) (u8V_one _) (by unfold maxLen; omega) (by omega) HK.size ?_
    intro v8 w8 hown hgr
    clear hi hz0 hz1 hz2 i0
    have hon1 := HON.trans (OnlyT.grown (E := FrE) hnil (Or.inl rfl) hgr)
    have HK2 : Keep w0 _ [] w8 := HK.grown hgr (fun g hg => by cases hg) (fun g hg x hx => by cases hg) (fun r hr => by cases hr)
    obtain ⟨a2, c2, hv8, hx1, hx2⟩ := own_form hown
    clear hx1 hx2
    subst hv8
    rw [Nat.zero_add, List.nil_append] at hown
    clear HK HO HON hgr hnil
    clear w9
    rename World => w9
    have HK := HK2
    have HO := hown
    have HON := hon1
    clear HK2 hown hon1
    intro a10 F'
    clear F a9
    rename Act => a9
    have F := F'
    clear F'
    try rw [Nat.zero_add] at F
    refine fr_nc F (wanted_free rfl) 70 rfl (by decide) 62 rfl rfl ?_
    clear F a9
    intro a9 F
    refine fr_ch F 1 [(71, .pointer (some ⟨X, 1, none⟩))] (by kernel_rfl) ?_
    clear F a9
    intro a9 F
    refine fr_putO F HK 1 rfl rfl rfl 52 _ _ rfl 1 (.slice a2 (L.length) c2) (fun a' F' => F'.ev 71 rfl) (fun a' F' => F'.ev 69 rfl) z_bytes (Nat.le_of_ble_eq_true (by kernel_rfl)) (by kernel_rfl) ?_
    intro a10 w10 F' HK' HO2
    have HOn := own_only HO HO2 (fun g hg => BoxAt.ne_own (HK.at 1 rfl) HO (by decide) g hg)
    have HONn := HON.trans (OnlyT.set (E := FrE) HO2 (HK.at 1 rfl) (Or.inr rfl))
    clear HK F HON HO2 HO
    have HO := HOn
    clear HOn
    have HON := HONn
    clear HONn
    clear a9 w9
    rename World => w9
    rename Act => a9
    have HK := HK'
    have F := F'
    clear HK' F'
    replace HK : Keep w0 ((V, (pkV Pk.zero none 0), 27) :: (X, (frV m a2 (L.length) c2 0), 54) :: B) [] w9 := HK
    refine wpList_nil ?_
    show Code.wp _ _ _ _ _
    replace F := F.cut [(5, .int .i64 ((0 : Nat) : Int)), (4, .int .i64 ((0 : Nat) : Int)), (3, .bool false), (2, .pointer (some ⟨V, 0, none⟩)), (0, .pointer (some ⟨X, 0, none⟩))] (by kernel_rfl)
    refine wp_seq ?_
    refine wp_region_lit ?_
    refine fr_do F (wanted_free rfl) 72 rfl (by decide) (.agg ((pkV Pk.zero none 0))) (by intro a' F'; exact run_load_box rfl (F'.ev 2 rfl) (HK.at 0 rfl) Tryd.underlying27 rfl infoPk) ?_
    clear F a9
    intro a9 F
    refine fr_mv F (wanted_free rfl) 73 rfl (by decide) 5 rfl rfl ?_
    clear F a9
    intro a9 F
    refine fr_ch F 1 [(74, .bool false)] (by kernel_rfl) ?_
    clear F a9
    intro a9 F
    refine fr_storeO F HK 0 rfl rfl rfl 27 (.tmp 2) (.tmp 72) rfl (pkV Pk.zero none 0) (fun a' F' => F'.ev 2 rfl) (fun a' F' => F'.ev 72 rfl) infoPk rfl (pk_one _ _ _) ?_
    intro a10 w10 F' HK' HO2
    have HOn := own_only HO HO2 (fun g hg => BoxAt.ne_own (HK.at 0 rfl) HO (by decide) g hg)
    have HONn := HON.above HO2 hVw
    clear HK F HON HO2 HO
    have HO := HOn
    clear HOn
    have HON := HONn
    clear HONn
    clear a9 w9
    rename World => w9
    rename Act => a9
    have HK := HK'
    have F := F'
    clear HK' F'
    replace HK : Keep w0 ((V, (pkV Pk.zero none 0), 27) :: (X, (frV m a2 (L.length) c2 0), 54) :: B) [] w9 := HK
    refine fr_as F (wanted_free rfl) 3 rfl (by decide) 74 rfl rfl ?_
    clear F a9
    intro a9 F
    refine fr_ch F 1 [(4, .int .i64 0)] (by kernel_rfl) ?_
    clear F a9
    intro a9 F
    refine wpList_nil ?_
    show Code.wp _ _ _ _ _
    refine wp_ret ?_
    exact fr_ret3 F rfl rfl (HK.at 0 rfl) Tryd.underlying27 rfl infoPk _ _ rfl rfl (FIN.out _ none 0 (World.ownsRow_nil _ _ _ _) ⟨a2, c2, (HK.swap.sub (List.cons_sublist_cons.2 (List.sublist_cons_self _ _)) (fun r hr => hr)), HO⟩ HON)
set_option maxRecDepth 100000 in
set_option maxHeartbeats 4000000 in
theorem next_told {w0 w : World} {B : List Box} {X m : Nat} {L : Bs} (h : FrC w0 B X m L 0 w) (hm : 0 < m) (hL : L.length ≤ 90000000) (_hB : ∀ x ∈ B, x.2.2 ≠ 5) (n : Nat) (hn : n ≠ 0) (hw : wholeR m L = (n, 0)) (p : Pk) (n2 : Nat) (hd : decR (L.take n) = (p, n2, 0)) : Calls Tryd.prog 20 #[.pointer (some ⟨X, 0, none⟩)] w (RetNx w0 B X m (nxR m L 0) w) := by
  have HWH := Lib.hid (show ∀ (V : Nat) w9, FrC w0 ((V, pkV Pk.zero none 0, 27) :: B) X m L 0 w9 → Calls Tryd.prog 42 #[.pointer (some ⟨X, 0, none⟩)] w9 fun r w' => r = .returned (.tuple #[.int .i64 (n : Int), .int .i64 ((0 : Nat) : Int)]) ∧ Below w9.heap.size w9 w' from fun V w9 h => by
    have h2 := frame_whole h hL
    rw [hw] at h2
    exact h2)
  
  obtain ⟨a, c, HK, HO⟩ := h
  obtain ⟨RR, hRR⟩ : ∃ RR : Ending → World → Prop, RR = RetNx w0 B X m (nxR m L 0) w := ⟨_, rfl⟩
  have FIN := Lib.hid (show ∀ w' (al : Option Addr) (cap : Nat), w'.ownsRow w.heap.size 31 2 (.slice al (p).subs.length cap) (p).subs.length (subCells (p).subs) → FrC w0 B X m (L.drop n) (0) w' → OnlyT FrE w w' → RR (.returned (.tuple #[.agg (pkV (p) al cap), .bool true, .int .i64 ((0 : Nat) : Int)])) w' from fun w' al cap h1 h2 h3 => by
    have e1 : nxR m L 0 = (p, true, 0, L.drop n, 0) := by
      unfold nxR nextR
      rw [if_neg (by simp), hw]
      simp only
      rw [if_neg (by simp), if_neg hn, hd, if_neg (by simp)]
    rw [hRR, e1]
    exact ⟨al, cap, rfl, h1, h2, h3⟩)
  rw [← hRR]
  obtain ⟨w9, hw9⟩ : ∃ w9, w9 = w := ⟨_, rfl⟩
  rw [← hw9] at HK HO
  suffices hgo : Calls Tryd.prog 20 #[.pointer (some ⟨X, 0, none⟩)] w9 RR by rw [hw9] at hgo; exact hgo
  have HON : OnlyT FrE w w9 := by rw [hw9]; exact OnlyT.refl _ _
  have HWV := Lib.hid (show w.heap.size = w9.heap.size by rw [hw9])
  clear hw9 hRR
  obtain ⟨hle, hpos⟩ := whole_le (m := m) (L := L)
  rw [hw] at hle
  simp only at hle
  clear hpos
  have hLn : L ≠ [] := fun h => by rw [h] at hle; simp at hle; omega
  rcases out_form HO with ⟨e1, e2', e3, e4⟩ | ⟨gg, e1, hcap⟩
  · exact absurd e4 hLn
  subst e1
  have hns := fun w9 (h : Out w9 w0.heap.size (.slice (some ⟨gg, 0, none⟩) L.length c) L) => conv_nats (P := Tryd.prog) w9 52 5 Tryd.underlying52 Tryd.underlying5 (some ⟨gg, 0, none⟩) c ((L.take n).map UInt8.toNat) n (by rw [List.length_map, List.length_take]; omega) (by
    have h3 := out_sub h 0 n
    rw [List.drop_zero] at h3
    exact h3) 9 Tryd.underlying9
  rw [strN_u8] at hns
  have HNS := Lib.hid hns
  have HDE := Lib.hid (show ∀ w9, Env w9 → Calls Tryd.prog 43 #[.string (bB (L.take n))] w9 (RetDec w9 (p, n2, 0)) from fun w9 h1 => by
    have h2 := read_Decode (bB (L.take n)) (by rw [bB_size, List.length_take]; omega) w9 h1
    rw [bl_bB, hd] at h2
    exact h2)
  obtain ⟨o1, hO1⟩ : ∃ o1, (if c = n then 0 else n) = o1 := ⟨_, rfl⟩
  have HQ1 := Lib.hid (show (if c = n then (some ⟨gg, 0, none⟩ : Option Addr) else some ⟨gg, n, none⟩) = some ⟨gg, o1, none⟩ by rw [← hO1]; split <;> rfl)
  have HRC := Lib.hid (show ∀ w9, Out w9 w0.heap.size (.slice (some ⟨gg, 0, none⟩) L.length c) L → CellsA w9 (some ⟨gg, o1, none⟩) (u8V (L.drop n)) from fun w9 h => by
    by_cases hc : c = n
    · have ht : L.drop n = [] := List.drop_eq_nil_of_le (by omega)
      rw [ht]
      exact CellsA.nil _ _
    · rw [if_neg hc] at hO1
      have h3 := out_sub h n L.length
      rw [Nat.zero_add, hO1, List.take_of_length_le (by rw [List.length_drop]; omega), ← u8V_nat] at h3
      rw [hO1] at *
      exact h3)
  have hrl : (L.drop n).length = L.length - n := List.length_drop
  clear hns hO1
  go_enter Tryd.func20, Tryd.ntmps20
  refine wp_forget (n := 75) (L := [(0, .pointer (some ⟨X, 0, none⟩))]) (FrL.add (FrL.nil ?_ ?_) _ _ ?_) ?_
  iterate 3 rfl
  intro a9 F
  refine wp_seq ?_
  refine wp_region_lit ?_
  obtain ⟨i0, hi, hz0, hz1, hz2⟩ := info_parts infoPkR
  refine fr_alloc F HK 2 (by decide) rfl 27 rfl rfl i0 _ hi hz0 ?_
  rintro V a10 w10 hX F' HK' hb
  have hVw : w.heap.size ≤ V := by rw [HWV.out]; omega
  replace HO := own_only HO (Only.of_below hb (fun _ => False)) (fun _ _ h => h)
  replace HON := HON.then hb
  clear HK F hb hX hi hz0 hz1 hz2 i0 HWV
  clear a9 w9
  rename World => w9
  rename Act => a9
  have HK := HK'
  have F := F'
  clear HK' F'
  replace HK : Keep w0 ((V, (pkV Pk.zero none 0), 27) :: (X, (frV m (some ⟨gg, 0, none⟩) L.length c 0), 54) :: B) [] w9 := HK
  refine fr_ch F 2 [(4, .int .i64 0), (3, .bool false)] (by kernel_rfl) ?_
  clear F a9
  intro a9 F
  refine wpList_nil ?_
  show Code.wp _ _ _ _ _
  replace F := F.cut [(4, .int .i64 0), (3, .bool false), (2, .pointer (some ⟨V, 0, none⟩)), (0, .pointer (some ⟨X, 0, none⟩))] (by kernel_rfl)
  refine wp_seq ?_
  refine wp_block ?_
  refine wp_seq ?_
  refine wp_region_lit ?_
  refine fr_ch F 6 [(12, .pointer (some ⟨X, 0, none⟩)), (9, .bool false)] (by kernel_rfl) ?_
  clear F a9
  intro a9 F
  refine fr_do F (by rw [wanted_at F rfl (t := 9) (b := false) (by kernel_rfl) rfl]; rfl) 13 rfl (by decide) (.int .i64 (m : Int)) (by intro a' F'; have hc : w9.cell? ⟨X, 0, none⟩ = some (.int .i64 (m : Int)) := (HK.at 1 rfl).cells 0; have h12 := F'.at' 12 _ rfl; go_simp) ?_
  clear F a9
  intro a9 F
  refine fr_do F (by rw [wanted_at F rfl (t := 9) (b := false) (by kernel_rfl) rfl]; rfl) 14 rfl (by decide) (.bool false) (by intro a' F'; have h13 := F'.at' 13 _ rfl; go_simp <;> omega) ?_
  clear F a9
  intro a9 F
  refine fr_ch F 2 [(6, .bool false), (15, .bool false)] (by kernel_rfl) ?_
  clear F a9
  intro a9 F
  refine wpList_nil ?_
  show Code.wp _ _ _ _ _
  refine wp_cond_false (F.ev 6 rfl) ?_
  replace F := F.cut [(4, .int .i64 0), (3, .bool false), (2, .pointer (some ⟨V, 0, none⟩)), (0, .pointer (some ⟨X, 0, none⟩))] (by kernel_rfl)
  refine wp_seq ?_
  refine wp_region_lit ?_
  refine fr_ch F 3 [(20, .pointer (some ⟨X, 2, none⟩))] (by kernel_rfl) ?_
  clear F a9
  intro a9 F
  refine fr_do F (wanted_free rfl) 21 rfl (by decide) (.int .i64 (0 : Nat)) (by intro a' F'; have hc : w9.cell? ⟨X, 2, none⟩ = some (.int .i64 (0 : Nat)) := (HK.at 1 rfl).cells 2; have h20 := F'.at' 20 _ rfl; go_simp) ?_
  clear F a9
  intro a9 F
  refine fr_ch F 2 [(17, .bool false), (22, .bool false)] (by kernel_rfl) ?_
  clear F a9
  intro a9 F
  refine wpList_nil ?_
  show Code.wp _ _ _ _ _
  refine wp_cond_false (F.ev 17 rfl) ?_
  refine wp_skip ?_
  show Code.wp _ _ _ _ _
  replace F := F.cut [(4, .int .i64 0), (3, .bool false), (2, .pointer (some ⟨V, 0, none⟩)), (0, .pointer (some ⟨X, 0, none⟩))] (by kernel_rfl)
  refine wp_seq ?_
  refine wp_region_lit ?_
  refine fr_ch F 1 [(29, .pointer (some ⟨X, 0, none⟩))] (by kernel_rfl) ?_
  clear F a9
  intro a9 F
  refine fr_call F (wanted_free rfl) 30 rfl (by decide) 42 #[.pointer (some ⟨X, 0, none⟩)] (by intro a' F'; have h29 := F'.at' 29 _ rfl; go_simp) (HWH.out _ _ ⟨_, _, HK.swap, HO⟩) ?_
  rintro e9 w8 ⟨rfl, hb8⟩
  replace HON := HON.then hb8
  replace HK := HK.below hb8
  replace HO := own_only HO (Only.of_below hb8 (fun _ => False)) (fun _ _ h => h)
  clear hb8
  clear w9
  rename World => w9
  refine ⟨_, rfl, ?_⟩
  clear F a9
  intro a9 F
  refine fr_mv F (wanted_free rfl) 28 rfl (by decide) 30 rfl rfl ?_
  clear F a9
  intro a9 F
  refine fr_ch F 4 [(4, .int .i64 ((0 : Nat) : Int)), (5, .int .i64 (n : Int)), (32, .int .i64 ((0 : Nat) : Int)), (31, .int .i64 (n : Int))] (by kernel_rfl) ?_
  clear F a9
  intro a9 F
  refine wpList_nil ?_
  show Code.wp _ _ _ _ _
  replace F := F.cut [(5, .int .i64 (n : Int)), (4, .int .i64 ((0 : Nat) : Int)), (3, .bool false), (2, .pointer (some ⟨V, 0, none⟩)), (0, .pointer (some ⟨X, 0, none⟩))] (by kernel_rfl)
  refine wp_seq ?_
  refine wp_seq ?_
  refine wp_region_lit ?_
  refine fr_ch F 4 [(36, .int .i64 (n : Int)), (35, .bool true)] (by kernel_rfl) ?_
  clear F a9
  intro a9 F
  refine fr_do F (by rw [wanted_at F rfl (t := 35) (b := true) (by kernel_rfl) rfl]; rfl) 37 rfl (by decide) (.bool true) (by intro a' F'; have h36 := F'.at' 36 _ rfl; go_simp <;> omega) ?_
  clear F a9
  intro a9 F
  refine fr_ch F 1 [(38, .bool true)] (by kernel_rfl) ?_
  clear F a9
  intro a9 F
  refine wpList_nil ?_
  show Code.wp _ _ _ _ _
  refine wp_cond_true (F.ev 38 rfl) ?_
  replace F := F.cut [(5, .int .i64 (n : Int)), (4, .int .i64 ((0 : Nat) : Int)), (3, .bool false), (2, .pointer (some ⟨V, 0, none⟩)), (0, .pointer (some ⟨X, 0, none⟩))] (by kernel_rfl)
  refine wp_region_lit ?_
  refine fr_ch F 3 [(42, .pointer (some ⟨X, 1, none⟩))] (by kernel_rfl) ?_
  clear F a9
  intro a9 F
  refine fr_do F (wanted_free rfl) 43 rfl (by decide) (.slice (some ⟨gg, 0, none⟩) L.length c) (by intro a' F'; have hc : w9.cell? ⟨X, 1, none⟩ = some (.slice (some ⟨gg, 0, none⟩) L.length c) := (HK.at 1 rfl).cells 1; have h42 := F'.at' 42 _ rfl; go_simp) ?_
  clear F a9
  intro a9 F
  refine fr_mv F (wanted_free rfl) 44 rfl (by decide) 5 rfl rfl ?_
  clear F a9
  intro a9 F
  refine fr_do F (wanted_free rfl) 45 rfl (by decide) (.slice (some ⟨gg, 0, none⟩) n c) (by intro a' F'; have h43 := F'.at' 43 _ rfl; have h44 := F'.at' 44 _ rfl; go_simp <;> omega) ?_
  clear F a9
  intro a9 F
  refine fr_do F (wanted_free rfl) 46 rfl (by decide) (.string (bB (L.take n))) (fun a' F' => run_conv 52 9 _ rfl _ _ (F'.ev 45 rfl) (HNS.out w9 HO)) ?_
  clear F a9
  intro a9 F
  have HSZ : w.heap.size ≤ w9.heap.size := by have := HK.lt (x := (V, (pkV Pk.zero none 0), 27)) (by simp); simp only at this; omega
  refine fr_call F (wanted_free rfl) 47 rfl (by decide) 43 #[.string (bB (L.take n))] (by intro a' F'; have h46 := F'.at' 46 _ rfl; go_simp) (HDE.out _ HK.env) ?_
  rintro e9 w8 ⟨al, cap, rfl, hown, hb8⟩
  have HOP := own_base hown HSZ
  clear hown HSZ
  replace HON := HON.then hb8
  replace HK := HK.below hb8
  replace HO := own_only HO (Only.of_below hb8 (fun _ => False)) (fun _ _ h => h)
  clear hb8
  clear w9
  rename World => w9
  refine ⟨_, rfl, ?_⟩
  clear F a9
  intro a9 F
  refine fr_mv F (wanted_free rfl) 39 rfl (by decide) 47 rfl rfl ?_
  clear F a9
  intro a9 F
  refine fr_ch F 3 [(50, .int .i64 ((0 : Nat) : Int)), (49, .int .i64 (n2 : Int)), (48, .agg (pkV p al cap))] (by kernel_rfl) ?_
  clear F a9
  intro a9 F
  refine fr_storeO F HK 0 rfl rfl rfl 27 (.tmp 2) (.tmp 48) rfl (pkV p al cap) (fun a' F' => F'.ev 2 rfl) (fun a' F' => F'.ev 48 rfl) infoPk rfl (pk_one _ _ _) ?_
  intro a10 w10 F' HK' HO2
  have HOn := own_only HO HO2 (fun g hg => BoxAt.ne_own (HK.at 0 rfl) HO (by decide) g hg)
  have HOPn := own_only HOP HO2 (fun g hg => BoxAt.ne_own (HK.at 0 rfl) HOP (by decide) g hg)
  have HONn := HON.above HO2 hVw
  clear HK F HON HO2 HO HOP
  have HO := HOn
  clear HOn
  have HOP := HOPn
  clear HOPn
  have HON := HONn
  clear HONn
  clear a9 w9
  rename World => w9
  rename Act => a9
  have HK := HK'
  have F := F'
  clear HK' F'
  replace HK : Keep w0 ((V, (pkV p al cap), 27) :: (X, (frV m (some ⟨gg, 0, none⟩) L.length c 0), 54) :: B) [] w9 := HK
  refine fr_as F (wanted_free rfl) 4 rfl (by decide) 50 rfl rfl ?_
  clear F a9
  intro a9 F
  refine wpList_nil ?_
  show Code.wp _ _ _ _ _
  replace F := F.cut [(5, .int .i64 (n : Int)), (4, .int .i64 ((0 : Nat) : Int)), (3, .bool false), (2, .pointer (some ⟨V, 0, none⟩)), (0, .pointer (some ⟨X, 0, none⟩))] (by kernel_rfl)
  refine wp_seq ?_
  refine wp_seq ?_
  refine wp_region_lit ?_
  refine fr_ch F 2 [(52, .bool false)] (by kernel_rfl) ?_
  clear F a9
  intro a9 F
  refine wpList_nil ?_
  show Code.wp _ _ _ _ _
  refine wp_cond_false (F.ev 52 rfl) ?_
  refine wp_skip ?_
  show Code.wp _ _ _ _ _
  replace F := F.cut [(5, .int .i64 (n : Int)), (4, .int .i64 ((0 : Nat) : Int)), (3, .bool false), (2, .pointer (some ⟨V, 0, none⟩)), (0, .pointer (some ⟨X, 0, none⟩))] (by kernel_rfl)
  refine wp_seq ?_
  refine wp_region_lit ?_
  refine fr_ch F 4 [(65, .pointer (some ⟨X, 1, none⟩)), (62, .pointer (some ⟨X, 0, none⟩))] (by kernel_rfl) ?_
  clear F a9
  intro a9 F
  refine fr_do F (wanted_free rfl) 66 rfl (by decide) (.slice (some ⟨gg, 0, none⟩) L.length c) (by intro a' F'; have hc : w9.cell? ⟨X, 1, none⟩ = some (.slice (some ⟨gg, 0, none⟩) L.length c) := (HK.at 1 rfl).cells 1; have h65 := F'.at' 65 _ rfl; go_simp) ?_
  clear F a9
  intro a9 F
  refine fr_mv F (wanted_free rfl) 67 rfl (by decide) 5 rfl rfl ?_
  clear F a9
  intro a9 F
  refine fr_do F (wanted_free rfl) 68 rfl (by decide) (.slice (some ⟨gg, o1, none⟩) (L.length - n) (c - n)) (by intro a' F'; have h66 := F'.at' 66 _ rfl; have h67 := F'.at' 67 _ rfl; go_simp <;> (rw [HQ1.out]; done)) ?_
  clear F a9
  intro a9 F
  obtain ⟨i0, hi, hz0, hz1, hz2⟩ := info_parts infoU8
  have hnil : w9.ownsRow w0.heap.size 5 1 (.slice none 0 0) 0 [] := World.ownsRow_nil _ _ _ _
  refine fr_appendP F rfl 69 rfl (by decide) (.const (.slice none 0 0)) (.tmp 68) 52 rfl w0.heap.size 5 i0 _ 1 1 Tryd.underlying52 hi hz0 hz1 hz2 rfl (by decide) (.slice none 0 0) 0 [] rfl hnil (some ⟨gg, o1, none⟩) (L.length - n) (c - n) (fun h => by cases h) (u8V (L.drop n)) (F.ev 68 rfl) (by have h8 := u8V_len (L.drop n); have h9 := hrl; omega) (HRC.out _ HO) (u8V_one _) (by unfold maxLen; omega) (by omega) HK.size ?_
  intro v8 w8 hown hgr
  clear hi hz0 hz1 hz2 i0
  have hon1 := HON.trans (OnlyT.grown (E := FrE) hnil (Or.inl rfl) hgr)
  have HK2 : Keep w0 _ [] w8 := HK.grown hgr (fun g hg => by cases hg) (fun g hg x hx => by cases hg) (fun r hr => by cases hr)
  obtain ⟨a2, c2, hv8, hx1, hx2⟩ := own_form hown
  clear hx1 hx2
  subst hv8
  rw [Nat.zero_add, List.nil_append] at hown
  replace HOP := own_grown0 HOP hgr
  clear HK HO HON hgr hnil
  clear w9
  rename World => w9
  have HK := HK2
  have HO := hown
  have HON := hon1
  clear HK2 hown hon1
  intro a10 F'
  clear F a9
  rename Act => a9
  have F := F'
  clear F'
  try rw [Nat.zero_add] at F
  refine fr_nc F (wanted_free rfl) 70 rfl (by decide) 62 rfl rfl ?_
  clear F a9
  intro a9 F
  refine fr_ch F 1 [(71, .pointer (some ⟨X, 1, none⟩))] (by kernel_rfl) ?_
  clear F a9
  intro a9 F
  refine fr_putO F HK 1 rfl rfl rfl 52 _ _ rfl 1 (.slice a2 (L.length - n) c2) (fun a' F' => F'.ev 71 rfl) (fun a' F' => F'.ev 69 rfl) z_bytes (Nat.le_of_ble_eq_true (by kernel_rfl)) (by kernel_rfl) ?_
  intro a10 w10 F' HK' HO2
  have HOn := own_only HO HO2 (fun g hg => BoxAt.ne_own (HK.at 1 rfl) HO (by decide) g hg)
  have HOPn := own_only HOP HO2 (fun g hg => BoxAt.ne_own (HK.at 1 rfl) HOP (by decide) g hg)
  have HONn := HON.trans (OnlyT.set (E := FrE) HO2 (HK.at 1 rfl) (Or.inr rfl))
  clear HK F HON HO2 HO HOP
  have HO := HOn
  clear HOn
  have HOP := HOPn
  clear HOPn
  have HON := HONn
  clear HONn
  clear a9 w9
  rename World => w9
  rename Act => a9
  have HK := HK'
  have F := F'
  clear HK' F'
  replace HK : Keep w0 ((V, (pkV p al cap), 27) :: (X, (frV m a2 (L.length - n) c2 0), 54) :: B) [] w9 := HK
  refine wpList_nil ?_
  show Code.wp _ _ _ _ _
  replace F := F.cut [(5, .int .i64 (n : Int)), (4, .int .i64 ((0 : Nat) : Int)), (3, .bool false), (2, .pointer (some ⟨V, 0, none⟩)), (0, .pointer (some ⟨X, 0, none⟩))] (by kernel_rfl)
  refine wp_seq ?_
  refine wp_region_lit ?_
  refine fr_do F (wanted_free rfl) 72 rfl (by decide) (.agg ((pkV p al cap))) (by intro a' F'; exact run_load_box rfl (F'.ev 2 rfl) (HK.at 0 rfl) Tryd.underlying27 rfl infoPk) ?_
  clear F a9
  intro a9 F
  refine fr_mv F (wanted_free rfl) 73 rfl (by decide) 5 rfl rfl ?_
  clear F a9
  intro a9 F
  refine fr_do F (wanted_free rfl) 74 rfl (by decide) (.bool true) (by intro a' F'; have h73 := F'.at' 73 _ rfl; go_simp <;> omega) ?_
  clear F a9
  intro a9 F
  refine fr_storeO F HK 0 rfl rfl rfl 27 (.tmp 2) (.tmp 72) rfl (pkV p al cap) (fun a' F' => F'.ev 2 rfl) (fun a' F' => F'.ev 72 rfl) infoPk rfl (pk_one _ _ _) ?_
  intro a10 w10 F' HK' HO2
  have HOn := own_only HO HO2 (fun g hg => BoxAt.ne_own (HK.at 0 rfl) HO (by decide) g hg)
  have HOPn := own_only HOP HO2 (fun g hg => BoxAt.ne_own (HK.at 0 rfl) HOP (by decide) g hg)
  have HONn := HON.above HO2 hVw
  clear HK F HON HO2 HO HOP
  have HO := HOn
  clear HOn
  have HOP := HOPn
  clear HOPn
  have HON := HONn
  clear HONn
  clear a9 w9
  rename World => w9
  rename Act => a9
  have HK := HK'
  have F := F'
  clear HK' F'
  replace HK : Keep w0 ((V, (pkV p al cap), 27) :: (X, (frV m a2 (L.length - n) c2 0), 54) :: B) [] w9 := HK
  refine fr_as F (wanted_free rfl) 3 rfl (by decide) 74 rfl rfl ?_
  clear F a9
  intro a9 F
  refine fr_ch F 1 [(4, .int .i64 0)] (by kernel_rfl) ?_
  clear F a9
  intro a9 F
  refine wpList_nil ?_
  show Code.wp _ _ _ _ _
  have HKF : FrC w0 B X m (L.drop n) 0 w9 := ⟨a2, c2, by rw [hrl]; exact (HK.swap.sub (List.cons_sublist_cons.2 (List.sublist_cons_self _ _)) (fun r hr => hr)), by unfold Out; rw [hrl]; exact HO⟩
  refine wp_ret ?_
  exact fr_ret3 F rfl rfl (HK.at 0 rfl) Tryd.underlying27 rfl infoPk _ _ rfl rfl (FIN.out _ al cap HOP HKF HON)
set_option maxRecDepth 100000 in
set_option maxHeartbeats 4000000 in
theorem next_form {w0 w : World} {B : List Box} {X m : Nat} {L : Bs} (h : FrC w0 B X m L 0 w) (hm : 0 < m) (hL : L.length ≤ 90000000) (_hB : ∀ x ∈ B, x.2.2 ≠ 5) (n : Nat) (hn : n ≠ 0) (hw : wholeR m L = (n, 0)) (p : Pk) (n2 e2 : Nat) (he2 : e2 ≠ 0) (hd : decR (L.take n) = (p, n2, e2)) : Calls Tryd.prog 20 #[.pointer (some ⟨X, 0, none⟩)] w (RetNx w0 B X m (nxR m L 0) w) := by
  have HWH := Lib.hid (show ∀ (V : Nat) w9, FrC w0 ((V, pkV Pk.zero none 0, 27) :: B) X m L 0 w9 → Calls Tryd.prog 42 #[.pointer (some ⟨X, 0, none⟩)] w9 fun r w' => r = .returned (.tuple #[.int .i64 (n : Int), .int .i64 ((0 : Nat) : Int)]) ∧ Below w9.heap.size w9 w' from fun V w9 h => by
    have h2 := frame_whole h hL
    rw [hw] at h2
    exact h2)
  
  obtain ⟨a, c, HK, HO⟩ := h
  obtain ⟨RR, hRR⟩ : ∃ RR : Ending → World → Prop, RR = RetNx w0 B X m (nxR m L 0) w := ⟨_, rfl⟩
  have FIN := Lib.hid (show ∀ w' (al : Option Addr) (cap : Nat), w'.ownsRow w.heap.size 31 2 (.slice al (Pk.zero).subs.length cap) (Pk.zero).subs.length (subCells (Pk.zero).subs) → FrC w0 B X m ([]) (e2) w' → OnlyT FrE w w' → RR (.returned (.tuple #[.agg (pkV (Pk.zero) al cap), .bool false, .int .i64 ((e2 : Nat) : Int)])) w' from fun w' al cap h1 h2 h3 => by
    have e1 : nxR m L 0 = (Pk.zero, false, e2, [], e2) := by
      unfold nxR nextR
      rw [if_neg (by simp), hw]
      simp only
      rw [if_neg (by simp), if_neg hn, hd, if_pos he2]
    rw [hRR, e1]
    exact ⟨al, cap, rfl, h1, h2, h3⟩)
  rw [← hRR]
  obtain ⟨w9, hw9⟩ : ∃ w9, w9 = w := ⟨_, rfl⟩
  rw [← hw9] at HK HO
  suffices hgo : Calls Tryd.prog 20 #[.pointer (some ⟨X, 0, none⟩)] w9 RR by rw [hw9] at hgo; exact hgo
  have HON : OnlyT FrE w w9 := by rw [hw9]; exact OnlyT.refl _ _
  have HWV := Lib.hid (show w.heap.size = w9.heap.size by rw [hw9])
  clear hw9 hRR
  obtain ⟨hle, hpos⟩ := whole_le (m := m) (L := L)
  rw [hw] at hle
  simp only at hle
  clear hpos
  have hLn : L ≠ [] := fun h => by rw [h] at hle; simp at hle; omega
  rcases out_form HO with ⟨e1, e2', e3, e4⟩ | ⟨gg, e1, hcap⟩
  · exact absurd e4 hLn
  subst e1
  have hns := fun w9 (h : Out w9 w0.heap.size (.slice (some ⟨gg, 0, none⟩) L.length c) L) => conv_nats (P := Tryd.prog) w9 52 5 Tryd.underlying52 Tryd.underlying5 (some ⟨gg, 0, none⟩) c ((L.take n).map UInt8.toNat) n (by rw [List.length_map, List.length_take]; omega) (by
    have h3 := out_sub h 0 n
    rw [List.drop_zero] at h3
    exact h3) 9 Tryd.underlying9
  rw [strN_u8] at hns
  have HNS := Lib.hid hns
  have HDE := Lib.hid (show ∀ w9, Env w9 → Calls Tryd.prog 43 #[.string (bB (L.take n))] w9 (RetDec w9 (p, n2, e2)) from fun w9 h1 => by
    have h2 := read_Decode (bB (L.take n)) (by rw [bB_size, List.length_take]; omega) w9 h1
    rw [bl_bB, hd] at h2
    exact h2)
  obtain ⟨o1, hO1⟩ : ∃ o1, (if c = n then 0 else n) = o1 := ⟨_, rfl⟩
  have HQ1 := Lib.hid (show (if c = n then (some ⟨gg, 0, none⟩ : Option Addr) else some ⟨gg, n, none⟩) = some ⟨gg, o1, none⟩ by rw [← hO1]; split <;> rfl)
  have HRC := Lib.hid (show ∀ w9, Out w9 w0.heap.size (.slice (some ⟨gg, 0, none⟩) L.length c) L → CellsA w9 (some ⟨gg, o1, none⟩) (u8V (L.drop n)) from fun w9 h => by
    by_cases hc : c = n
    · have ht : L.drop n = [] := List.drop_eq_nil_of_le (by omega)
      rw [ht]
      exact CellsA.nil _ _
    · rw [if_neg hc] at hO1
      have h3 := out_sub h n L.length
      rw [Nat.zero_add, hO1, List.take_of_length_le (by rw [List.length_drop]; omega), ← u8V_nat] at h3
      rw [hO1] at *
      exact h3)
  have hrl : (L.drop n).length = L.length - n := List.length_drop
  clear hns hO1
  have hen : ((e2 : Int) != 0) = true := by rw [bne_iff_ne]; omega
  go_enter Tryd.func20, Tryd.ntmps20
  refine wp_forget (n := 75) (L := [(0, .pointer (some ⟨X, 0, none⟩))]) (FrL.add (FrL.nil ?_ ?_) _ _ ?_) ?_
  iterate 3 rfl
  intro a9 F
  refine wp_seq ?_
  refine wp_region_lit ?_
  obtain ⟨i0, hi, hz0, hz1, hz2⟩ := info_parts infoPkR
  refine fr_alloc F HK 2 (by decide) rfl 27 rfl rfl i0 _ hi hz0 ?_
  rintro V a10 w10 hX F' HK' hb
  have hVw : w.heap.size ≤ V := by rw [HWV.out]; omega
  replace HO := own_only HO (Only.of_below hb (fun _ => False)) (fun _ _ h => h)
  replace HON := HON.then hb
  clear HK F hb hX hi hz0 hz1 hz2 i0 HWV
  clear a9 w9
  rename World => w9
  rename Act => a9
  have HK := HK'
  have F := F'
  clear HK' F'
  replace HK : Keep w0 ((V, (pkV Pk.zero none 0), 27) :: (X, (frV m (some ⟨gg, 0, none⟩) L.length c 0), 54) :: B) [] w9 := HK
  refine fr_ch F 2 [(4, .int .i64 0), (3, .bool false)] (by kernel_rfl) ?_
  clear F a9
  intro a9 F
  refine wpList_nil ?_
  show Code.wp _ _ _ _ _
  replace F := F.cut [(4, .int .i64 0), (3, .bool false), (2, .pointer (some ⟨V, 0, none⟩)), (0, .pointer (some ⟨X, 0, none⟩))] (by kernel_rfl)
  refine wp_seq ?_
  refine wp_block ?_
  refine wp_seq ?_
  refine wp_region_lit ?_
  refine fr_ch F 6 [(12, .pointer (some ⟨X, 0, none⟩)), (9, .bool false)] (by kernel_rfl) ?_
  clear F a9
  intro a9 F
  refine fr_do F (by rw [wanted_at F rfl (t := 9) (b := false) (by kernel_rfl) rfl]; rfl) 13 rfl (by decide) (.int .i64 (m : Int)) (by intro a' F'; have hc : w9.cell? ⟨X, 0, none⟩ = some (.int .i64 (m : Int)) := (HK.at 1 rfl).cells 0; have h12 := F'.at' 12 _ rfl; go_simp) ?_
  clear F a9
  intro a9 F
  refine fr_do F (by rw [wanted_at F rfl (t := 9) (b := false) (by kernel_rfl) rfl]; rfl) 14 rfl (by decide) (.bool false) (by intro a' F'; have h13 := F'.at' 13 _ rfl; go_simp <;> omega) ?_
  clear F a9
  intro a9 F
  refine fr_ch F 2 [(6, .bool false), (15, .bool false)] (by kernel_rfl) ?_
  clear F a9
  intro a9 F
  refine wpList_nil ?_
  show Code.wp _ _ _ _ _
  refine wp_cond_false (F.ev 6 rfl) ?_
  replace F := F.cut [(4, .int .i64 0), (3, .bool false), (2, .pointer (some ⟨V, 0, none⟩)), (0, .pointer (some ⟨X, 0, none⟩))] (by kernel_rfl)
  refine wp_seq ?_
  refine wp_region_lit ?_
  refine fr_ch F 3 [(20, .pointer (some ⟨X, 2, none⟩))] (by kernel_rfl) ?_
  clear F a9
  intro a9 F
  refine fr_do F (wanted_free rfl) 21 rfl (by decide) (.int .i64 (0 : Nat)) (by intro a' F'; have hc : w9.cell? ⟨X, 2, none⟩ = some (.int .i64 (0 : Nat)) := (HK.at 1 rfl).cells 2; have h20 := F'.at' 20 _ rfl; go_simp) ?_
  clear F a9
  intro a9 F
  refine fr_ch F 2 [(17, .bool false), (22, .bool false)] (by kernel_rfl) ?_
  clear F a9
  intro a9 F
  refine wpList_nil ?_
  show Code.wp _ _ _ _ _
  refine wp_cond_false (F.ev 17 rfl) ?_
  refine wp_skip ?_
  show Code.wp _ _ _ _ _
  replace F := F.cut [(4, .int .i64 0), (3, .bool false), (2, .pointer (some ⟨V, 0, none⟩)), (0, .pointer (some ⟨X, 0, none⟩))] (by kernel_rfl)
  refine wp_seq ?_
  refine wp_region_lit ?_
  refine fr_ch F 1 [(29, .pointer (some ⟨X, 0, none⟩))] (by kernel_rfl) ?_
  clear F a9
  intro a9 F
  refine fr_call F (wanted_free rfl) 30 rfl (by decide) 42 #[.pointer (some ⟨X, 0, none⟩)] (by intro a' F'; have h29 := F'.at' 29 _ rfl; go_simp) (HWH.out _ _ ⟨_, _, HK.swap, HO⟩) ?_
  rintro e9 w8 ⟨rfl, hb8⟩
  replace HON := HON.then hb8
  replace HK := HK.below hb8
  replace HO := own_only HO (Only.of_below hb8 (fun _ => False)) (fun _ _ h => h)
  clear hb8
  clear w9
  rename World => w9
  refine ⟨_, rfl, ?_⟩
  clear F a9
  intro a9 F
  refine fr_mv F (wanted_free rfl) 28 rfl (by decide) 30 rfl rfl ?_
  clear F a9
  intro a9 F
  refine fr_ch F 4 [(4, .int .i64 ((0 : Nat) : Int)), (5, .int .i64 (n : Int)), (32, .int .i64 ((0 : Nat) : Int)), (31, .int .i64 (n : Int))] (by kernel_rfl) ?_
  clear F a9
  intro a9 F
  refine wpList_nil ?_
  show Code.wp _ _ _ _ _
  replace F := F.cut [(5, .int .i64 (n : Int)), (4, .int .i64 ((0 : Nat) : Int)), (3, .bool false), (2, .pointer (some ⟨V, 0, none⟩)), (0, .pointer (some ⟨X, 0, none⟩))] (by kernel_rfl)
  refine wp_seq ?_
  refine wp_seq ?_
  refine wp_region_lit ?_
  refine fr_ch F 4 [(36, .int .i64 (n : Int)), (35, .bool true)] (by kernel_rfl) ?_
  clear F a9
  intro a9 F
  refine fr_do F (by rw [wanted_at F rfl (t := 35) (b := true) (by kernel_rfl) rfl]; rfl) 37 rfl (by decide) (.bool true) (by intro a' F'; have h36 := F'.at' 36 _ rfl; go_simp <;> omega) ?_
  clear F a9
  intro a9 F
  refine fr_ch F 1 [(38, .bool true)] (by kernel_rfl) ?_
  clear F a9
  intro a9 F
  refine wpList_nil ?_
  show Code.wp _ _ _ _ _
  refine wp_cond_true (F.ev 38 rfl) ?_
  replace F := F.cut [(5, .int .i64 (n : Int)), (4, .int .i64 ((0 : Nat) : Int)), (3, .bool false), (2, .pointer (some ⟨V, 0, none⟩)), (0, .pointer (some ⟨X, 0, none⟩))] (by kernel_rfl)
  refine wp_region_lit ?_
  refine fr_ch F 3 [(42, .pointer (some ⟨X, 1, none⟩))] (by kernel_rfl) ?_
  clear F a9
  intro a9 F
  refine fr_do F (wanted_free rfl) 43 rfl (by decide) (.slice (some ⟨gg, 0, none⟩) L.length c) (by intro a' F'; have hc : w9.cell? ⟨X, 1, none⟩ = some (.slice (some ⟨gg, 0, none⟩) L.length c) := (HK.at 1 rfl).cells 1; have h42 := F'.at' 42 _ rfl; go_simp) ?_
  clear F a9
  intro a9 F
  refine fr_mv F (wanted_free rfl) 44 rfl (by decide) 5 rfl rfl ?_
  clear F a9
  intro a9 F
  refine fr_do F (wanted_free rfl) 45 rfl (by decide) (.slice (some ⟨gg, 0, none⟩) n c) (by intro a' F'; have h43 := F'.at' 43 _ rfl; have h44 := F'.at' 44 _ rfl; go_simp <;> omega) ?_
  clear F a9
  intro a9 F
  refine fr_do F (wanted_free rfl) 46 rfl (by decide) (.string (bB (L.take n))) (fun a' F' => run_conv 52 9 _ rfl _ _ (F'.ev 45 rfl) (HNS.out w9 HO)) ?_
  clear F a9
  intro a9 F
  have HSZ : w.heap.size ≤ w9.heap.size := by have := HK.lt (x := (V, (pkV Pk.zero none 0), 27)) (by simp); simp only at this; omega
  refine fr_call F (wanted_free rfl) 47 rfl (by decide) 43 #[.string (bB (L.take n))] (by intro a' F'; have h46 := F'.at' 46 _ rfl; go_simp) (HDE.out _ HK.env) ?_
  rintro e9 w8 ⟨al, cap, rfl, hown, hb8⟩
  have HOP := own_base hown HSZ
  clear hown HSZ
  replace HON := HON.then hb8
  replace HK := HK.below hb8
  replace HO := own_only HO (Only.of_below hb8 (fun _ => False)) (fun _ _ h => h)
  clear hb8
  clear w9
  rename World => w9
  refine ⟨_, rfl, ?_⟩
  clear F a9
  intro a9 F
  refine fr_mv F (wanted_free rfl) 39 rfl (by decide) 47 rfl rfl ?_
  clear F a9
  intro a9 F
  refine fr_ch F 3 [(50, .int .i64 ((e2 : Nat) : Int)), (49, .int .i64 (n2 : Int)), (48, .agg (pkV p al cap))] (by kernel_rfl) ?_
  clear F a9
  intro a9 F
  refine fr_storeO F HK 0 rfl rfl rfl 27 (.tmp 2) (.tmp 48) rfl (pkV p al cap) (fun a' F' => F'.ev 2 rfl) (fun a' F' => F'.ev 48 rfl) infoPk rfl (pk_one _ _ _) ?_
  intro a10 w10 F' HK' HO2
  have HOn := own_only HO HO2 (fun g hg => BoxAt.ne_own (HK.at 0 rfl) HO (by decide) g hg)
  have HOPn := own_only HOP HO2 (fun g hg => BoxAt.ne_own (HK.at 0 rfl) HOP (by decide) g hg)
  have HONn := HON.above HO2 hVw
  clear HK F HON HO2 HO HOP
  have HO := HOn
  clear HOn
  have HOP := HOPn
  clear HOPn
  have HON := HONn
  clear HONn
  clear a9 w9
  rename World => w9
  rename Act => a9
  have HK := HK'
  have F := F'
  clear HK' F'
  replace HK : Keep w0 ((V, (pkV p al cap), 27) :: (X, (frV m (some ⟨gg, 0, none⟩) L.length c 0), 54) :: B) [] w9 := HK
  refine fr_as F (wanted_free rfl) 4 rfl (by decide) 50 rfl rfl ?_
  clear F a9
  intro a9 F
  refine wpList_nil ?_
  show Code.wp _ _ _ _ _
  replace F := F.cut [(5, .int .i64 (n : Int)), (4, .int .i64 ((e2 : Nat) : Int)), (3, .bool false), (2, .pointer (some ⟨V, 0, none⟩)), (0, .pointer (some ⟨X, 0, none⟩))] (by kernel_rfl)
  refine wp_seq ?_
  refine wp_seq ?_
  refine wp_region_lit ?_
  refine fr_ch F 1 [(51, .int .i64 ((e2 : Nat) : Int))] (by kernel_rfl) ?_
  clear F a9
  intro a9 F
  refine fr_do F (wanted_free rfl) 52 rfl (by decide) (.bool true) (by intro a' F'; have h51 := F'.at' 51 _ rfl; go_simp) ?_
  clear F a9
  intro a9 F
  refine wpList_nil ?_
  show Code.wp _ _ _ _ _
  refine wp_cond_true (F.ev 52 rfl) ?_
  clear HOP
  replace F := F.cut [(5, .int .i64 (n : Int)), (4, .int .i64 ((e2 : Nat) : Int)), (3, .bool false), (2, .pointer (some ⟨V, 0, none⟩)), (0, .pointer (some ⟨X, 0, none⟩))] (by kernel_rfl)
  refine wp_seq ?_
  refine wp_region_lit ?_
  refine fr_ch F 4 [(56, .pointer (some ⟨X, 2, none⟩)), (54, .int .i64 ((e2 : Nat) : Int))] (by kernel_rfl) ?_
  clear F a9
  intro a9 F
  refine fr_putO F HK 1 rfl rfl rfl 36 _ _ rfl 2 (.int .i64 ((e2 : Nat) : Int)) (fun a' F' => F'.ev 56 rfl) (fun a' F' => F'.ev 54 rfl) z_err (Nat.le_of_ble_eq_true (by kernel_rfl)) (by kernel_rfl) ?_
  intro a10 w10 F' HK' HO2
  have HOn := own_only HO HO2 (fun g hg => BoxAt.ne_own (HK.at 1 rfl) HO (by decide) g hg)
  have HONn := HON.trans (OnlyT.set (E := FrE) HO2 (HK.at 1 rfl) (Or.inr rfl))
  clear HK F HON HO2 HO
  have HO := HOn
  clear HOn
  have HON := HONn
  clear HONn
  clear a9 w9
  rename World => w9
  rename Act => a9
  have HK := HK'
  have F := F'
  clear HK' F'
  replace HK : Keep w0 ((V, (pkV p al cap), 27) :: (X, (frV m (some ⟨gg, 0, none⟩) L.length c e2), 54) :: B) [] w9 := HK
  refine wpList_nil ?_
  show Code.wp _ _ _ _ _
  replace F := F.cut [(5, .int .i64 (n : Int)), (4, .int .i64 ((e2 : Nat) : Int)), (3, .bool false), (2, .pointer (some ⟨V, 0, none⟩)), (0, .pointer (some ⟨X, 0, none⟩))] (by kernel_rfl)
  refine wp_seq ?_
  refine wp_region_lit ?_
  refine fr_ch F 3 [(59, .pointer (some ⟨X, 1, none⟩))] (by kernel_rfl) ?_
  clear F a9
  intro a9 F
  refine fr_putO F HK 1 rfl rfl rfl 52 _ _ rfl 1 (.slice none 0 0) (fun a' F' => F'.ev 59 rfl) (fun a' F' => rfl) z_bytes (Nat.le_of_ble_eq_true (by kernel_rfl)) (by kernel_rfl) ?_
  intro a10 w10 F' HK' HO2
  have HOn := own_only HO HO2 (fun g hg => BoxAt.ne_own (HK.at 1 rfl) HO (by decide) g hg)
  have HONn := HON.trans (OnlyT.set (E := FrE) HO2 (HK.at 1 rfl) (Or.inr rfl))
  clear HK F HON HO2 HO
  have HO := HOn
  clear HOn
  have HON := HONn
  clear HONn
  clear a9 w9
  rename World => w9
  rename Act => a9
  have HK := HK'
  have F := F'
  clear HK' F'
  replace HK : Keep w0 ((V, (pkV p al cap), 27) :: (X, (frV m none 0 0 e2), 54) :: B) [] w9 := HK
  refine wpList_nil ?_
  show Code.wp _ _ _ _ _
  replace F := F.cut [(5, .int .i64 (n : Int)), (4, .int .i64 ((e2 : Nat) : Int)), (3, .bool false), (2, .pointer (some ⟨V, 0, none⟩)), (0, .pointer (some ⟨X, 0, none⟩))] (by kernel_rfl)
  refine wp_seq ?_
  refine wp_region_lit ?_
  refine fr_ch F 2 [(61, .int .i64 ((e2 : Nat) : Int)), (60, .agg (pkV Pk.zero none 0))] (by kernel_rfl) ?_
  clear F a9
  intro a9 F
  refine fr_storeO F HK 0 rfl rfl rfl 27 (.tmp 2) (.tmp 60) rfl (pkV Pk.zero none 0) (fun a' F' => F'.ev 2 rfl) (fun a' F' => F'.ev 60 rfl) infoPk rfl (pk_one _ _ _) ?_
  intro a10 w10 F' HK' HO2
  have HOn := own_only HO HO2 (fun g hg => BoxAt.ne_own (HK.at 0 rfl) HO (by decide) g hg)
  have HONn := HON.above HO2 hVw
  clear HK F HON HO2 HO
  have HO := HOn
  clear HOn
  have HON := HONn
  clear HONn
  clear a9 w9
  rename World => w9
  rename Act => a9
  have HK := HK'
  have F := F'
  clear HK' F'
  replace HK : Keep w0 ((V, (pkV Pk.zero none 0), 27) :: (X, (frV m none 0 0 e2), 54) :: B) [] w9 := HK
  refine fr_ch F 1 [(3, .bool false)] (by kernel_rfl) ?_
  clear F a9
  intro a9 F
  refine fr_as F (wanted_free rfl) 4 rfl (by decide) 61 rfl rfl ?_
  clear F a9
  intro a9 F
  refine wpList_nil ?_
  show Code.wp _ _ _ _ _
  refine wp_ret ?_
  exact fr_ret3 F rfl rfl (HK.at 0 rfl) Tryd.underlying27 rfl infoPk _ _ rfl rfl (FIN.out _ none 0 (World.ownsRow_nil _ _ _ _) ⟨none, 0, (HK.swap.sub (List.cons_sublist_cons.2 (List.sublist_cons_self _ _)) (fun r hr => hr)), out_nil _ _⟩ HON)
theorem frame_Next {w0 w : World} {B : List Box} {X m : Nat} {L : Bs} {e : Nat} (h : FrC w0 B X m L e w) (hm : 0 < m) (hL : L.length ≤ 90000000) (hB : ∀ x ∈ B, x.2.2 ≠ 5) : Calls Tryd.prog 20 #[.pointer (some ⟨X, 0, none⟩)] w (RetNx w0 B X m (nxR m L e) w) := by
  by_cases he : e = 0
  · subst he
    rcases hw : wholeR m L with ⟨n, e1⟩
    by_cases he1 : e1 = 0
    · subst he1
      by_cases hn : n = 0
      · subst hn
        exact next_wait h hm hL hB hw
      · rcases hd : decR (L.take n) with ⟨p, n2, e2⟩
        by_cases he2 : e2 = 0
        · subst he2
          exact next_told h hm hL hB n hn hw p n2 hd
        · exact next_form h hm hL hB n hn hw p n2 e2 he2 hd
    · have hn : n = 0 := by
        apply Classical.byContradiction
        intro hn
        have := (whole_le (m := m) (L := L)).2 (by rw [hw]; exact hn)
        rw [hw] at this
        exact he1 this.2.1
      subst hn
      exact next_fail h hm hL hB e1 he1 hw
  · exact next_stuck e he h hm hL hB
end Go.Proofs.YtfljdlaelanliaaDoor
