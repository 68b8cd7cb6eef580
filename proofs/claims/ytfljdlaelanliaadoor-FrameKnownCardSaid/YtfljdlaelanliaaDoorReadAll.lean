/- The walk of all that the rest reads (package read). Conditions: the rest's cells lie in a block of the caller's own; a machine's bound on the text's size; the decoder's tables lie as Go lays them. -/
import Derived.Test.YtfljdlaelanliaaDoorReadLists
namespace Go.Proofs.YtfljdlaelanliaaDoor
open Go.RowKit
theorem allR_lists (ty fl : Nat) (c : Cur) (h : ty ≠ 1 ∧ ty ≠ 2 ∧ ty ≠ 3 ∧ ty ≠ 12 ∧ ty ≠ 13 ∧ ty ≠ 14) : allR ty fl c = tailR ty (wordR c).1 (wordR c).2 := by
  obtain ⟨h1, h2, h3, h4, h5, h6⟩ := h
  unfold allR tailR
  rw [if_neg h1, if_neg h2, if_neg h3, if_neg (by omega)]
set_option maxRecDepth 100000 in
set_option maxHeartbeats 4000000 in
theorem all_con {w0 w : World} {X : Nat} {T : TypeId} {B : List Box} (ty fl : Nat) (_hfl : fl < 256) (c0 : Cur) (hc : c0.1.length ≤ 90000000) (HK0 : Keep w0 ((X, curC c0 (pkV { Pk.zero with ty := ty } none 0).toList, T) :: B) [] w) (hty : ty = 1) :
    Calls Tryd.prog 67 #[.pointer (some ⟨X, 0, none⟩), .int .u8 (fl : Int)] w fun e w' => e = .returned (.tuple #[]) ∧ ∃ (al : Option Addr) (cap : Nat), Keep w0 ((X, curC (allR ty fl c0).2 (pkV (allR ty fl c0).1 al cap).toList, T) :: B) [] w' ∧ w'.ownsRow w0.heap.size 31 2 (.slice al (allR ty fl c0).1.subs.length cap) (allR ty fl c0).1.subs.length (subCells (allR ty fl c0).1.subs) := by
  obtain ⟨KE, hKE⟩ : ∃ KE : World → Prop, KE = fun w' => ∃ (al : Option Addr) (cap : Nat), Keep w0 ((X, curC (allR ty fl c0).2 (pkV (allR ty fl c0).1 al cap).toList, T) :: B) [] w' ∧ w'.ownsRow w0.heap.size 31 2 (.slice al (allR ty fl c0).1.subs.length cap) (allR ty fl c0).1.subs.length (subCells (allR ty fl c0).1.subs) := ⟨_, rfl⟩
  have HEND := Lib.hid (show ∀ w', KE w' → ∃ (al : Option Addr) (cap : Nat), Keep w0 ((X, curC (allR ty fl c0).2 (pkV (allR ty fl c0).1 al cap).toList, T) :: B) [] w' ∧ w'.ownsRow w0.heap.size 31 2 (.slice al (allR ty fl c0).1.subs.length cap) (allR ty fl c0).1.subs.length (subCells (allR ty fl c0).1.subs) from fun w' h => by rw [hKE] at h; exact h)
  subst hty
  have HX := Lib.hid (show ∀ w', Keep w0 ((X, curC (conR c0).2 (pkV (conR c0).1 none 0).toList, T) :: B) [] w' → KE w' from fun w' h => by
    rw [hKE]
    exact ⟨none, 0, h, World.ownsRow_nil _ _ _ _⟩)
  obtain ⟨L0, k0⟩ := c0
  have HK := HK0
  clear HK0 hKE
  go_enter Tryd.func67, Tryd.ntmps67
  refine wp_forget (n := 114) (L := [(1, .int .u8 (fl : Int)), (0, .pointer (some ⟨X, 0, none⟩))]) (FrL.add (FrL.add (FrL.nil ?_ ?_) _ _ ?_) _ _ ?_) ?_
  iterate 4 rfl
  intro a9 F
  rename World => w9
  refine wp_seq ?_
  refine wp_region_lit ?_
  refine fr_ch F 4 [(8, .pointer (some ⟨X, 2, none⟩))] (by kernel_rfl) ?_
  clear F a9
  intro a9 F
  have hc : w9.cell? ⟨X, 2, none⟩ = some (.int .u8 (1 : Int)) := (HK.at 0 rfl).cells 2
  refine fr_do F (wanted_free rfl) 9 rfl (by decide) (.int .u8 (1 : Int)) (by intro a' F'; have h8 := F'.at' 8 _ rfl; go_simp) ?_
  clear F a9
  intro a9 F
  clear hc
  refine wpList_nil ?_
  show Code.wp _ _ _ _ _
  replace F := F.keep [0, 1, 9]
  replace F : FrL 114 [(9, .int .u8 (1 : Int)), (1, .int .u8 (fl : Int)), (0, .pointer (some ⟨X, 0, none⟩))] a9 := F
  refine wp_block_end (fun a' w' => FrL 114 [] a' ∧ KE w') ?_ ?_
  rotate_left
  · rintro a' w' ⟨F', HE⟩
    exact bodyPost_end (results_void rfl _ _) F'.defers ⟨rfl, HEND.out _ HE⟩
  refine wp_seq ?_
  refine wp_region_lit ?_
  refine fr_ch F 2 [(20, .bool true), (21, .bool true)] (by kernel_rfl) ?_
  clear F a9
  intro a9 F
  refine wpList_nil ?_
  show Code.wp _ _ _ _ _
  refine wp_cond_true (F.ev 20 rfl) ?_
  replace F := F.keep [0]
  replace F : FrL 114 [(0, .pointer (some ⟨X, 0, none⟩))] a9 := F
  refine wp_region_lit ?_
  refine fr_ch F 1 [(22, .pointer (some ⟨X, 0, none⟩))] (by kernel_rfl) ?_
  clear F a9
  intro a9 F
  refine fr_call F (wanted_free rfl) 23 rfl (by decide) 86 #[.pointer (some ⟨X, 0, none⟩)] (by intro a' F'; have h22 := F'.at' 22 _ rfl; go_simp) (rest_connect (L0, k0) hc HK) ?_
  clear HK
  rintro e w8 ⟨rfl, HK⟩
  clear w9
  rename World => w9
  refine ⟨_, rfl, ?_⟩
  clear F a9
  intro a9 F
  refine wpList_nil ?_
  exact ⟨F.keep [], HX.out _ HK⟩
set_option maxRecDepth 100000 in
set_option maxHeartbeats 4000000 in
theorem all_ack {w0 w : World} {X : Nat} {T : TypeId} {B : List Box} (ty fl : Nat) (_hfl : fl < 256) (c0 : Cur) (hc : c0.1.length ≤ 90000000) (HK0 : Keep w0 ((X, curC c0 (pkV { Pk.zero with ty := ty } none 0).toList, T) :: B) [] w) (hty : ty = 2) :
    Calls Tryd.prog 67 #[.pointer (some ⟨X, 0, none⟩), .int .u8 (fl : Int)] w fun e w' => e = .returned (.tuple #[]) ∧ ∃ (al : Option Addr) (cap : Nat), Keep w0 ((X, curC (allR ty fl c0).2 (pkV (allR ty fl c0).1 al cap).toList, T) :: B) [] w' ∧ w'.ownsRow w0.heap.size 31 2 (.slice al (allR ty fl c0).1.subs.length cap) (allR ty fl c0).1.subs.length (subCells (allR ty fl c0).1.subs) := by
  obtain ⟨KE, hKE⟩ : ∃ KE : World → Prop, KE = fun w' => ∃ (al : Option Addr) (cap : Nat), Keep w0 ((X, curC (allR ty fl c0).2 (pkV (allR ty fl c0).1 al cap).toList, T) :: B) [] w' ∧ w'.ownsRow w0.heap.size 31 2 (.slice al (allR ty fl c0).1.subs.length cap) (allR ty fl c0).1.subs.length (subCells (allR ty fl c0).1.subs) := ⟨_, rfl⟩
  have HEND := Lib.hid (show ∀ w', KE w' → ∃ (al : Option Addr) (cap : Nat), Keep w0 ((X, curC (allR ty fl c0).2 (pkV (allR ty fl c0).1 al cap).toList, T) :: B) [] w' ∧ w'.ownsRow w0.heap.size 31 2 (.slice al (allR ty fl c0).1.subs.length cap) (allR ty fl c0).1.subs.length (subCells (allR ty fl c0).1.subs) from fun w' h => by rw [hKE] at h; exact h)
  subst hty
  rcases ha : oneR c0 with ⟨a, L1, k1⟩
  rcases hb : oneR (L1, k1 || decide (1 < a)) with ⟨b, L2, k2⟩
  have HA := Lib.hid (show ∀ w C, Keep w0 ((X, curC c0 C, T) :: B) [] w → Calls Tryd.prog 87 #[.pointer (some ⟨X, 0, none⟩)] w (RetC w0 w X C T B [] (.int .u8 (a : Int)) (L1, k1)) from fun w C h => by
    have h2 := cur_one c0 h
    rw [ha] at h2
    exact h2)
  have HBB := Lib.hid (show ∀ w C, Keep w0 ((X, curC (L1, k1 || decide (1 < a)) C, T) :: B) [] w → Calls Tryd.prog 87 #[.pointer (some ⟨X, 0, none⟩)] w (RetC w0 w X C T B [] (.int .u8 (b : Int)) (L2, k2)) from fun w C h => by
    have h2 := cur_one (L1, k1 || decide (1 < a)) h
    rw [hb] at h2
    exact h2)
  have HX := Lib.hid (show ∀ w', Keep w0 ((X, curC (L2, k2) (pkV { Pk.zero with ty := 2, present := decide (a = 1), code := b } none 0).toList, T) :: B) [] w' → KE w' from fun w' h => by
    rw [hKE]
    have e : allR 2 fl c0 = ({ Pk.zero with ty := 2, present := decide (a = 1), code := b }, (L2, k2)) := by
      unfold allR
      rw [if_neg (by decide), if_pos rfl]
      simp only [ha, hb]
    rw [e]
    exact ⟨none, 0, h, World.ownsRow_nil _ _ _ _⟩)
  clear ha hb
  obtain ⟨L0, k0⟩ := c0
  have HK := HK0
  clear HK0 hKE
  go_enter Tryd.func67, Tryd.ntmps67
  refine wp_forget (n := 114) (L := [(1, .int .u8 (fl : Int)), (0, .pointer (some ⟨X, 0, none⟩))]) (FrL.add (FrL.add (FrL.nil ?_ ?_) _ _ ?_) _ _ ?_) ?_
  iterate 4 rfl
  intro a9 F
  rename World => w9
  refine wp_seq ?_
  refine wp_region_lit ?_
  refine fr_ch F 4 [(8, .pointer (some ⟨X, 2, none⟩))] (by kernel_rfl) ?_
  clear F a9
  intro a9 F
  have hc : w9.cell? ⟨X, 2, none⟩ = some (.int .u8 (2 : Int)) := (HK.at 0 rfl).cells 2
  refine fr_do F (wanted_free rfl) 9 rfl (by decide) (.int .u8 (2 : Int)) (by intro a' F'; have h8 := F'.at' 8 _ rfl; go_simp) ?_
  clear F a9
  intro a9 F
  clear hc
  refine wpList_nil ?_
  show Code.wp _ _ _ _ _
  replace F := F.keep [0, 1, 9]
  replace F : FrL 114 [(9, .int .u8 (2 : Int)), (1, .int .u8 (fl : Int)), (0, .pointer (some ⟨X, 0, none⟩))] a9 := F
  refine wp_block_end (fun a' w' => FrL 114 [] a' ∧ KE w') ?_ ?_
  rotate_left
  · rintro a' w' ⟨F', HE⟩
    exact bodyPost_end (results_void rfl _ _) F'.defers ⟨rfl, HEND.out _ HE⟩
  refine wp_seq ?_
  refine wp_region_lit ?_
  refine fr_ch F 2 [(20, .bool false), (21, .bool false)] (by kernel_rfl) ?_
  clear F a9
  intro a9 F
  refine wpList_nil ?_
  show Code.wp _ _ _ _ _
  refine wp_cond_false (F.ev 20 rfl) ?_
  refine wp_seq ?_
  refine wp_region_lit ?_
  refine fr_ch F 2 [(24, .bool true), (25, .bool true)] (by kernel_rfl) ?_
  clear F a9
  intro a9 F
  refine wpList_nil ?_
  show Code.wp _ _ _ _ _
  refine wp_cond_true (F.ev 24 rfl) ?_
  replace F := F.keep [0]
  replace F : FrL 114 [(0, .pointer (some ⟨X, 0, none⟩))] a9 := F
  refine wp_seq ?_
  refine wp_region_lit ?_
  refine fr_ch F 3 [(28, .pointer (some ⟨X, 0, none⟩)), (27, .pointer (some ⟨X, 0, none⟩)), (26, .pointer (some ⟨X, 0, none⟩))] (by kernel_rfl) ?_
  clear F a9
  intro a9 F
  refine fr_call F (wanted_free rfl) 29 rfl (by decide) 87 #[.pointer (some ⟨X, 0, none⟩)] (by intro a' F'; have h28 := F'.at' 28 _ rfl; go_simp) (HA.out _ _ HK) ?_
  clear HK
  rintro e w8 ⟨rfl, HK, HO⟩
  clear HO
  clear w9
  rename World => w9
  refine ⟨_, rfl, ?_⟩
  clear F a9
  intro a9 F
  refine fr_ch F 1 [(4, .int .u8 (a : Int))] (by kernel_rfl) ?_
  clear F a9
  intro a9 F
  refine wpList_nil ?_
  show Code.wp _ _ _ _ _
  replace F := F.keep [0, 4]
  replace F : FrL 114 [(4, .int .u8 (a : Int)), (0, .pointer (some ⟨X, 0, none⟩))] a9 := F
  refine wp_seq_meet (fun a' w' => FrL 114 [(4, .int .u8 (a : Int)), (0, .pointer (some ⟨X, 0, none⟩))] a' ∧ Keep w0 ((X, curC (L1, k1 || decide (1 < a)) (pkV { Pk.zero with ty := 2 } none 0).toList, T) :: B) [] w') ?_ ?_
  · obtain ⟨v, hv⟩ : ∃ v, k1 = v := ⟨_, rfl⟩
    have HV := Lib.hid hv
    rw [hv] at HK
    clear hv
    cases v
    · skip
      refine wp_region_lit ?_
      refine fr_ch F 5 [(34, .pointer (some ⟨X, 1, none⟩)), (33, .pointer (some ⟨X, 0, none⟩)), (32, .pointer (some ⟨X, 0, none⟩)), (31, .pointer (some ⟨X, 0, none⟩)), (30, .pointer (some ⟨X, 0, none⟩))] (by kernel_rfl) ?_
      clear F a9
      intro a9 F
      have hc : w9.cell? ⟨X, 1, none⟩ = some (.bool false) := (HK.at 0 rfl).cells 1
      refine fr_do F (wanted_free rfl) 35 rfl (by decide) (.bool false) (by intro a' F'; have h34 := F'.at' 34 _ rfl; go_simp) ?_
      clear F a9
      intro a9 F
      clear hc
      refine fr_ch F 2 [(37, .int .u8 (a : Int)), (36, .bool false)] (by kernel_rfl) ?_
      clear F a9
      intro a9 F
      refine fr_do F (by rw [wanted_at F rfl (t := 36) (b := false) (by kernel_rfl) rfl]; rfl) 38 rfl (by decide) (.bool (decide (1 < a))) (by intro a' F'; have h37 := F'.at' 37 _ rfl; go_simp <;> omega) ?_
      clear F a9
      intro a9 F
      refine fr_ch F 4 [(42, .pointer (some ⟨X, 1, none⟩)), (41, .pointer (some ⟨X, 0, none⟩)), (40, .pointer (some ⟨X, 0, none⟩)), (39, .bool (decide (1 < a)))] (by kernel_rfl) ?_
      clear F a9
      intro a9 F
      refine fr_put F HK 0 rfl rfl rfl 4 _ _ rfl 1 (.bool (decide (1 < a))) (fun a' F' => F'.ev 42 rfl) (fun a' F' => F'.ev 39 rfl) z_bool (Nat.le_of_ble_eq_true (by kernel_rfl)) (by kernel_rfl) ?_
      clear F HK a9 w9
      intro a9 w9 F HK
      replace HK : Keep w0 ((X, curC (L1, (decide (1 < a))) (pkV { Pk.zero with ty := 2 } none 0).toList, T) :: B) [] w9 := HK
      refine wpList_nil ?_
      refine ⟨F.keep [0, 4], ?_⟩
      rw [HV.out]
      exact HK
    · skip
      refine wp_region_lit ?_
      refine fr_ch F 5 [(34, .pointer (some ⟨X, 1, none⟩)), (33, .pointer (some ⟨X, 0, none⟩)), (32, .pointer (some ⟨X, 0, none⟩)), (31, .pointer (some ⟨X, 0, none⟩)), (30, .pointer (some ⟨X, 0, none⟩))] (by kernel_rfl) ?_
      clear F a9
      intro a9 F
      have hc : w9.cell? ⟨X, 1, none⟩ = some (.bool true) := (HK.at 0 rfl).cells 1
      refine fr_do F (wanted_free rfl) 35 rfl (by decide) (.bool true) (by intro a' F'; have h34 := F'.at' 34 _ rfl; go_simp) ?_
      clear F a9
      intro a9 F
      clear hc
      refine fr_ch F 7 [(42, .pointer (some ⟨X, 1, none⟩)), (41, .pointer (some ⟨X, 0, none⟩)), (40, .pointer (some ⟨X, 0, none⟩)), (39, .bool true), (38, undef), (37, undef), (36, .bool true)] (by kernel_rfl) ?_
      clear F a9
      intro a9 F
      refine fr_put F HK 0 rfl rfl rfl 4 _ _ rfl 1 (.bool true) (fun a' F' => F'.ev 42 rfl) (fun a' F' => F'.ev 39 rfl) z_bool (Nat.le_of_ble_eq_true (by kernel_rfl)) (by kernel_rfl) ?_
      clear F HK a9 w9
      intro a9 w9 F HK
      replace HK : Keep w0 ((X, curC (L1, true) (pkV { Pk.zero with ty := 2 } none 0).toList, T) :: B) [] w9 := HK
      refine wpList_nil ?_
      refine ⟨F.keep [0, 4], ?_⟩
      rw [HV.out]
      exact HK
  clear HK F a9 w9
  rintro a9 w9 ⟨F, HK⟩
  replace F : FrL 114 [(4, .int .u8 (a : Int)), (0, .pointer (some ⟨X, 0, none⟩))] a9 := F
  refine wp_seq ?_
  refine wp_region_lit ?_
  refine fr_ch F 2 [(44, .int .u8 (a : Int)), (43, .pointer (some ⟨X, 0, none⟩))] (by kernel_rfl) ?_
  clear F a9
  intro a9 F
  refine fr_do F (wanted_free rfl) 45 rfl (by decide) (.bool (decide (a = 1))) (by intro a' F'; have h44 := F'.at' 44 _ rfl; go_simp <;> (rw [Bool.eq_iff_iff]; simp; omega)) ?_
  clear F a9
  intro a9 F
  refine fr_ch F 3 [(48, .pointer (some ⟨X, 22, none⟩)), (47, .pointer (some ⟨X, 2, none⟩)), (46, .pointer (some ⟨X, 0, none⟩))] (by kernel_rfl) ?_
  clear F a9
  intro a9 F
  refine fr_put F HK 0 rfl rfl rfl 4 _ _ rfl 22 (.bool (decide (a = 1))) (fun a' F' => F'.ev 48 rfl) (fun a' F' => F'.ev 45 rfl) z_bool (Nat.le_of_ble_eq_true (by kernel_rfl)) (by kernel_rfl) ?_
  clear F HK a9 w9
  intro a9 w9 F HK
  replace HK : Keep w0 ((X, curC (L1, k1 || decide (1 < a)) (pkV { Pk.zero with ty := 2, present := (decide (a = 1)) } none 0).toList, T) :: B) [] w9 := HK
  refine wpList_nil ?_
  show Code.wp _ _ _ _ _
  replace F := F.keep [0]
  replace F : FrL 114 [(0, .pointer (some ⟨X, 0, none⟩))] a9 := F
  refine wp_region_lit ?_
  refine fr_ch F 4 [(52, .pointer (some ⟨X, 0, none⟩)), (51, .pointer (some ⟨X, 0, none⟩)), (50, .pointer (some ⟨X, 0, none⟩)), (49, .pointer (some ⟨X, 0, none⟩))] (by kernel_rfl) ?_
  clear F a9
  intro a9 F
  refine fr_call F (wanted_free rfl) 53 rfl (by decide) 87 #[.pointer (some ⟨X, 0, none⟩)] (by intro a' F'; have h52 := F'.at' 52 _ rfl; go_simp) (HBB.out _ _ HK) ?_
  clear HK
  rintro e w8 ⟨rfl, HK, HO⟩
  clear HO
  clear w9
  rename World => w9
  refine ⟨_, rfl, ?_⟩
  clear F a9
  intro a9 F
  refine fr_ch F 3 [(56, .pointer (some ⟨X, 23, none⟩)), (55, .pointer (some ⟨X, 2, none⟩)), (54, .pointer (some ⟨X, 0, none⟩))] (by kernel_rfl) ?_
  clear F a9
  intro a9 F
  refine fr_put F HK 0 rfl rfl rfl 5 _ _ rfl 23 (.int .u8 (b : Int)) (fun a' F' => F'.ev 56 rfl) (fun a' F' => F'.ev 53 rfl) z_u8 (Nat.le_of_ble_eq_true (by kernel_rfl)) (by kernel_rfl) ?_
  clear F HK a9 w9
  intro a9 w9 F HK
  replace HK : Keep w0 ((X, curC (L2, k2) (pkV { Pk.zero with ty := 2, present := (decide (a = 1)), code := b } none 0).toList, T) :: B) [] w9 := HK
  refine wpList_nil ?_
  exact ⟨F.keep [], HX.out _ HK⟩
set_option maxRecDepth 100000 in
set_option maxHeartbeats 4000000 in
theorem all_pub {w0 w : World} {X : Nat} {T : TypeId} {B : List Box} (ty fl : Nat) (hfl : fl < 256) (c0 : Cur) (hc : c0.1.length ≤ 90000000) (HK0 : Keep w0 ((X, curC c0 (pkV { Pk.zero with ty := ty } none 0).toList, T) :: B) [] w) (hty : ty = 3) :
    Calls Tryd.prog 67 #[.pointer (some ⟨X, 0, none⟩), .int .u8 (fl : Int)] w fun e w' => e = .returned (.tuple #[]) ∧ ∃ (al : Option Addr) (cap : Nat), Keep w0 ((X, curC (allR ty fl c0).2 (pkV (allR ty fl c0).1 al cap).toList, T) :: B) [] w' ∧ w'.ownsRow w0.heap.size 31 2 (.slice al (allR ty fl c0).1.subs.length cap) (allR ty fl c0).1.subs.length (subCells (allR ty fl c0).1.subs) := by
  obtain ⟨KE, hKE⟩ : ∃ KE : World → Prop, KE = fun w' => ∃ (al : Option Addr) (cap : Nat), Keep w0 ((X, curC (allR ty fl c0).2 (pkV (allR ty fl c0).1 al cap).toList, T) :: B) [] w' ∧ w'.ownsRow w0.heap.size 31 2 (.slice al (allR ty fl c0).1.subs.length cap) (allR ty fl c0).1.subs.length (subCells (allR ty fl c0).1.subs) := ⟨_, rfl⟩
  have HEND := Lib.hid (show ∀ w', KE w' → ∃ (al : Option Addr) (cap : Nat), Keep w0 ((X, curC (allR ty fl c0).2 (pkV (allR ty fl c0).1 al cap).toList, T) :: B) [] w' ∧ w'.ownsRow w0.heap.size 31 2 (.slice al (allR ty fl c0).1.subs.length cap) (allR ty fl c0).1.subs.length (subCells (allR ty fl c0).1.subs) from fun w' h => by rw [hKE] at h; exact h)
  subst hty
  rcases ht : textR c0 with ⟨t, L1, k1⟩
  have l1 := text_len c0
  rw [ht] at l1
  rcases hi : (if 0 < fl / 2 % 4 then wordR (L1, k1) else (0, (L1, k1))) with ⟨i, L2, k2⟩
  have HT := Lib.hid (show ∀ w C, Keep w0 ((X, curC c0 C, T) :: B) [] w → Calls Tryd.prog 88 #[.pointer (some ⟨X, 0, none⟩)] w (RetC w0 w X C T B [] (.string t) (L1, k1)) from fun w C h => by
    have h2 := cur_text c0 (by omega) h
    rw [ht] at h2
    exact h2)
  have HI := Lib.hid (show 0 < fl / 2 % 4 → ∀ w C, Keep w0 ((X, curC (L1, k1) C, T) :: B) [] w → Calls Tryd.prog 89 #[.pointer (some ⟨X, 0, none⟩)] w (RetC w0 w X C T B [] (.int .u16 (i : Int)) (L2, k2)) from fun hif w C h => by
    have h2 := cur_word (L1, k1) (by simp only at l1 ⊢; omega) h
    rw [if_pos hif] at hi
    rw [hi] at h2
    exact h2)
  have HN := Lib.hid (show ¬ 0 < fl / 2 % 4 → i = 0 ∧ (L2, k2) = (L1, k1) from fun h => by
    rw [if_neg h] at hi
    cases hi
    exact ⟨rfl, rfl⟩)
  have HEE := Lib.hid (show ∀ w C, Keep w0 ((X, curC (L2, k2) C, T) :: B) [] w → Calls Tryd.prog 90 #[.pointer (some ⟨X, 0, none⟩)] w (RetC w0 w X C T B [] (.string (baB L2)) ([], k2)) from fun w C h => cur_end (L2, k2) h)
  have HX := Lib.hid (show ∀ w', Keep w0 ((X, curC ([], k2) (pkV { Pk.zero with ty := 3, dup := decide (fl / 8 % 2 = 1), qos := fl / 2 % 4, ret := decide (fl % 2 = 1), topic := t, id := i, payload := baB L2 } none 0).toList, T) :: B) [] w' → KE w' from fun w' h => by
    rw [hKE]
    have e : allR 3 fl c0 = ({ Pk.zero with ty := 3, dup := decide (fl / 8 % 2 = 1), qos := fl / 2 % 4, ret := decide (fl % 2 = 1), topic := t, id := i, payload := baB L2 }, ([], k2)) := by
      unfold allR
      rw [if_neg (by decide), if_neg (by decide), if_pos rfl]
      simp only [ht, hi]
    rw [e]
    exact ⟨none, 0, h, World.ownsRow_nil _ _ _ _⟩)
  have HB := Lib.hid (bit_facts fl hfl)
  have HQ := Lib.hid (and3_shr1 fl hfl)
  clear ht hi l1
  obtain ⟨L0, k0⟩ := c0
  have HK := HK0
  clear HK0 hKE
  go_enter Tryd.func67, Tryd.ntmps67
  refine wp_forget (n := 114) (L := [(1, .int .u8 (fl : Int)), (0, .pointer (some ⟨X, 0, none⟩))]) (FrL.add (FrL.add (FrL.nil ?_ ?_) _ _ ?_) _ _ ?_) ?_
  iterate 4 rfl
  intro a9 F
  rename World => w9
  refine wp_seq ?_
  refine wp_region_lit ?_
  refine fr_ch F 4 [(8, .pointer (some ⟨X, 2, none⟩)), (7, .pointer (some ⟨X, 2, none⟩)), (6, .pointer (some ⟨X, 0, none⟩)), (5, .pointer (some ⟨X, 0, none⟩))] (by kernel_rfl) ?_
  clear F a9
  intro a9 F
  have hc : w9.cell? ⟨X, 2, none⟩ = some (.int .u8 (3 : Int)) := (HK.at 0 rfl).cells 2
  refine fr_do F (wanted_free rfl) 9 rfl (by decide) (.int .u8 (3 : Int)) (by intro a' F'; have h8 := F'.at' 8 _ rfl; go_simp) ?_
  clear F a9
  intro a9 F
  clear hc
  refine wpList_nil ?_
  show Code.wp _ _ _ _ _
  replace F := F.keep [0, 1, 9]
  replace F : FrL 114 [(9, .int .u8 (3 : Int)), (1, .int .u8 (fl : Int)), (0, .pointer (some ⟨X, 0, none⟩))] a9 := F
  refine wp_block_end (fun a' w' => FrL 114 [] a' ∧ KE w') ?_ ?_
  rotate_left
  · rintro a' w' ⟨F', HE⟩
    exact bodyPost_end (results_void rfl _ _) F'.defers ⟨rfl, HEND.out _ HE⟩
  refine wp_seq ?_
  refine wp_region_lit ?_
  refine fr_ch F 2 [(20, .bool false), (21, .bool false)] (by kernel_rfl) ?_
  clear F a9
  intro a9 F
  refine wpList_nil ?_
  show Code.wp _ _ _ _ _
  refine wp_cond_false (F.ev 20 rfl) ?_
  refine wp_seq ?_
  refine wp_region_lit ?_
  refine fr_ch F 2 [(24, .bool false), (25, .bool false)] (by kernel_rfl) ?_
  clear F a9
  intro a9 F
  refine wpList_nil ?_
  show Code.wp _ _ _ _ _
  refine wp_cond_false (F.ev 24 rfl) ?_
  refine wp_seq ?_
  refine wp_region_lit ?_
  refine fr_ch F 2 [(57, .bool true), (58, .bool true)] (by kernel_rfl) ?_
  clear F a9
  intro a9 F
  refine wpList_nil ?_
  show Code.wp _ _ _ _ _
  refine wp_cond_true (F.ev 57 rfl) ?_
  replace F := F.keep [0, 1]
  replace F : FrL 114 [(1, .int .u8 (fl : Int)), (0, .pointer (some ⟨X, 0, none⟩))] a9 := F
  refine wp_seq ?_
  refine wp_region_lit ?_
  refine fr_ch F 4 [(62, .int .u8 (fl : Int)), (61, .pointer (some ⟨X, 0, none⟩)), (60, .pointer (some ⟨X, 0, none⟩)), (59, .pointer (some ⟨X, 0, none⟩))] (by kernel_rfl) ?_
  clear F a9
  intro a9 F
  refine fr_do F (wanted_free rfl) 63 rfl (by decide) (.int .u8 ((bitM 8 fl : Nat) : Int)) (by intro a' F'; have h62 := F'.at' 62 _ rfl; have hq := (HB.out 8 (by simp)).1; go_simp <;> exact hq) ?_
  clear F a9
  intro a9 F
  refine fr_do F (wanted_free rfl) 64 rfl (by decide) (.bool (decide (fl / 8 % 2 = 1))) (by intro a' F'; have h63 := F'.at' 63 _ rfl; have hq := (HB.out 8 (by simp)).2; go_simp) ?_
  clear F a9
  intro a9 F
  refine fr_ch F 1 [(65, .int .u8 (fl : Int))] (by kernel_rfl) ?_
  clear F a9
  intro a9 F
  refine fr_do F (wanted_free rfl) 66 rfl (by decide) (.int .u8 ((fl : Int) / 2)) (by intro a' F'; have h65 := F'.at' 65 _ rfl; go_simp) ?_
  clear F a9
  intro a9 F
  refine fr_do F (wanted_free rfl) 67 rfl (by decide) (.int .u8 ((fl / 2 % 4 : Nat) : Int)) (by intro a' F'; have h66 := F'.at' 66 _ rfl; have hq := HQ.out; go_simp) ?_
  clear F a9
  intro a9 F
  refine fr_ch F 1 [(68, .int .u8 (fl : Int))] (by kernel_rfl) ?_
  clear F a9
  intro a9 F
  refine fr_do F (wanted_free rfl) 69 rfl (by decide) (.int .u8 ((bitM 1 fl : Nat) : Int)) (by intro a' F'; have h68 := F'.at' 68 _ rfl; have hq := (HB.out 1 (by simp)).1; go_simp <;> exact hq) ?_
  clear F a9
  intro a9 F
  refine fr_do F (wanted_free rfl) 70 rfl (by decide) (.bool (decide (fl % 2 = 1))) (by intro a' F'; have h69 := F'.at' 69 _ rfl; have hq := (HB.out 1 (by simp)).2; rw [Nat.div_one] at hq; go_simp) ?_
  clear F a9
  intro a9 F
  refine fr_ch F 3 [(73, .pointer (some ⟨X, 3, none⟩)), (72, .pointer (some ⟨X, 2, none⟩)), (71, .pointer (some ⟨X, 0, none⟩))] (by kernel_rfl) ?_
  clear F a9
  intro a9 F
  refine fr_put F HK 0 rfl rfl rfl 4 _ _ rfl 3 (.bool (decide (fl / 8 % 2 = 1))) (fun a' F' => F'.ev 73 rfl) (fun a' F' => F'.ev 64 rfl) z_bool (Nat.le_of_ble_eq_true (by kernel_rfl)) (by kernel_rfl) ?_
  clear F HK a9 w9
  intro a9 w9 F HK
  replace HK : Keep w0 ((X, curC (L0, k0) (pkV { Pk.zero with ty := 3, dup := (decide (fl / 8 % 2 = 1)) } none 0).toList, T) :: B) [] w9 := HK
  refine fr_ch F 3 [(76, .pointer (some ⟨X, 4, none⟩)), (75, .pointer (some ⟨X, 2, none⟩)), (74, .pointer (some ⟨X, 0, none⟩))] (by kernel_rfl) ?_
  clear F a9
  intro a9 F
  refine fr_put F HK 0 rfl rfl rfl 5 _ _ rfl 4 (.int .u8 ((fl / 2 % 4 : Nat) : Int)) (fun a' F' => F'.ev 76 rfl) (fun a' F' => F'.ev 67 rfl) z_u8 (Nat.le_of_ble_eq_true (by kernel_rfl)) (by kernel_rfl) ?_
  clear F HK a9 w9
  intro a9 w9 F HK
  replace HK : Keep w0 ((X, curC (L0, k0) (pkV { Pk.zero with ty := 3, dup := (decide (fl / 8 % 2 = 1)), qos := (fl / 2 % 4 : Nat) } none 0).toList, T) :: B) [] w9 := HK
  refine fr_ch F 3 [(79, .pointer (some ⟨X, 5, none⟩)), (78, .pointer (some ⟨X, 2, none⟩)), (77, .pointer (some ⟨X, 0, none⟩))] (by kernel_rfl) ?_
  clear F a9
  intro a9 F
  refine fr_put F HK 0 rfl rfl rfl 4 _ _ rfl 5 (.bool (decide (fl % 2 = 1))) (fun a' F' => F'.ev 79 rfl) (fun a' F' => F'.ev 70 rfl) z_bool (Nat.le_of_ble_eq_true (by kernel_rfl)) (by kernel_rfl) ?_
  clear F HK a9 w9
  intro a9 w9 F HK
  replace HK : Keep w0 ((X, curC (L0, k0) (pkV { Pk.zero with ty := 3, dup := (decide (fl / 8 % 2 = 1)), qos := (fl / 2 % 4 : Nat), ret := (decide (fl % 2 = 1)) } none 0).toList, T) :: B) [] w9 := HK
  refine wpList_nil ?_
  show Code.wp _ _ _ _ _
  replace F := F.keep [0]
  replace F : FrL 114 [(0, .pointer (some ⟨X, 0, none⟩))] a9 := F
  refine wp_seq ?_
  refine wp_region_lit ?_
  refine fr_ch F 4 [(83, .pointer (some ⟨X, 0, none⟩)), (82, .pointer (some ⟨X, 0, none⟩)), (81, .pointer (some ⟨X, 0, none⟩)), (80, .pointer (some ⟨X, 0, none⟩))] (by kernel_rfl) ?_
  clear F a9
  intro a9 F
  refine fr_call F (wanted_free rfl) 84 rfl (by decide) 88 #[.pointer (some ⟨X, 0, none⟩)] (by intro a' F'; have h83 := F'.at' 83 _ rfl; go_simp) (HT.out _ _ HK) ?_
  clear HK
  rintro e w8 ⟨rfl, HK, HO⟩
  clear HO
  clear w9
  rename World => w9
  refine ⟨_, rfl, ?_⟩
  clear F a9
  intro a9 F
  refine fr_ch F 3 [(87, .pointer (some ⟨X, 7, none⟩)), (86, .pointer (some ⟨X, 2, none⟩)), (85, .pointer (some ⟨X, 0, none⟩))] (by kernel_rfl) ?_
  clear F a9
  intro a9 F
  refine fr_put F HK 0 rfl rfl rfl 9 _ _ rfl 7 (.string t) (fun a' F' => F'.ev 87 rfl) (fun a' F' => F'.ev 84 rfl) z_str (Nat.le_of_ble_eq_true (by kernel_rfl)) (by kernel_rfl) ?_
  clear F HK a9 w9
  intro a9 w9 F HK
  replace HK : Keep w0 ((X, curC (L1, k1) (pkV { Pk.zero with ty := 3, dup := (decide (fl / 8 % 2 = 1)), qos := (fl / 2 % 4 : Nat), ret := (decide (fl % 2 = 1)), topic := t } none 0).toList, T) :: B) [] w9 := HK
  refine wpList_nil ?_
  show Code.wp _ _ _ _ _
  replace F := F.keep [0]
  replace F : FrL 114 [(0, .pointer (some ⟨X, 0, none⟩))] a9 := F
  refine wp_seq_meet (fun a' w' => FrL 114 [(0, .pointer (some ⟨X, 0, none⟩))] a' ∧ Keep w0 ((X, curC (L2, k2) (pkV { Pk.zero with ty := 3, dup := (decide (fl / 8 % 2 = 1)), qos := (fl / 2 % 4 : Nat), ret := (decide (fl % 2 = 1)), topic := t, id := i } none 0).toList, T) :: B) [] w') ?_ ?_
  · skip
    refine wp_seq ?_
    refine wp_region_lit ?_
    refine fr_ch F 4 [(91, .pointer (some ⟨X, 4, none⟩)), (90, .pointer (some ⟨X, 2, none⟩)), (89, .pointer (some ⟨X, 0, none⟩)), (88, .pointer (some ⟨X, 0, none⟩))] (by kernel_rfl) ?_
    clear F a9
    intro a9 F
    have hc : w9.cell? ⟨X, 4, none⟩ = some (.int .u8 ((fl / 2 % 4 : Nat) : Int)) := (HK.at 0 rfl).cells 4
    refine fr_do F (wanted_free rfl) 92 rfl (by decide) (.int .u8 ((fl / 2 % 4 : Nat) : Int)) (by intro a' F'; have h91 := F'.at' 91 _ rfl; go_simp) ?_
    clear F a9
    intro a9 F
    clear hc
    refine fr_do F (wanted_free rfl) 93 rfl (by decide) (.bool (decide (0 < fl / 2 % 4))) (by intro a' F'; have h92 := F'.at' 92 _ rfl; go_simp <;> omega) ?_
    clear F a9
    intro a9 F
    refine wpList_nil ?_
    show Code.wp _ _ _ _ _
    by_cases hif : 0 < fl / 2 % 4
    · rw [decide_eq_true hif] at F
      refine wp_cond_true (F.ev 93 rfl) ?_
      replace F := F.keep [0]
      replace F : FrL 114 [(0, .pointer (some ⟨X, 0, none⟩))] a9 := F
      refine wp_region_lit ?_
      refine fr_ch F 4 [(97, .pointer (some ⟨X, 0, none⟩)), (96, .pointer (some ⟨X, 0, none⟩)), (95, .pointer (some ⟨X, 0, none⟩)), (94, .pointer (some ⟨X, 0, none⟩))] (by kernel_rfl) ?_
      clear F a9
      intro a9 F
      refine fr_call F (wanted_free rfl) 98 rfl (by decide) 89 #[.pointer (some ⟨X, 0, none⟩)] (by intro a' F'; have h97 := F'.at' 97 _ rfl; go_simp) (HI.out hif _ _ HK) ?_
      clear HK
      rintro e w8 ⟨rfl, HK, HO⟩
      clear HO
      clear w9
      rename World => w9
      refine ⟨_, rfl, ?_⟩
      clear F a9
      intro a9 F
      refine fr_ch F 3 [(101, .pointer (some ⟨X, 6, none⟩)), (100, .pointer (some ⟨X, 2, none⟩)), (99, .pointer (some ⟨X, 0, none⟩))] (by kernel_rfl) ?_
      clear F a9
      intro a9 F
      refine fr_put F HK 0 rfl rfl rfl 22 _ _ rfl 6 (.int .u16 (i : Int)) (fun a' F' => F'.ev 101 rfl) (fun a' F' => F'.ev 98 rfl) z_u16 (Nat.le_of_ble_eq_true (by kernel_rfl)) (by kernel_rfl) ?_
      clear F HK a9 w9
      intro a9 w9 F HK
      replace HK : Keep w0 ((X, curC (L2, k2) (pkV { Pk.zero with ty := 3, dup := (decide (fl / 8 % 2 = 1)), qos := (fl / 2 % 4 : Nat), ret := (decide (fl % 2 = 1)), topic := t, id := i } none 0).toList, T) :: B) [] w9 := HK
      refine wpList_nil ?_
      exact ⟨F.keep [0], HK⟩
    · rw [decide_eq_false hif] at F
      refine wp_cond_false (F.ev 93 rfl) ?_
      refine wp_skip ?_
      refine ⟨F.keep [0], ?_⟩
      obtain ⟨e1, e3⟩ := HN.out hif
      injection e3 with e3 e4
      rw [e1, e3, e4]
      exact HK
  clear HK F a9 w9
  rintro a9 w9 ⟨F, HK⟩
  replace F : FrL 114 [(0, .pointer (some ⟨X, 0, none⟩))] a9 := F
  refine wp_region_lit ?_
  refine fr_ch F 4 [(105, .pointer (some ⟨X, 0, none⟩)), (104, .pointer (some ⟨X, 0, none⟩)), (103, .pointer (some ⟨X, 0, none⟩)), (102, .pointer (some ⟨X, 0, none⟩))] (by kernel_rfl) ?_
  clear F a9
  intro a9 F
  refine fr_call F (wanted_free rfl) 106 rfl (by decide) 90 #[.pointer (some ⟨X, 0, none⟩)] (by intro a' F'; have h105 := F'.at' 105 _ rfl; go_simp) (HEE.out _ _ HK) ?_
  clear HK
  rintro e w8 ⟨rfl, HK, HO⟩
  clear HO
  clear w9
  rename World => w9
  refine ⟨_, rfl, ?_⟩
  clear F a9
  intro a9 F
  refine fr_ch F 3 [(109, .pointer (some ⟨X, 8, none⟩)), (108, .pointer (some ⟨X, 2, none⟩)), (107, .pointer (some ⟨X, 0, none⟩))] (by kernel_rfl) ?_
  clear F a9
  intro a9 F
  refine fr_put F HK 0 rfl rfl rfl 9 _ _ rfl 8 (.string (baB L2)) (fun a' F' => F'.ev 109 rfl) (fun a' F' => F'.ev 106 rfl) z_str (Nat.le_of_ble_eq_true (by kernel_rfl)) (by kernel_rfl) ?_
  clear F HK a9 w9
  intro a9 w9 F HK
  replace HK : Keep w0 ((X, curC ([], k2) (pkV { Pk.zero with ty := 3, dup := (decide (fl / 8 % 2 = 1)), qos := (fl / 2 % 4 : Nat), ret := (decide (fl % 2 = 1)), topic := t, id := i, payload := (baB L2) } none 0).toList, T) :: B) [] w9 := HK
  refine wpList_nil ?_
  exact ⟨F.keep [], HX.out _ HK⟩
set_option maxRecDepth 100000 in
set_option maxHeartbeats 4000000 in
theorem all_bare12 {w0 w : World} {X : Nat} {T : TypeId} {B : List Box} (ty fl : Nat) (_hfl : fl < 256) (c0 : Cur) (hc : c0.1.length ≤ 90000000) (HK0 : Keep w0 ((X, curC c0 (pkV { Pk.zero with ty := ty } none 0).toList, T) :: B) [] w) (hty : ty = 12) :
    Calls Tryd.prog 67 #[.pointer (some ⟨X, 0, none⟩), .int .u8 (fl : Int)] w fun e w' => e = .returned (.tuple #[]) ∧ ∃ (al : Option Addr) (cap : Nat), Keep w0 ((X, curC (allR ty fl c0).2 (pkV (allR ty fl c0).1 al cap).toList, T) :: B) [] w' ∧ w'.ownsRow w0.heap.size 31 2 (.slice al (allR ty fl c0).1.subs.length cap) (allR ty fl c0).1.subs.length (subCells (allR ty fl c0).1.subs) := by
  obtain ⟨KE, hKE⟩ : ∃ KE : World → Prop, KE = fun w' => ∃ (al : Option Addr) (cap : Nat), Keep w0 ((X, curC (allR ty fl c0).2 (pkV (allR ty fl c0).1 al cap).toList, T) :: B) [] w' ∧ w'.ownsRow w0.heap.size 31 2 (.slice al (allR ty fl c0).1.subs.length cap) (allR ty fl c0).1.subs.length (subCells (allR ty fl c0).1.subs) := ⟨_, rfl⟩
  have HEND := Lib.hid (show ∀ w', KE w' → ∃ (al : Option Addr) (cap : Nat), Keep w0 ((X, curC (allR ty fl c0).2 (pkV (allR ty fl c0).1 al cap).toList, T) :: B) [] w' ∧ w'.ownsRow w0.heap.size 31 2 (.slice al (allR ty fl c0).1.subs.length cap) (allR ty fl c0).1.subs.length (subCells (allR ty fl c0).1.subs) from fun w' h => by rw [hKE] at h; exact h)
  subst hty
  have HX := Lib.hid (show ∀ w', Keep w0 ((X, curC c0 (pkV { Pk.zero with ty := 12 } none 0).toList, T) :: B) [] w' → KE w' from fun w' h => by
    rw [hKE]
    have e : allR 12 fl c0 = ({ Pk.zero with ty := 12 }, c0) := by
      unfold allR
      rw [if_neg (by decide), if_neg (by decide), if_neg (by decide), if_pos (by decide)]
    rw [e]
    exact ⟨none, 0, h, World.ownsRow_nil _ _ _ _⟩)
  obtain ⟨L0, k0⟩ := c0
  have HK := HK0
  clear HK0 hKE
  go_enter Tryd.func67, Tryd.ntmps67
  refine wp_forget (n := 114) (L := [(1, .int .u8 (fl : Int)), (0, .pointer (some ⟨X, 0, none⟩))]) (FrL.add (FrL.add (FrL.nil ?_ ?_) _ _ ?_) _ _ ?_) ?_
  iterate 4 rfl
  intro a9 F
  rename World => w9
  refine wp_seq ?_
  refine wp_region_lit ?_
  refine fr_ch F 4 [(8, .pointer (some ⟨X, 2, none⟩))] (by kernel_rfl) ?_
  clear F a9
  intro a9 F
  have hc : w9.cell? ⟨X, 2, none⟩ = some (.int .u8 (12 : Int)) := (HK.at 0 rfl).cells 2
  refine fr_do F (wanted_free rfl) 9 rfl (by decide) (.int .u8 (12 : Int)) (by intro a' F'; have h8 := F'.at' 8 _ rfl; go_simp) ?_
  clear F a9
  intro a9 F
  clear hc
  refine wpList_nil ?_
  show Code.wp _ _ _ _ _
  replace F := F.keep [0, 1, 9]
  replace F : FrL 114 [(9, .int .u8 (12 : Int)), (1, .int .u8 (fl : Int)), (0, .pointer (some ⟨X, 0, none⟩))] a9 := F
  refine wp_block_end (fun a' w' => FrL 114 [] a' ∧ KE w') ?_ ?_
  rotate_left
  · rintro a' w' ⟨F', HE⟩
    exact bodyPost_end (results_void rfl _ _) F'.defers ⟨rfl, HEND.out _ HE⟩
  refine wp_seq ?_
  refine wp_region_lit ?_
  refine fr_ch F 2 [(20, .bool false), (21, .bool false)] (by kernel_rfl) ?_
  clear F a9
  intro a9 F
  refine wpList_nil ?_
  show Code.wp _ _ _ _ _
  refine wp_cond_false (F.ev 20 rfl) ?_
  refine wp_seq ?_
  refine wp_region_lit ?_
  refine fr_ch F 2 [(24, .bool false), (25, .bool false)] (by kernel_rfl) ?_
  clear F a9
  intro a9 F
  refine wpList_nil ?_
  show Code.wp _ _ _ _ _
  refine wp_cond_false (F.ev 24 rfl) ?_
  refine wp_seq ?_
  refine wp_region_lit ?_
  refine fr_ch F 2 [(57, .bool false), (58, .bool false)] (by kernel_rfl) ?_
  clear F a9
  intro a9 F
  refine wpList_nil ?_
  show Code.wp _ _ _ _ _
  refine wp_cond_false (F.ev 57 rfl) ?_
  refine wp_seq ?_
  refine wp_seq ?_
  refine wp_region_lit ?_
  refine fr_ch F 2 [(110, .bool true), (111, .bool true)] (by kernel_rfl) ?_
  clear F a9
  intro a9 F
  refine wpList_nil ?_
  show Code.wp _ _ _ _ _
  refine wp_cond_true (F.ev 110 rfl) ?_
  refine wp_skip ?_
  show Code.wp _ _ _ _ _
  refine wp_cond_true (F.ev 110 rfl) ?_
  refine wp_skip ?_
  exact ⟨F.keep [], HX.out _ HK⟩
set_option maxRecDepth 100000 in
set_option maxHeartbeats 4000000 in
theorem all_bare13 {w0 w : World} {X : Nat} {T : TypeId} {B : List Box} (ty fl : Nat) (_hfl : fl < 256) (c0 : Cur) (hc : c0.1.length ≤ 90000000) (HK0 : Keep w0 ((X, curC c0 (pkV { Pk.zero with ty := ty } none 0).toList, T) :: B) [] w) (hty : ty = 13) :
    Calls Tryd.prog 67 #[.pointer (some ⟨X, 0, none⟩), .int .u8 (fl : Int)] w fun e w' => e = .returned (.tuple #[]) ∧ ∃ (al : Option Addr) (cap : Nat), Keep w0 ((X, curC (allR ty fl c0).2 (pkV (allR ty fl c0).1 al cap).toList, T) :: B) [] w' ∧ w'.ownsRow w0.heap.size 31 2 (.slice al (allR ty fl c0).1.subs.length cap) (allR ty fl c0).1.subs.length (subCells (allR ty fl c0).1.subs) := by
  obtain ⟨KE, hKE⟩ : ∃ KE : World → Prop, KE = fun w' => ∃ (al : Option Addr) (cap : Nat), Keep w0 ((X, curC (allR ty fl c0).2 (pkV (allR ty fl c0).1 al cap).toList, T) :: B) [] w' ∧ w'.ownsRow w0.heap.size 31 2 (.slice al (allR ty fl c0).1.subs.length cap) (allR ty fl c0).1.subs.length (subCells (allR ty fl c0).1.subs) := ⟨_, rfl⟩
  have HEND := Lib.hid (show ∀ w', KE w' → ∃ (al : Option Addr) (cap : Nat), Keep w0 ((X, curC (allR ty fl c0).2 (pkV (allR ty fl c0).1 al cap).toList, T) :: B) [] w' ∧ w'.ownsRow w0.heap.size 31 2 (.slice al (allR ty fl c0).1.subs.length cap) (allR ty fl c0).1.subs.length (subCells (allR ty fl c0).1.subs) from fun w' h => by rw [hKE] at h; exact h)
  subst hty
  have HX := Lib.hid (show ∀ w', Keep w0 ((X, curC c0 (pkV { Pk.zero with ty := 13 } none 0).toList, T) :: B) [] w' → KE w' from fun w' h => by
    rw [hKE]
    have e : allR 13 fl c0 = ({ Pk.zero with ty := 13 }, c0) := by
      unfold allR
      rw [if_neg (by decide), if_neg (by decide), if_neg (by decide), if_pos (by decide)]
    rw [e]
    exact ⟨none, 0, h, World.ownsRow_nil _ _ _ _⟩)
  obtain ⟨L0, k0⟩ := c0
  have HK := HK0
  clear HK0 hKE
  go_enter Tryd.func67, Tryd.ntmps67
  refine wp_forget (n := 114) (L := [(1, .int .u8 (fl : Int)), (0, .pointer (some ⟨X, 0, none⟩))]) (FrL.add (FrL.add (FrL.nil ?_ ?_) _ _ ?_) _ _ ?_) ?_
  iterate 4 rfl
  intro a9 F
  rename World => w9
  refine wp_seq ?_
  refine wp_region_lit ?_
  refine fr_ch F 4 [(8, .pointer (some ⟨X, 2, none⟩))] (by kernel_rfl) ?_
  clear F a9
  intro a9 F
  have hc : w9.cell? ⟨X, 2, none⟩ = some (.int .u8 (13 : Int)) := (HK.at 0 rfl).cells 2
  refine fr_do F (wanted_free rfl) 9 rfl (by decide) (.int .u8 (13 : Int)) (by intro a' F'; have h8 := F'.at' 8 _ rfl; go_simp) ?_
  clear F a9
  intro a9 F
  clear hc
  refine wpList_nil ?_
  show Code.wp _ _ _ _ _
  replace F := F.keep [0, 1, 9]
  replace F : FrL 114 [(9, .int .u8 (13 : Int)), (1, .int .u8 (fl : Int)), (0, .pointer (some ⟨X, 0, none⟩))] a9 := F
  refine wp_block_end (fun a' w' => FrL 114 [] a' ∧ KE w') ?_ ?_
  rotate_left
  · rintro a' w' ⟨F', HE⟩
    exact bodyPost_end (results_void rfl _ _) F'.defers ⟨rfl, HEND.out _ HE⟩
  refine wp_seq ?_
  refine wp_region_lit ?_
  refine fr_ch F 2 [(20, .bool false), (21, .bool false)] (by kernel_rfl) ?_
  clear F a9
  intro a9 F
  refine wpList_nil ?_
  show Code.wp _ _ _ _ _
  refine wp_cond_false (F.ev 20 rfl) ?_
  refine wp_seq ?_
  refine wp_region_lit ?_
  refine fr_ch F 2 [(24, .bool false), (25, .bool false)] (by kernel_rfl) ?_
  clear F a9
  intro a9 F
  refine wpList_nil ?_
  show Code.wp _ _ _ _ _
  refine wp_cond_false (F.ev 24 rfl) ?_
  refine wp_seq ?_
  refine wp_region_lit ?_
  refine fr_ch F 2 [(57, .bool false), (58, .bool false)] (by kernel_rfl) ?_
  clear F a9
  intro a9 F
  refine wpList_nil ?_
  show Code.wp _ _ _ _ _
  refine wp_cond_false (F.ev 57 rfl) ?_
  refine wp_seq ?_
  refine wp_seq ?_
  refine wp_region_lit ?_
  refine fr_ch F 2 [(110, .bool false), (111, .bool false)] (by kernel_rfl) ?_
  clear F a9
  intro a9 F
  refine wpList_nil ?_
  show Code.wp _ _ _ _ _
  refine wp_cond_false (F.ev 110 rfl) ?_
  refine wp_seq ?_
  refine wp_region_lit ?_
  refine fr_ch F 2 [(110, .bool true), (112, .bool true)] (by kernel_rfl) ?_
  clear F a9
  intro a9 F
  refine wpList_nil ?_
  show Code.wp _ _ _ _ _
  refine wp_cond_true (F.ev 110 rfl) ?_
  refine wp_skip ?_
  show Code.wp _ _ _ _ _
  refine wp_cond_true (F.ev 110 rfl) ?_
  refine wp_skip ?_
  exact ⟨F.keep [], HX.out _ HK⟩
set_option maxRecDepth 100000 in
set_option maxHeartbeats 4000000 in
theorem all_bare14 {w0 w : World} {X : Nat} {T : TypeId} {B : List Box} (ty fl : Nat) (_hfl : fl < 256) (c0 : Cur) (hc : c0.1.length ≤ 90000000) (HK0 : Keep w0 ((X, curC c0 (pkV { Pk.zero with ty := ty } none 0).toList, T) :: B) [] w) (hty : ty = 14) :
    Calls Tryd.prog 67 #[.pointer (some ⟨X, 0, none⟩), .int .u8 (fl : Int)] w fun e w' => e = .returned (.tuple #[]) ∧ ∃ (al : Option Addr) (cap : Nat), Keep w0 ((X, curC (allR ty fl c0).2 (pkV (allR ty fl c0).1 al cap).toList, T) :: B) [] w' ∧ w'.ownsRow w0.heap.size 31 2 (.slice al (allR ty fl c0).1.subs.length cap) (allR ty fl c0).1.subs.length (subCells (allR ty fl c0).1.subs) := by
  obtain ⟨KE, hKE⟩ : ∃ KE : World → Prop, KE = fun w' => ∃ (al : Option Addr) (cap : Nat), Keep w0 ((X, curC (allR ty fl c0).2 (pkV (allR ty fl c0).1 al cap).toList, T) :: B) [] w' ∧ w'.ownsRow w0.heap.size 31 2 (.slice al (allR ty fl c0).1.subs.length cap) (allR ty fl c0).1.subs.length (subCells (allR ty fl c0).1.subs) := ⟨_, rfl⟩
  have HEND := Lib.hid (show ∀ w', KE w' → ∃ (al : Option Addr) (cap : Nat), Keep w0 ((X, curC (allR ty fl c0).2 (pkV (allR ty fl c0).1 al cap).toList, T) :: B) [] w' ∧ w'.ownsRow w0.heap.size 31 2 (.slice al (allR ty fl c0).1.subs.length cap) (allR ty fl c0).1.subs.length (subCells (allR ty fl c0).1.subs) from fun w' h => by rw [hKE] at h; exact h)
  subst hty
  have HX := Lib.hid (show ∀ w', Keep w0 ((X, curC c0 (pkV { Pk.zero with ty := 14 } none 0).toList, T) :: B) [] w' → KE w' from fun w' h => by
    rw [hKE]
    have e : allR 14 fl c0 = ({ Pk.zero with ty := 14 }, c0) := by
      unfold allR
      rw [if_neg (by decide), if_neg (by decide), if_neg (by decide), if_pos (by decide)]
    rw [e]
    exact ⟨none, 0, h, World.ownsRow_nil _ _ _ _⟩)
  obtain ⟨L0, k0⟩ := c0
  have HK := HK0
  clear HK0 hKE
  go_enter Tryd.func67, Tryd.ntmps67
  refine wp_forget (n := 114) (L := [(1, .int .u8 (fl : Int)), (0, .pointer (some ⟨X, 0, none⟩))]) (FrL.add (FrL.add (FrL.nil ?_ ?_) _ _ ?_) _ _ ?_) ?_
  iterate 4 rfl
  intro a9 F
  rename World => w9
  refine wp_seq ?_
  refine wp_region_lit ?_
  refine fr_ch F 4 [(8, .pointer (some ⟨X, 2, none⟩))] (by kernel_rfl) ?_
  clear F a9
  intro a9 F
  have hc : w9.cell? ⟨X, 2, none⟩ = some (.int .u8 (14 : Int)) := (HK.at 0 rfl).cells 2
  refine fr_do F (wanted_free rfl) 9 rfl (by decide) (.int .u8 (14 : Int)) (by intro a' F'; have h8 := F'.at' 8 _ rfl; go_simp) ?_
  clear F a9
  intro a9 F
  clear hc
  refine wpList_nil ?_
  show Code.wp _ _ _ _ _
  replace F := F.keep [0, 1, 9]
  replace F : FrL 114 [(9, .int .u8 (14 : Int)), (1, .int .u8 (fl : Int)), (0, .pointer (some ⟨X, 0, none⟩))] a9 := F
  refine wp_block_end (fun a' w' => FrL 114 [] a' ∧ KE w') ?_ ?_
  rotate_left
  · rintro a' w' ⟨F', HE⟩
    exact bodyPost_end (results_void rfl _ _) F'.defers ⟨rfl, HEND.out _ HE⟩
  refine wp_seq ?_
  refine wp_region_lit ?_
  refine fr_ch F 2 [(20, .bool false), (21, .bool false)] (by kernel_rfl) ?_
  clear F a9
  intro a9 F
  refine wpList_nil ?_
  show Code.wp _ _ _ _ _
  refine wp_cond_false (F.ev 20 rfl) ?_
  refine wp_seq ?_
  refine wp_region_lit ?_
  refine fr_ch F 2 [(24, .bool false), (25, .bool false)] (by kernel_rfl) ?_
  clear F a9
  intro a9 F
  refine wpList_nil ?_
  show Code.wp _ _ _ _ _
  refine wp_cond_false (F.ev 24 rfl) ?_
  refine wp_seq ?_
  refine wp_region_lit ?_
  refine fr_ch F 2 [(57, .bool false), (58, .bool false)] (by kernel_rfl) ?_
  clear F a9
  intro a9 F
  refine wpList_nil ?_
  show Code.wp _ _ _ _ _
  refine wp_cond_false (F.ev 57 rfl) ?_
  refine wp_seq ?_
  refine wp_seq ?_
  refine wp_region_lit ?_
  refine fr_ch F 2 [(110, .bool false), (111, .bool false)] (by kernel_rfl) ?_
  clear F a9
  intro a9 F
  refine wpList_nil ?_
  show Code.wp _ _ _ _ _
  refine wp_cond_false (F.ev 110 rfl) ?_
  refine wp_seq ?_
  refine wp_region_lit ?_
  refine fr_ch F 2 [(110, .bool false), (112, .bool false)] (by kernel_rfl) ?_
  clear F a9
  intro a9 F
  refine wpList_nil ?_
  show Code.wp _ _ _ _ _
  refine wp_cond_false (F.ev 110 rfl) ?_
  refine wp_region_lit ?_
  refine fr_ch F 2 [(110, .bool true), (113, .bool true)] (by kernel_rfl) ?_
  clear F a9
  intro a9 F
  refine wpList_nil ?_
  show Code.wp _ _ _ _ _
  refine wp_cond_true (F.ev 110 rfl) ?_
  refine wp_skip ?_
  exact ⟨F.keep [], HX.out _ HK⟩
set_option maxRecDepth 100000 in
set_option maxHeartbeats 4000000 in
theorem all_lists {w0 w : World} {X : Nat} {T : TypeId} {B : List Box} (ty fl : Nat) (_hfl : fl < 256) (c0 : Cur) (hc : c0.1.length ≤ 90000000) (HK0 : Keep w0 ((X, curC c0 (pkV { Pk.zero with ty := ty } none 0).toList, T) :: B) [] w) (hT0 : T ≠ 31) (hB : ∀ x ∈ B, x.2.2 ≠ 31) (hty : ty ≠ 1 ∧ ty ≠ 2 ∧ ty ≠ 3 ∧ ty ≠ 12 ∧ ty ≠ 13 ∧ ty ≠ 14) :
    Calls Tryd.prog 67 #[.pointer (some ⟨X, 0, none⟩), .int .u8 (fl : Int)] w fun e w' => e = .returned (.tuple #[]) ∧ ∃ (al : Option Addr) (cap : Nat), Keep w0 ((X, curC (allR ty fl c0).2 (pkV (allR ty fl c0).1 al cap).toList, T) :: B) [] w' ∧ w'.ownsRow w0.heap.size 31 2 (.slice al (allR ty fl c0).1.subs.length cap) (allR ty fl c0).1.subs.length (subCells (allR ty fl c0).1.subs) := by
  obtain ⟨KE, hKE⟩ : ∃ KE : World → Prop, KE = fun w' => ∃ (al : Option Addr) (cap : Nat), Keep w0 ((X, curC (allR ty fl c0).2 (pkV (allR ty fl c0).1 al cap).toList, T) :: B) [] w' ∧ w'.ownsRow w0.heap.size 31 2 (.slice al (allR ty fl c0).1.subs.length cap) (allR ty fl c0).1.subs.length (subCells (allR ty fl c0).1.subs) := ⟨_, rfl⟩
  have HEND := Lib.hid (show ∀ w', KE w' → ∃ (al : Option Addr) (cap : Nat), Keep w0 ((X, curC (allR ty fl c0).2 (pkV (allR ty fl c0).1 al cap).toList, T) :: B) [] w' ∧ w'.ownsRow w0.heap.size 31 2 (.slice al (allR ty fl c0).1.subs.length cap) (allR ty fl c0).1.subs.length (subCells (allR ty fl c0).1.subs) from fun w' h => by rw [hKE] at h; exact h)
  have e1 : ((ty : Int) == 1) = false := by rw [beq_eq_false_iff_ne]; omega
  have e2 : ((ty : Int) == 2) = false := by rw [beq_eq_false_iff_ne]; omega
  have e3 : ((ty : Int) == 3) = false := by rw [beq_eq_false_iff_ne]; omega
  have e12 : ((ty : Int) == 12) = false := by rw [beq_eq_false_iff_ne]; omega
  have e13 : ((ty : Int) == 13) = false := by rw [beq_eq_false_iff_ne]; omega
  have e14 : ((ty : Int) == 14) = false := by rw [beq_eq_false_iff_ne]; omega
  have hal := allR_lists ty fl c0 hty
  rcases hi : wordR c0 with ⟨i, L1, k1⟩
  have l1 := word_len c0
  rw [hi] at l1 hal
  have HI := Lib.hid (show ∀ w C, Keep w0 ((X, curC c0 C, T) :: B) [] w → Calls Tryd.prog 89 #[.pointer (some ⟨X, 0, none⟩)] w (RetC w0 w X C T B [] (.int .u16 (i : Int)) (L1, k1)) from fun w C h => by
    have h2 := cur_word c0 (by omega) h
    rw [hi] at h2
    exact h2)
  have HLL := Lib.hid (show ∀ w, Keep w0 ((X, curC (L1, k1) (pkV { Pk.zero with ty := ty, id := i } none 0).toList, T) :: B) [] w → Calls Tryd.prog 91 #[.pointer (some ⟨X, 0, none⟩)] w fun e w' => e = .returned (.tuple #[]) ∧ KE w' from fun w h => by
    have h2 := rest_lists ty i (L1, k1) (by simp only at l1 ⊢; omega) h hT0 hB
    rw [hKE, hal]
    exact h2)
  clear hi l1 hal hty
  obtain ⟨L0, k0⟩ := c0
  have HK := HK0
  clear HK0 hKE
  go_enter Tryd.func67, Tryd.ntmps67
  refine wp_forget (n := 114) (L := [(1, .int .u8 (fl : Int)), (0, .pointer (some ⟨X, 0, none⟩))]) (FrL.add (FrL.add (FrL.nil ?_ ?_) _ _ ?_) _ _ ?_) ?_
  iterate 4 rfl
  intro a9 F
  rename World => w9
  refine wp_seq ?_
  refine wp_region_lit ?_
  refine fr_ch F 4 [(8, .pointer (some ⟨X, 2, none⟩)), (6, .pointer (some ⟨X, 0, none⟩))] (by kernel_rfl) ?_
  clear F a9
  intro a9 F
  have hc : w9.cell? ⟨X, 2, none⟩ = some (.int .u8 (ty : Int)) := (HK.at 0 rfl).cells 2
  refine fr_do F (wanted_free rfl) 9 rfl (by decide) (.int .u8 (ty : Int)) (by intro a' F'; have h8 := F'.at' 8 _ rfl; go_simp) ?_
  clear F a9
  intro a9 F
  clear hc
  refine wpList_nil ?_
  show Code.wp _ _ _ _ _
  replace F := F.keep [0, 1, 9]
  replace F : FrL 114 [(9, .int .u8 (ty : Int)), (1, .int .u8 (fl : Int)), (0, .pointer (some ⟨X, 0, none⟩))] a9 := F
  refine wp_block_end (fun a' w' => FrL 114 [] a' ∧ KE w') ?_ ?_
  rotate_left
  · rintro a' w' ⟨F', HE⟩
    exact bodyPost_end (results_void rfl _ _) F'.defers ⟨rfl, HEND.out _ HE⟩
  refine wp_seq ?_
  refine wp_region_lit ?_
  refine fr_do F (wanted_free rfl) 21 rfl (by decide) (.bool false) (by intro a' F'; have h9 := F'.at' 9 _ rfl; go_simp) ?_
  clear F a9
  intro a9 F
  refine fr_ch F 1 [(20, .bool false)] (by kernel_rfl) ?_
  clear F a9
  intro a9 F
  refine wpList_nil ?_
  show Code.wp _ _ _ _ _
  refine wp_cond_false (F.ev 20 rfl) ?_
  refine wp_seq ?_
  refine wp_region_lit ?_
  refine fr_do F (wanted_free rfl) 25 rfl (by decide) (.bool false) (by intro a' F'; have h9 := F'.at' 9 _ rfl; go_simp) ?_
  clear F a9
  intro a9 F
  refine fr_ch F 1 [(24, .bool false)] (by kernel_rfl) ?_
  clear F a9
  intro a9 F
  refine wpList_nil ?_
  show Code.wp _ _ _ _ _
  refine wp_cond_false (F.ev 24 rfl) ?_
  refine wp_seq ?_
  refine wp_region_lit ?_
  refine fr_do F (wanted_free rfl) 58 rfl (by decide) (.bool false) (by intro a' F'; have h9 := F'.at' 9 _ rfl; go_simp) ?_
  clear F a9
  intro a9 F
  refine fr_ch F 1 [(57, .bool false)] (by kernel_rfl) ?_
  clear F a9
  intro a9 F
  refine wpList_nil ?_
  show Code.wp _ _ _ _ _
  refine wp_cond_false (F.ev 57 rfl) ?_
  refine wp_seq ?_
  refine wp_seq ?_
  refine wp_region_lit ?_
  refine fr_do F (wanted_free rfl) 111 rfl (by decide) (.bool false) (by intro a' F'; have h9 := F'.at' 9 _ rfl; go_simp) ?_
  clear F a9
  intro a9 F
  refine fr_ch F 1 [(110, .bool false)] (by kernel_rfl) ?_
  clear F a9
  intro a9 F
  refine wpList_nil ?_
  show Code.wp _ _ _ _ _
  refine wp_cond_false (F.ev 110 rfl) ?_
  refine wp_seq ?_
  refine wp_region_lit ?_
  refine fr_do F (wanted_free rfl) 112 rfl (by decide) (.bool false) (by intro a' F'; have h9 := F'.at' 9 _ rfl; go_simp) ?_
  clear F a9
  intro a9 F
  refine fr_ch F 1 [(110, .bool false)] (by kernel_rfl) ?_
  clear F a9
  intro a9 F
  refine wpList_nil ?_
  show Code.wp _ _ _ _ _
  refine wp_cond_false (F.ev 110 rfl) ?_
  refine wp_region_lit ?_
  refine fr_do F (wanted_free rfl) 113 rfl (by decide) (.bool false) (by intro a' F'; have h9 := F'.at' 9 _ rfl; go_simp) ?_
  clear F a9
  intro a9 F
  refine fr_ch F 1 [(110, .bool false)] (by kernel_rfl) ?_
  clear F a9
  intro a9 F
  refine wpList_nil ?_
  show Code.wp _ _ _ _ _
  refine wp_cond_false (F.ev 110 rfl) ?_
  replace F := F.keep [0]
  replace F : FrL 114 [(0, .pointer (some ⟨X, 0, none⟩))] a9 := F
  refine wp_seq ?_
  refine wp_region_lit ?_
  refine fr_ch F 4 [(13, .pointer (some ⟨X, 0, none⟩)), (12, .pointer (some ⟨X, 0, none⟩)), (11, .pointer (some ⟨X, 0, none⟩)), (10, .pointer (some ⟨X, 0, none⟩))] (by kernel_rfl) ?_
  clear F a9
  intro a9 F
  refine fr_call F (wanted_free rfl) 14 rfl (by decide) 89 #[.pointer (some ⟨X, 0, none⟩)] (by intro a' F'; have h13 := F'.at' 13 _ rfl; go_simp) (HI.out _ _ HK) ?_
  clear HK
  rintro e w8 ⟨rfl, HK, HO⟩
  clear HO
  clear w9
  rename World => w9
  refine ⟨_, rfl, ?_⟩
  clear F a9
  intro a9 F
  refine fr_ch F 3 [(17, .pointer (some ⟨X, 6, none⟩)), (16, .pointer (some ⟨X, 2, none⟩)), (15, .pointer (some ⟨X, 0, none⟩))] (by kernel_rfl) ?_
  clear F a9
  intro a9 F
  refine fr_put F HK 0 rfl rfl rfl 22 _ _ rfl 6 (.int .u16 (i : Int)) (fun a' F' => F'.ev 17 rfl) (fun a' F' => F'.ev 14 rfl) z_u16 (Nat.le_of_ble_eq_true (by kernel_rfl)) (by kernel_rfl) ?_
  clear F HK a9 w9
  intro a9 w9 F HK
  replace HK : Keep w0 ((X, curC (L1, k1) (pkV { Pk.zero with ty := ty, id := i } none 0).toList, T) :: B) [] w9 := HK
  refine wpList_nil ?_
  show Code.wp _ _ _ _ _
  replace F := F.keep [0]
  replace F : FrL 114 [(0, .pointer (some ⟨X, 0, none⟩))] a9 := F
  refine wp_region_lit ?_
  refine fr_ch F 1 [(18, .pointer (some ⟨X, 0, none⟩))] (by kernel_rfl) ?_
  clear F a9
  intro a9 F
  refine fr_call F (wanted_free rfl) 19 rfl (by decide) 91 #[.pointer (some ⟨X, 0, none⟩)] (by intro a' F'; have h18 := F'.at' 18 _ rfl; go_simp) (HLL.out _ HK) ?_
  clear HK
  rintro e w8 ⟨rfl, HE⟩
  clear w9
  rename World => w9
  refine ⟨_, rfl, ?_⟩
  clear F a9
  intro a9 F
  refine wpList_nil ?_
  exact ⟨F.keep [], HE⟩
theorem rest_all {w0 w : World} {X : Nat} {T : TypeId} {B : List Box} (ty fl : Nat) (hfl : fl < 256) (c0 : Cur) (hc : c0.1.length ≤ 90000000) (HK0 : Keep w0 ((X, curC c0 (pkV { Pk.zero with ty := ty } none 0).toList, T) :: B) [] w) (hT0 : T ≠ 31) (hB : ∀ x ∈ B, x.2.2 ≠ 31) :
    Calls Tryd.prog 67 #[.pointer (some ⟨X, 0, none⟩), .int .u8 (fl : Int)] w fun e w' => e = .returned (.tuple #[]) ∧ ∃ (al : Option Addr) (cap : Nat), Keep w0 ((X, curC (allR ty fl c0).2 (pkV (allR ty fl c0).1 al cap).toList, T) :: B) [] w' ∧ w'.ownsRow w0.heap.size 31 2 (.slice al (allR ty fl c0).1.subs.length cap) (allR ty fl c0).1.subs.length (subCells (allR ty fl c0).1.subs) := by
  by_cases h1 : ty = 1
  · exact all_con ty fl hfl c0 hc HK0 h1
  by_cases h2 : ty = 2
  · exact all_ack ty fl hfl c0 hc HK0 h2
  by_cases h3 : ty = 3
  · exact all_pub ty fl hfl c0 hc HK0 h3
  by_cases h4 : ty = 12
  · exact all_bare12 ty fl hfl c0 hc HK0 h4
  by_cases h5 : ty = 13
  · exact all_bare13 ty fl hfl c0 hc HK0 h5
  by_cases h6 : ty = 14
  · exact all_bare14 ty fl hfl c0 hc HK0 h6
  exact all_lists ty fl hfl c0 hc HK0 hT0 hB ⟨h1, h2, h3, h4, h5, h6⟩
end Go.Proofs.YtfljdlaelanliaaDoor
