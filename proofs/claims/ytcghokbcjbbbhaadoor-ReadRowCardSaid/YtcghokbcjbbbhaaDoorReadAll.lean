/- The walk of all that the rest reads (package read). Conditions: the rest's cells lie in a block of the caller's own; a machine's bound on the text's size; the decoder's tables lie as Go lays them. -/
import Derived.Test.YtcghokbcjbbbhaaDoorReadLists
namespace Go.Proofs.YtcghokbcjbbbhaaDoor
open Go.RowKit
theorem allR_lists (ty fl : Nat) (c : Cur) (h : ty ≠ 1 ∧ ty ≠ 2 ∧ ty ≠ 3 ∧ ty ≠ 12 ∧ ty ≠ 13 ∧ ty ≠ 14) : allR ty fl c = tailR ty (wordR c).1 (wordR c).2 := by
  obtain ⟨h1, h2, h3, h4, h5, h6⟩ := h
  unfold allR tailR
  rw [if_neg h1, if_neg h2, if_neg h3, if_neg (by omega)]
set_option maxRecDepth 100000 in
set_option maxHeartbeats 4000000 in
theorem all_con {w0 w : World} {X : Nat} {T : TypeId} {B : List Box} (ty fl : Nat) (_hfl : fl < 256) (c0 : Cur) (hc : c0.1.length ≤ 90000000) (HK0 : Keep w0 ((X, curC c0 (pkV { Pk.zero with ty := ty } none 0).toList, T) :: B) [] w) (hty : ty = 1) :
    Calls Tryd.prog 60 #[.pointer (some ⟨X, 0, none⟩), .int .u8 (fl : Int)] w fun e w' => e = .returned (.tuple #[]) ∧ ∃ (al : Option Addr) (cap : Nat), Keep w0 ((X, curC (allR ty fl c0).2 (pkV (allR ty fl c0).1 al cap).toList, T) :: B) [] w' ∧ w'.ownsRow w0.heap.size 31 2 (.slice al (allR ty fl c0).1.subs.length cap) (allR ty fl c0).1.subs.length (subCells (allR ty fl c0).1.subs) := by
  obtain ⟨KE, hKE⟩ : ∃ KE : World → Prop, KE = fun w' => ∃ (al : Option Addr) (cap : Nat), Keep w0 ((X, curC (allR ty fl c0).2 (pkV (allR ty fl c0).1 al cap).toList, T) :: B) [] w' ∧ w'.ownsRow w0.heap.size 31 2 (.slice al (allR ty fl c0).1.subs.length cap) (allR ty fl c0).1.subs.length (subCells (allR ty fl c0).1.subs) := ⟨_, rfl⟩
  have HEND := Lib.hid (show ∀ w', KE w' → ∃ (al : Option Addr) (cap : Nat), Keep w0 ((X, curC (allR ty fl c0).2 (pkV (allR ty fl c0).1 al cap).toList, T) :: B) [] w' ∧ w'.ownsRow w0.heap.size 31 2 (.slice al (allR ty fl c0).1.subs.length cap) (allR ty fl c0).1.subs.length (subCells (allR ty fl c0).1.subs) from fun w' h => by rw [hKE] at h; exact h)
  subst hty
  have HX := Lib.hid (show ∀ w', Keep w0 ((X, curC (conR c0).2 (pkV (conR c0).1 none 0).toList, T) :: B) [] w' → KE w' from fun w' h => by
    rw [hKE]
    exact ⟨none, 0, h, World.ownsRow_nil _ _ _ _⟩)
  obtain ⟨L0, k0⟩ := c0
  have HK := HK0
  clear HK0 hKE
  go_enter Tryd.func60, Tryd.ntmps60
  refine wp_forget (n := 114) (L := [(1, .int .u8 (fl : Int)), (0, .pointer (some ⟨X, 0, none⟩))]) (FrL.add (FrL.add (FrL.nil ?_ ?_) _ _ ?_) _ _ ?_) ?_
  iterate 4 rfl
  intro a9 F
  rename World => w9
  refine wp_seq ?_
  refine wp_region_lit ?_
  refine fr_do F (wanted_free rfl) 5 rfl (by decide) (.pointer (some ⟨X, 0, none⟩)) (by intro a' F'; have h0 := F'.at' 0 _ rfl; go_simp) ?_
  clear F a9
  intro a9 F
  refine fr_do F (wanted_free rfl) 6 rfl (by decide) (.pointer (some ⟨X, 0, none⟩)) (by intro a' F'; have h5 := F'.at' 5 _ rfl; go_simp) ?_
  clear F a9
  intro a9 F
  refine fr_do F (wanted_free rfl) 7 rfl (by decide) (.pointer (some ⟨X, 2, none⟩)) (by intro a' F'; have h6 := F'.at' 6 _ rfl; go_simp) ?_
  clear F a9
  intro a9 F
  refine fr_do F (wanted_free rfl) 8 rfl (by decide) (.pointer (some ⟨X, 2, none⟩)) (by intro a' F'; have h7 := F'.at' 7 _ rfl; go_simp) ?_
  clear F a9
  intro a9 F
  have hc : w9.cell? ⟨X, 2, none⟩ = some (.int .u8 (1 : Int)) := (HK.at 0 rfl).cells 2
  refine fr_do F (wanted_free rfl) 9 rfl (by decide) (.int .u8 (1 : Int)) (by intro a' F'; have h8 := F'.at' 8 _ rfl; go_simp) ?_
  clear F a9
  intro a9 F
  clear hc
  refine wpList_nil ?_
  show Code.wp _ _ _ _ _
  replace F := F.keep [0, 1, 9]
  replace F : FrL 114 [(9, .int .u8 (1 : Int)), (1, .int .u8 (fl : Int)), (0, .pointer (some ⟨X, 0, none⟩))] a9 := F
  refine wp_block_end (fun a' w' => FrL 114 [] a' ∧ KE w') ?_ ?_
  rotate_left
  · rintro a' w' ⟨F', HE⟩
    exact bodyPost_end (results_void rfl _ _) F'.defers ⟨rfl, HEND.out _ HE⟩
  refine wp_seq ?_
  refine wp_region_lit ?_
  refine fr_do F (wanted_free rfl) 21 rfl (by decide) (.bool true) (by intro a' F'; have h9 := F'.at' 9 _ rfl; go_simp) ?_
  clear F a9
  intro a9 F
  refine fr_do F (wanted_free rfl) 20 rfl (by decide) (.bool true) (by intro a' F'; have h21 := F'.at' 21 _ rfl; go_simp) ?_
  clear F a9
  intro a9 F
  refine wpList_nil ?_
  show Code.wp _ _ _ _ _
  refine wp_cond_true (F.ev 20 rfl) ?_
  replace F := F.keep [0]
  replace F : FrL 114 [(0, .pointer (some ⟨X, 0, none⟩))] a9 := F
  refine wp_region_lit ?_
  refine fr_do F (wanted_free rfl) 22 rfl (by decide) (.pointer (some ⟨X, 0, none⟩)) (by intro a' F'; have h0 := F'.at' 0 _ rfl; go_simp) ?_
  clear F a9
  intro a9 F
  refine fr_call F (wanted_free rfl) 23 rfl (by decide) 89 #[.pointer (some ⟨X, 0, none⟩)] (by intro a' F'; have h22 := F'.at' 22 _ rfl; go_simp) (rest_connect (L0, k0) hc HK) ?_
  clear HK
  rintro e w8 ⟨rfl, HK⟩
  clear w9
  rename World => w9
  refine ⟨_, rfl, ?_⟩
  clear F a9
  intro a9 F
  refine wpList_nil ?_
  exact ⟨F.keep [], HX.out _ HK⟩
set_option maxRecDepth 100000 in
set_option maxHeartbeats 4000000 in
theorem all_ack {w0 w : World} {X : Nat} {T : TypeId} {B : List Box} (ty fl : Nat) (_hfl : fl < 256) (c0 : Cur) (hc : c0.1.length ≤ 90000000) (HK0 : Keep w0 ((X, curC c0 (pkV { Pk.zero with ty := ty } none 0).toList, T) :: B) [] w) (hty : ty = 2) :
    Calls Tryd.prog 60 #[.pointer (some ⟨X, 0, none⟩), .int .u8 (fl : Int)] w fun e w' => e = .returned (.tuple #[]) ∧ ∃ (al : Option Addr) (cap : Nat), Keep w0 ((X, curC (allR ty fl c0).2 (pkV (allR ty fl c0).1 al cap).toList, T) :: B) [] w' ∧ w'.ownsRow w0.heap.size 31 2 (.slice al (allR ty fl c0).1.subs.length cap) (allR ty fl c0).1.subs.length (subCells (allR ty fl c0).1.subs) := by
  obtain ⟨KE, hKE⟩ : ∃ KE : World → Prop, KE = fun w' => ∃ (al : Option Addr) (cap : Nat), Keep w0 ((X, curC (allR ty fl c0).2 (pkV (allR ty fl c0).1 al cap).toList, T) :: B) [] w' ∧ w'.ownsRow w0.heap.size 31 2 (.slice al (allR ty fl c0).1.subs.length cap) (allR ty fl c0).1.subs.length (subCells (allR ty fl c0).1.subs) := ⟨_, rfl⟩
  have HEND := Lib.hid (show ∀ w', KE w' → ∃ (al : Option Addr) (cap : Nat), Keep w0 ((X, curC (allR ty fl c0).2 (pkV (allR ty fl c0).1 al cap).toList, T) :: B) [] w' ∧ w'.ownsRow w0.heap.size 31 2 (.slice al (allR ty fl c0).1.subs.length cap) (allR ty fl c0).1.subs.length (subCells (allR ty fl c0).1.subs) from fun w' h => by rw [hKE] at h; exact h)
  subst hty
  rcases ha : oneR c0 with ⟨a, L1, k1⟩
  rcases hb : oneR (L1, k1 || decide (1 < a)) with ⟨b, L2, k2⟩
  have HA := Lib.hid (show ∀ w C, Keep w0 ((X, curC c0 C, T) :: B) [] w → Calls Tryd.prog 90 #[.pointer (some ⟨X, 0, none⟩)] w (RetC w0 w X C T B [] (.int .u8 (a : Int)) (L1, k1)) from fun w C h => by
    have h2 := cur_one c0 h
    rw [ha] at h2
    exact h2)
  have HBB := Lib.hid (show ∀ w C, Keep w0 ((X, curC (L1, k1 || decide (1 < a)) C, T) :: B) [] w → Calls Tryd.prog 90 #[.pointer (some ⟨X, 0, none⟩)] w (RetC w0 w X C T B [] (.int .u8 (b : Int)) (L2, k2)) from fun w C h => by
    have h2 := cur_one (L1, k1 || decide (1 < a)) h
    rw [hb] at h2
    exact h2)
  have HX := Lib.hid (show ∀ w', Keep w0 ((X, curC (L2, k2) (pkV { Pk.zero with ty := 2, present := decide (a = 1), code := b } none 0).toList, T) :: B) [] w' → KE w' from fun w' h => by
    rw [hKE]
    have e : allR 2 fl c0 = ({ Pk.zero with ty := 2, present := decide (a = 1), code := b }, (L2, k2)) := by
      unfold allR
      rw [if_neg (by decide), if_pos rfl]
      simp only [ha, hb]
    rw [e]
    exact ⟨none, 0, h, World.ownsRow_nil _ _ _ _⟩)
  clear ha hb
  obtain ⟨L0, k0⟩ := c0
  have HK := HK0
  clear HK0 hKE
  go_enter Tryd.func60, Tryd.ntmps60
  refine wp_forget (n := 114) (L := [(1, .int .u8 (fl : Int)), (0, .pointer (some ⟨X, 0, none⟩))]) (FrL.add (FrL.add (FrL.nil ?_ ?_) _ _ ?_) _ _ ?_) ?_
  iterate 4 rfl
  intro a9 F
  rename World => w9
  refine wp_seq ?_
  refine wp_region_lit ?_
  refine fr_do F (wanted_free rfl) 5 rfl (by decide) (.pointer (some ⟨X, 0, none⟩)) (by intro a' F'; have h0 := F'.at' 0 _ rfl; go_simp) ?_
  clear F a9
  intro a9 F
  refine fr_do F (wanted_free rfl) 6 rfl (by decide) (.pointer (some ⟨X, 0, none⟩)) (by intro a' F'; have h5 := F'.at' 5 _ rfl; go_simp) ?_
  clear F a9
  intro a9 F
  refine fr_do F (wanted_free rfl) 7 rfl (by decide) (.pointer (some ⟨X, 2, none⟩)) (by intro a' F'; have h6 := F'.at' 6 _ rfl; go_simp) ?_
  clear F a9
  intro a9 F
  refine fr_do F (wanted_free rfl) 8 rfl (by decide) (.pointer (some ⟨X, 2, none⟩)) (by intro a' F'; have h7 := F'.at' 7 _ rfl; go_simp) ?_
  clear F a9
  intro a9 F
  have hc : w9.cell? ⟨X, 2, none⟩ = some (.int .u8 (2 : Int)) := (HK.at 0 rfl).cells 2
  refine fr_do F (wanted_free rfl) 9 rfl (by decide) (.int .u8 (2 : Int)) (by intro a' F'; have h8 := F'.at' 8 _ rfl; go_simp) ?_
  clear F a9
  intro a9 F
  clear hc
  refine wpList_nil ?_
  show Code.wp _ _ _ _ _
  replace F := F.keep [0, 1, 9]
  replace F : FrL 114 [(9, .int .u8 (2 : Int)), (1, .int .u8 (fl : Int)), (0, .pointer (some ⟨X, 0, none⟩))] a9 := F
  refine wp_block_end (fun a' w' => FrL 114 [] a' ∧ KE w') ?_ ?_
  rotate_left
  · rintro a' w' ⟨F', HE⟩
    exact bodyPost_end (results_void rfl _ _) F'.defers ⟨rfl, HEND.out _ HE⟩
  refine wp_seq ?_
  refine wp_region_lit ?_
  refine fr_do F (wanted_free rfl) 21 rfl (by decide) (.bool false) (by intro a' F'; have h9 := F'.at' 9 _ rfl; go_simp) ?_
  clear F a9
  intro a9 F
  refine fr_do F (wanted_free rfl) 20 rfl (by decide) (.bool false) (by intro a' F'; have h21 := F'.at' 21 _ rfl; go_simp) ?_
  clear F a9
  intro a9 F
  refine wpList_nil ?_
  show Code.wp _ _ _ _ _
  refine wp_cond_false (F.ev 20 rfl) ?_
  refine wp_seq ?_
  refine wp_region_lit ?_
  refine fr_do F (wanted_free rfl) 25 rfl (by decide) (.bool true) (by intro a' F'; have h9 := F'.at' 9 _ rfl; go_simp) ?_
  clear F a9
  intro a9 F
  refine fr_do F (wanted_free rfl) 24 rfl (by decide) (.bool true) (by intro a' F'; have h25 := F'.at' 25 _ rfl; go_simp) ?_
  clear F a9
  intro a9 F
  refine wpList_nil ?_
  show Code.wp _ _ _ _ _
  refine wp_cond_true (F.ev 24 rfl) ?_
  replace F := F.keep [0]
  replace F : FrL 114 [(0, .pointer (some ⟨X, 0, none⟩))] a9 := F
  refine wp_seq ?_
  refine wp_region_lit ?_
  refine fr_do F (wanted_free rfl) 26 rfl (by decide) (.pointer (some ⟨X, 0, none⟩)) (by intro a' F'; have h0 := F'.at' 0 _ rfl; go_simp) ?_
  clear F a9
  intro a9 F
  refine fr_do F (wanted_free rfl) 27 rfl (by decide) (.pointer (some ⟨X, 0, none⟩)) (by intro a' F'; have h26 := F'.at' 26 _ rfl; go_simp) ?_
  clear F a9
  intro a9 F
  refine fr_do F (wanted_free rfl) 28 rfl (by decide) (.pointer (some ⟨X, 0, none⟩)) (by intro a' F'; have h27 := F'.at' 27 _ rfl; go_simp) ?_
  clear F a9
  intro a9 F
  refine fr_call F (wanted_free rfl) 29 rfl (by decide) 90 #[.pointer (some ⟨X, 0, none⟩)] (by intro a' F'; have h28 := F'.at' 28 _ rfl; go_simp) (HA.out _ _ HK) ?_
  clear HK
  rintro e w8 ⟨rfl, HK, HO⟩
  clear HO
  clear w9
  rename World => w9
  refine ⟨_, rfl, ?_⟩
  clear F a9
  intro a9 F
  refine fr_do F (wanted_free rfl) 4 rfl (by decide) (.int .u8 (a : Int)) (by intro a' F'; have h29 := F'.at' 29 _ rfl; go_simp) ?_
  clear F a9
  intro a9 F
  refine wpList_nil ?_
  show Code.wp _ _ _ _ _
  replace F := F.keep [0, 4]
  replace F : FrL 114 [(4, .int .u8 (a : Int)), (0, .pointer (some ⟨X, 0, none⟩))] a9 := F
  refine wp_seq_meet (fun a' w' => FrL 114 [(4, .int .u8 (a : Int)), (0, .pointer (some ⟨X, 0, none⟩))] a' ∧ Keep w0 ((X, curC (L1, k1 || decide (1 < a)) (pkV { Pk.zero with ty := 2 } none 0).toList, T) :: B) [] w') ?_ ?_
  · obtain ⟨v, hv⟩ : ∃ v, k1 = v := ⟨_, rfl⟩
    have HV := Lib.hid hv
    rw [hv] at HK
    clear hv
    cases v
    · skip
      refine wp_region_lit ?_
      refine fr_do F (wanted_free rfl) 30 rfl (by decide) (.pointer (some ⟨X, 0, none⟩)) (by intro a' F'; have h0 := F'.at' 0 _ rfl; go_simp) ?_
      clear F a9
      intro a9 F
      refine fr_do F (wanted_free rfl) 31 rfl (by decide) (.pointer (some ⟨X, 0, none⟩)) (by intro a' F'; have h0 := F'.at' 0 _ rfl; go_simp) ?_
      clear F a9
      intro a9 F
      refine fr_do F (wanted_free rfl) 32 rfl (by decide) (.pointer (some ⟨X, 0, none⟩)) (by intro a' F'; have h31 := F'.at' 31 _ rfl; go_simp) ?_
      clear F a9
      intro a9 F
      refine fr_do F (wanted_free rfl) 33 rfl (by decide) (.pointer (some ⟨X, 0, none⟩)) (by intro a' F'; have h32 := F'.at' 32 _ rfl; go_simp) ?_
      clear F a9
      intro a9 F
      refine fr_do F (wanted_free rfl) 34 rfl (by decide) (.pointer (some ⟨X, 1, none⟩)) (by intro a' F'; have h33 := F'.at' 33 _ rfl; go_simp) ?_
      clear F a9
      intro a9 F
      have hc : w9.cell? ⟨X, 1, none⟩ = some (.bool false) := (HK.at 0 rfl).cells 1
      refine fr_do F (wanted_free rfl) 35 rfl (by decide) (.bool false) (by intro a' F'; have h34 := F'.at' 34 _ rfl; go_simp) ?_
      clear F a9
      intro a9 F
      clear hc
      refine fr_do F (wanted_free rfl) 36 rfl (by decide) (.bool false) (by intro a' F'; have h35 := F'.at' 35 _ rfl; go_simp) ?_
      clear F a9
      intro a9 F
      refine fr_do F (by rw [wanted_at F rfl (t := 36) (b := false) (by kernel_rfl) rfl]; rfl) 37 rfl (by decide) (.int .u8 (a : Int)) (by intro a' F'; have h4 := F'.at' 4 _ rfl; go_simp) ?_
      clear F a9
      intro a9 F
      refine fr_do F (by rw [wanted_at F rfl (t := 36) (b := false) (by kernel_rfl) rfl]; rfl) 38 rfl (by decide) (.bool (decide (1 < a))) (by intro a' F'; have h37 := F'.at' 37 _ rfl; go_simp <;> first | rfl | omega | (rw [Bool.eq_iff_iff]; simp; omega) | (rw [decide_eq_decide]; omega)) ?_
      clear F a9
      intro a9 F
      refine fr_do F (wanted_free rfl) 39 rfl (by decide) (.bool (decide (1 < a))) (by intro a' F'; have h36 := F'.at' 36 _ rfl; have h38 := F'.at' 38 _ rfl; go_simp) ?_
      clear F a9
      intro a9 F
      refine fr_do F (wanted_free rfl) 40 rfl (by decide) (.pointer (some ⟨X, 0, none⟩)) (by intro a' F'; have h30 := F'.at' 30 _ rfl; go_simp) ?_
      clear F a9
      intro a9 F
      refine fr_do F (wanted_free rfl) 41 rfl (by decide) (.pointer (some ⟨X, 0, none⟩)) (by intro a' F'; have h40 := F'.at' 40 _ rfl; go_simp) ?_
      clear F a9
      intro a9 F
      refine fr_do F (wanted_free rfl) 42 rfl (by decide) (.pointer (some ⟨X, 1, none⟩)) (by intro a' F'; have h41 := F'.at' 41 _ rfl; go_simp) ?_
      clear F a9
      intro a9 F
      refine fr_put F HK 0 rfl rfl rfl 4 _ _ rfl 1 (.bool (decide (1 < a))) (fun a' F' => F'.ev 42 rfl) (fun a' F' => F'.ev 39 rfl) z_bool (Nat.le_of_ble_eq_true (by kernel_rfl)) (by kernel_rfl) ?_
      clear F HK a9 w9
      intro a9 w9 F HK
      replace HK : Keep w0 ((X, curC (L1, (decide (1 < a))) (pkV { Pk.zero with ty := 2 } none 0).toList, T) :: B) [] w9 := HK
      refine wpList_nil ?_
      refine ⟨F.keep [0, 4], ?_⟩
      rw [HV.out]
      exact HK
    · skip
      refine wp_region_lit ?_
      refine fr_do F (wanted_free rfl) 30 rfl (by decide) (.pointer (some ⟨X, 0, none⟩)) (by intro a' F'; have h0 := F'.at' 0 _ rfl; go_simp) ?_
      clear F a9
      intro a9 F
      refine fr_do F (wanted_free rfl) 31 rfl (by decide) (.pointer (some ⟨X, 0, none⟩)) (by intro a' F'; have h0 := F'.at' 0 _ rfl; go_simp) ?_
      clear F a9
      intro a9 F
      refine fr_do F (wanted_free rfl) 32 rfl (by decide) (.pointer (some ⟨X, 0, none⟩)) (by intro a' F'; have h31 := F'.at' 31 _ rfl; go_simp) ?_
      clear F a9
      intro a9 F
      refine fr_do F (wanted_free rfl) 33 rfl (by decide) (.pointer (some ⟨X, 0, none⟩)) (by intro a' F'; have h32 := F'.at' 32 _ rfl; go_simp) ?_
      clear F a9
      intro a9 F
      refine fr_do F (wanted_free rfl) 34 rfl (by decide) (.pointer (some ⟨X, 1, none⟩)) (by intro a' F'; have h33 := F'.at' 33 _ rfl; go_simp) ?_
      clear F a9
      intro a9 F
      have hc : w9.cell? ⟨X, 1, none⟩ = some (.bool true) := (HK.at 0 rfl).cells 1
      refine fr_do F (wanted_free rfl) 35 rfl (by decide) (.bool true) (by intro a' F'; have h34 := F'.at' 34 _ rfl; go_simp) ?_
      clear F a9
      intro a9 F
      clear hc
      refine fr_do F (wanted_free rfl) 36 rfl (by decide) (.bool true) (by intro a' F'; have h35 := F'.at' 35 _ rfl; go_simp) ?_
      clear F a9
      intro a9 F
      refine fr_left F (by rw [wanted_at F rfl (t := 36) (b := true) (by kernel_rfl) rfl]; rfl) 37 rfl (by decide) ?_
      clear F a9
      intro a9 F
      refine fr_left F (by rw [wanted_at F rfl (t := 36) (b := true) (by kernel_rfl) rfl]; rfl) 38 rfl (by decide) ?_
      clear F a9
      intro a9 F
      refine fr_do F (wanted_free rfl) 39 rfl (by decide) (.bool true) (by intro a' F'; have h36 := F'.at' 36 _ rfl; have h38 := F'.at' 38 _ rfl; go_simp) ?_
      clear F a9
      intro a9 F
      refine fr_do F (wanted_free rfl) 40 rfl (by decide) (.pointer (some ⟨X, 0, none⟩)) (by intro a' F'; have h30 := F'.at' 30 _ rfl; go_simp) ?_
      clear F a9
      intro a9 F
      refine fr_do F (wanted_free rfl) 41 rfl (by decide) (.pointer (some ⟨X, 0, none⟩)) (by intro a' F'; have h40 := F'.at' 40 _ rfl; go_simp) ?_
      clear F a9
      intro a9 F
      refine fr_do F (wanted_free rfl) 42 rfl (by decide) (.pointer (some ⟨X, 1, none⟩)) (by intro a' F'; have h41 := F'.at' 41 _ rfl; go_simp) ?_
      clear F a9
      intro a9 F
      refine fr_put F HK 0 rfl rfl rfl 4 _ _ rfl 1 (.bool true) (fun a' F' => F'.ev 42 rfl) (fun a' F' => F'.ev 39 rfl) z_bool (Nat.le_of_ble_eq_true (by kernel_rfl)) (by kernel_rfl) ?_
      clear F HK a9 w9
      intro a9 w9 F HK
      replace HK : Keep w0 ((X, curC (L1, true) (pkV { Pk.zero with ty := 2 } none 0).toList, T) :: B) [] w9 := HK
      refine wpList_nil ?_
      refine ⟨F.keep [0, 4], ?_⟩
      rw [HV.out]
      exact HK
  clear HK F a9 w9
  rintro a9 w9 ⟨F, HK⟩
  replace F : FrL 114 [(4, .int .u8 (a : Int)), (0, .pointer (some ⟨X, 0, none⟩))] a9 := F
  refine wp_seq ?_
  refine wp_region_lit ?_
  refine fr_do F (wanted_free rfl) 43 rfl (by decide) (.pointer (some ⟨X, 0, none⟩)) (by intro a' F'; have h0 := F'.at' 0 _ rfl; go_simp) ?_
  clear F a9
  intro a9 F
  refine fr_do F (wanted_free rfl) 44 rfl (by decide) (.int .u8 (a : Int)) (by intro a' F'; have h4 := F'.at' 4 _ rfl; go_simp) ?_
  clear F a9
  intro a9 F
  refine fr_do F (wanted_free rfl) 45 rfl (by decide) (.bool (decide (a = 1))) (by intro a' F'; have h44 := F'.at' 44 _ rfl; go_simp <;> first | rfl | omega | (rw [Bool.eq_iff_iff]; simp; omega) | (rw [decide_eq_decide]; omega)) ?_
  clear F a9
  intro a9 F
  refine fr_do F (wanted_free rfl) 46 rfl (by decide) (.pointer (some ⟨X, 0, none⟩)) (by intro a' F'; have h43 := F'.at' 43 _ rfl; go_simp) ?_
  clear F a9
  intro a9 F
  refine fr_do F (wanted_free rfl) 47 rfl (by decide) (.pointer (some ⟨X, 2, none⟩)) (by intro a' F'; have h46 := F'.at' 46 _ rfl; go_simp) ?_
  clear F a9
  intro a9 F
  refine fr_do F (wanted_free rfl) 48 rfl (by decide) (.pointer (some ⟨X, 22, none⟩)) (by intro a' F'; have h47 := F'.at' 47 _ rfl; go_simp) ?_
  clear F a9
  intro a9 F
  refine fr_put F HK 0 rfl rfl rfl 4 _ _ rfl 22 (.bool (decide (a = 1))) (fun a' F' => F'.ev 48 rfl) (fun a' F' => F'.ev 45 rfl) z_bool (Nat.le_of_ble_eq_true (by kernel_rfl)) (by kernel_rfl) ?_
  clear F HK a9 w9
  intro a9 w9 F HK
  replace HK : Keep w0 ((X, curC (L1, k1 || decide (1 < a)) (pkV { Pk.zero with ty := 2, present := (decide (a = 1)) } none 0).toList, T) :: B) [] w9 := HK
  refine wpList_nil ?_
  show Code.wp _ _ _ _ _
  replace F := F.keep [0]
  replace F : FrL 114 [(0, .pointer (some ⟨X, 0, none⟩))] a9 := F
  refine wp_region_lit ?_
  refine fr_do F (wanted_free rfl) 49 rfl (by decide) (.pointer (some ⟨X, 0, none⟩)) (by intro a' F'; have h0 := F'.at' 0 _ rfl; go_simp) ?_
  clear F a9
  intro a9 F
  refine fr_do F (wanted_free rfl) 50 rfl (by decide) (.pointer (some ⟨X, 0, none⟩)) (by intro a' F'; have h0 := F'.at' 0 _ rfl; go_simp) ?_
  clear F a9
  intro a9 F
  refine fr_do F (wanted_free rfl) 51 rfl (by decide) (.pointer (some ⟨X, 0, none⟩)) (by intro a' F'; have h50 := F'.at' 50 _ rfl; go_simp) ?_
  clear F a9
  intro a9 F
  refine fr_do F (wanted_free rfl) 52 rfl (by decide) (.pointer (some ⟨X, 0, none⟩)) (by intro a' F'; have h51 := F'.at' 51 _ rfl; go_simp) ?_
  clear F a9
  intro a9 F
  refine fr_call F (wanted_free rfl) 53 rfl (by decide) 90 #[.pointer (some ⟨X, 0, none⟩)] (by intro a' F'; have h52 := F'.at' 52 _ rfl; go_simp) (HBB.out _ _ HK) ?_
  clear HK
  rintro e w8 ⟨rfl, HK, HO⟩
  clear HO
  clear w9
  rename World => w9
  refine ⟨_, rfl, ?_⟩
  clear F a9
  intro a9 F
  refine fr_do F (wanted_free rfl) 54 rfl (by decide) (.pointer (some ⟨X, 0, none⟩)) (by intro a' F'; have h49 := F'.at' 49 _ rfl; go_simp) ?_
  clear F a9
  intro a9 F
  refine fr_do F (wanted_free rfl) 55 rfl (by decide) (.pointer (some ⟨X, 2, none⟩)) (by intro a' F'; have h54 := F'.at' 54 _ rfl; go_simp) ?_
  clear F a9
  intro a9 F
  refine fr_do F (wanted_free rfl) 56 rfl (by decide) (.pointer (some ⟨X, 23, none⟩)) (by intro a' F'; have h55 := F'.at' 55 _ rfl; go_simp) ?_
  clear F a9
  intro a9 F
  refine fr_put F HK 0 rfl rfl rfl 5 _ _ rfl 23 (.int .u8 (b : Int)) (fun a' F' => F'.ev 56 rfl) (fun a' F' => F'.ev 53 rfl) z_u8 (Nat.le_of_ble_eq_true (by kernel_rfl)) (by kernel_rfl) ?_
  clear F HK a9 w9
  intro a9 w9 F HK
  replace HK : Keep w0 ((X, curC (L2, k2) (pkV { Pk.zero with ty := 2, present := (decide (a = 1)), code := b } none 0).toList, T) :: B) [] w9 := HK
  refine wpList_nil ?_
  exact ⟨F.keep [], HX.out _ HK⟩
set_option maxRecDepth 100000 in
set_option maxHeartbeats 4000000 in
theorem all_pub {w0 w : World} {X : Nat} {T : TypeId} {B : List Box} (ty fl : Nat) (hfl : fl < 256) (c0 : Cur) (hc : c0.1.length ≤ 90000000) (HK0 : Keep w0 ((X, curC c0 (pkV { Pk.zero with ty := ty } none 0).toList, T) :: B) [] w) (hty : ty = 3) :
    Calls Tryd.prog 60 #[.pointer (some ⟨X, 0, none⟩), .int .u8 (fl : Int)] w fun e w' => e = .returned (.tuple #[]) ∧ ∃ (al : Option Addr) (cap : Nat), Keep w0 ((X, curC (allR ty fl c0).2 (pkV (allR ty fl c0).1 al cap).toList, T) :: B) [] w' ∧ w'.ownsRow w0.heap.size 31 2 (.slice al (allR ty fl c0).1.subs.length cap) (allR ty fl c0).1.subs.length (subCells (allR ty fl c0).1.subs) := by
  obtain ⟨KE, hKE⟩ : ∃ KE : World → Prop, KE = fun w' => ∃ (al : Option Addr) (cap : Nat), Keep w0 ((X, curC (allR ty fl c0).2 (pkV (allR ty fl c0).1 al cap).toList, T) :: B) [] w' ∧ w'.ownsRow w0.heap.size 31 2 (.slice al (allR ty fl c0).1.subs.length cap) (allR ty fl c0).1.subs.length (subCells (allR ty fl c0).1.subs) := ⟨_, rfl⟩
  have HEND := Lib.hid (show ∀ w', KE w' → ∃ (al : Option Addr) (cap : Nat), Keep w0 ((X, curC (allR ty fl c0).2 (pkV (allR ty fl c0).1 al cap).toList, T) :: B) [] w' ∧ w'.ownsRow w0.heap.size 31 2 (.slice al (allR ty fl c0).1.subs.length cap) (allR ty fl c0).1.subs.length (subCells (allR ty fl c0).1.subs) from fun w' h => by rw [hKE] at h; exact h)
  subst hty
  rcases ht : textR c0 with ⟨t, L1, k1⟩
  have l1 := text_len c0
  rw [ht] at l1
  rcases hi : (if 0 < fl / 2 % 4 then wordR (L1, k1) else (0, (L1, k1))) with ⟨i, L2, k2⟩
  have HT := Lib.hid (show ∀ w C, Keep w0 ((X, curC c0 C, T) :: B) [] w → Calls Tryd.prog 91 #[.pointer (some ⟨X, 0, none⟩)] w (RetC w0 w X C T B [] (.string t) (L1, k1)) from fun w C h => by
    have h2 := cur_text c0 (by omega) h
    rw [ht] at h2
    exact h2)
  have HI := Lib.hid (show 0 < fl / 2 % 4 → ∀ w C, Keep w0 ((X, curC (L1, k1) C, T) :: B) [] w → Calls Tryd.prog 92 #[.pointer (some ⟨X, 0, none⟩)] w (RetC w0 w X C T B [] (.int .u16 (i : Int)) (L2, k2)) from fun hif w C h => by
    have h2 := cur_word (L1, k1) (by simp only at l1 ⊢; omega) h
    rw [if_pos hif] at hi
    rw [hi] at h2
    exact h2)
  have HN := Lib.hid (show ¬ 0 < fl / 2 % 4 → i = 0 ∧ (L2, k2) = (L1, k1) from fun h => by
    rw [if_neg h] at hi
    cases hi
    exact ⟨rfl, rfl⟩)
  have HEE := Lib.hid (show ∀ w C, Keep w0 ((X, curC (L2, k2) C, T) :: B) [] w → Calls Tryd.prog 93 #[.pointer (some ⟨X, 0, none⟩)] w (RetC w0 w X C T B [] (.string (baB L2)) ([], k2)) from fun w C h => cur_end (L2, k2) h)
  have HX := Lib.hid (show ∀ w', Keep w0 ((X, curC ([], k2) (pkV { Pk.zero with ty := 3, dup := decide (fl / 8 % 2 = 1), qos := fl / 2 % 4, ret := decide (fl % 2 = 1), topic := t, id := i, payload := baB L2 } none 0).toList, T) :: B) [] w' → KE w' from fun w' h => by
    rw [hKE]
    have e : allR 3 fl c0 = ({ Pk.zero with ty := 3, dup := decide (fl / 8 % 2 = 1), qos := fl / 2 % 4, ret := decide (fl % 2 = 1), topic := t, id := i, payload := baB L2 }, ([], k2)) := by
      unfold allR
      rw [if_neg (by decide), if_neg (by decide), if_pos rfl]
      simp only [ht, hi]
    rw [e]
    exact ⟨none, 0, h, World.ownsRow_nil _ _ _ _⟩)
  have HB := Lib.hid (bit_facts fl hfl)
  have HQ := Lib.hid (and3_shr1 fl hfl)
  clear ht hi l1
  obtain ⟨L0, k0⟩ := c0
  have HK := HK0
  clear HK0 hKE
  go_enter Tryd.func60, Tryd.ntmps60
  refine wp_forget (n := 114) (L := [(1, .int .u8 (fl : Int)), (0, .pointer (some ⟨X, 0, none⟩))]) (FrL.add (FrL.add (FrL.nil ?_ ?_) _ _ ?_) _ _ ?_) ?_
  iterate 4 rfl
  intro a9 F
  rename World => w9
  refine wp_seq ?_
  refine wp_region_lit ?_
  refine fr_do F (wanted_free rfl) 5 rfl (by decide) (.pointer (some ⟨X, 0, none⟩)) (by intro a' F'; have h0 := F'.at' 0 _ rfl; go_simp) ?_
  clear F a9
  intro a9 F
  refine fr_do F (wanted_free rfl) 6 rfl (by decide) (.pointer (some ⟨X, 0, none⟩)) (by intro a' F'; have h5 := F'.at' 5 _ rfl; go_simp) ?_
  clear F a9
  intro a9 F
  refine fr_do F (wanted_free rfl) 7 rfl (by decide) (.pointer (some ⟨X, 2, none⟩)) (by intro a' F'; have h6 := F'.at' 6 _ rfl; go_simp) ?_
  clear F a9
  intro a9 F
  refine fr_do F (wanted_free rfl) 8 rfl (by decide) (.pointer (some ⟨X, 2, none⟩)) (by intro a' F'; have h7 := F'.at' 7 _ rfl; go_simp) ?_
  clear F a9
  intro a9 F
  have hc : w9.cell? ⟨X, 2, none⟩ = some (.int .u8 (3 : Int)) := (HK.at 0 rfl).cells 2
  refine fr_do F (wanted_free rfl) 9 rfl (by decide) (.int .u8 (3 : Int)) (by intro a' F'; have h8 := F'.at' 8 _ rfl; go_simp) ?_
  clear F a9
  intro a9 F
  clear hc
  refine wpList_nil ?_
  show Code.wp _ _ _ _ _
  replace F := F.keep [0, 1, 9]
  replace F : FrL 114 [(9, .int .u8 (3 : Int)), (1, .int .u8 (fl : Int)), (0, .pointer (some ⟨X, 0, none⟩))] a9 := F
  refine wp_block_end (fun a' w' => FrL 114 [] a' ∧ KE w') ?_ ?_
  rotate_left
  · rintro a' w' ⟨F', HE⟩
    exact bodyPost_end (results_void rfl _ _) F'.defers ⟨rfl, HEND.out _ HE⟩
  refine wp_seq ?_
  refine wp_region_lit ?_
  refine fr_do F (wanted_free rfl) 21 rfl (by decide) (.bool false) (by intro a' F'; have h9 := F'.at' 9 _ rfl; go_simp) ?_
  clear F a9
  intro a9 F
  refine fr_do F (wanted_free rfl) 20 rfl (by decide) (.bool false) (by intro a' F'; have h21 := F'.at' 21 _ rfl; go_simp) ?_
  clear F a9
  intro a9 F
  refine wpList_nil ?_
  show Code.wp _ _ _ _ _
  refine wp_cond_false (F.ev 20 rfl) ?_
  refine wp_seq ?_
  refine wp_region_lit ?_
  refine fr_do F (wanted_free rfl) 25 rfl (by decide) (.bool false) (by intro a' F'; have h9 := F'.at' 9 _ rfl; go_simp) ?_
  clear F a9
  intro a9 F
  refine fr_do F (wanted_free rfl) 24 rfl (by decide) (.bool false) (by intro a' F'; have h25 := F'.at' 25 _ rfl; go_simp) ?_
  clear F a9
  intro a9 F
  refine wpList_nil ?_
  show Code.wp _ _ _ _ _
  refine wp_cond_false (F.ev 24 rfl) ?_
  refine wp_seq ?_
  refine wp_region_lit ?_
  refine fr_do F (wanted_free rfl) 58 rfl (by decide) (.bool true) (by intro a' F'; have h9 := F'.at' 9 _ rfl; go_simp) ?_
  clear F a9
  intro a9 F
  refine fr_do F (wanted_free rfl) 57 rfl (by decide) (.bool true) (by intro a' F'; have h58 := F'.at' 58 _ rfl; go_simp) ?_
  clear F a9
  intro a9 F
  refine wpList_nil ?_
  show Code.wp _ _ _ _ _
  refine wp_cond_true (F.ev 57 rfl) ?_
  replace F := F.keep [0, 1]
  replace F : FrL 114 [(1, .int .u8 (fl : Int)), (0, .pointer (some ⟨X, 0, none⟩))] a9 := F
  refine wp_seq ?_
  refine wp_region_lit ?_
  refine fr_do F (wanted_free rfl) 59 rfl (by decide) (.pointer (some ⟨X, 0, none⟩)) (by intro a' F'; have h0 := F'.at' 0 _ rfl; go_simp) ?_
  clear F a9
  intro a9 F
  refine fr_do F (wanted_free rfl) 60 rfl (by decide) (.pointer (some ⟨X, 0, none⟩)) (by intro a' F'; have h0 := F'.at' 0 _ rfl; go_simp) ?_
  clear F a9
  intro a9 F
  refine fr_do F (wanted_free rfl) 61 rfl (by decide) (.pointer (some ⟨X, 0, none⟩)) (by intro a' F'; have h0 := F'.at' 0 _ rfl; go_simp) ?_
  clear F a9
  intro a9 F
  refine fr_do F (wanted_free rfl) 62 rfl (by decide) (.int .u8 (fl : Int)) (by intro a' F'; have h1 := F'.at' 1 _ rfl; go_simp) ?_
  clear F a9
  intro a9 F
  refine fr_do F (wanted_free rfl) 63 rfl (by decide) (.int .u8 ((bitM 8 fl : Nat) : Int)) (by intro a' F'; have h62 := F'.at' 62 _ rfl; have hq := (HB.out 8 (by simp)).1; go_simp <;> exact hq) ?_
  clear F a9
  intro a9 F
  refine fr_do F (wanted_free rfl) 64 rfl (by decide) (.bool (decide (fl / 8 % 2 = 1))) (by intro a' F'; have h63 := F'.at' 63 _ rfl; have hq := (HB.out 8 (by simp)).2; go_simp) ?_
  clear F a9
  intro a9 F
  refine fr_do F (wanted_free rfl) 65 rfl (by decide) (.int .u8 (fl : Int)) (by intro a' F'; have h1 := F'.at' 1 _ rfl; go_simp) ?_
  clear F a9
  intro a9 F
  refine fr_do F (wanted_free rfl) 66 rfl (by decide) (.int .u8 ((fl : Int) / 2)) (by intro a' F'; have h65 := F'.at' 65 _ rfl; go_simp) ?_
  clear F a9
  intro a9 F
  refine fr_do F (wanted_free rfl) 67 rfl (by decide) (.int .u8 ((fl / 2 % 4 : Nat) : Int)) (by intro a' F'; have h66 := F'.at' 66 _ rfl; have hq := HQ.out; go_simp) ?_
  clear F a9
  intro a9 F
  refine fr_do F (wanted_free rfl) 68 rfl (by decide) (.int .u8 (fl : Int)) (by intro a' F'; have h1 := F'.at' 1 _ rfl; go_simp) ?_
  clear F a9
  intro a9 F
  refine fr_do F (wanted_free rfl) 69 rfl (by decide) (.int .u8 ((bitM 1 fl : Nat) : Int)) (by intro a' F'; have h68 := F'.at' 68 _ rfl; have hq := (HB.out 1 (by simp)).1; go_simp <;> exact hq) ?_
  clear F a9
  intro a9 F
  refine fr_do F (wanted_free rfl) 70 rfl (by decide) (.bool (decide (fl % 2 = 1))) (by intro a' F'; have h69 := F'.at' 69 _ rfl; have hq := (HB.out 1 (by simp)).2; rw [Nat.div_one] at hq; go_simp) ?_
  clear F a9
  intro a9 F
  refine fr_do F (wanted_free rfl) 71 rfl (by decide) (.pointer (some ⟨X, 0, none⟩)) (by intro a' F'; have h59 := F'.at' 59 _ rfl; go_simp) ?_
  clear F a9
  intro a9 F
  refine fr_do F (wanted_free rfl) 72 rfl (by decide) (.pointer (some ⟨X, 2, none⟩)) (by intro a' F'; have h71 := F'.at' 71 _ rfl; go_simp) ?_
  clear F a9
  intro a9 F
  refine fr_do F (wanted_free rfl) 73 rfl (by decide) (.pointer (some ⟨X, 3, none⟩)) (by intro a' F'; have h72 := F'.at' 72 _ rfl; go_simp) ?_
  clear F a9
  intro a9 F
  refine fr_put F HK 0 rfl rfl rfl 4 _ _ rfl 3 (.bool (decide (fl / 8 % 2 = 1))) (fun a' F' => F'.ev 73 rfl) (fun a' F' => F'.ev 64 rfl) z_bool (Nat.le_of_ble_eq_true (by kernel_rfl)) (by kernel_rfl) ?_
  clear F HK a9 w9
  intro a9 w9 F HK
  replace HK : Keep w0 ((X, curC (L0, k0) (pkV { Pk.zero with ty := 3, dup := (decide (fl / 8 % 2 = 1)) } none 0).toList, T) :: B) [] w9 := HK
  refine fr_do F (wanted_free rfl) 74 rfl (by decide) (.pointer (some ⟨X, 0, none⟩)) (by intro a' F'; have h60 := F'.at' 60 _ rfl; go_simp) ?_
  clear F a9
  intro a9 F
  refine fr_do F (wanted_free rfl) 75 rfl (by decide) (.pointer (some ⟨X, 2, none⟩)) (by intro a' F'; have h74 := F'.at' 74 _ rfl; go_simp) ?_
  clear F a9
  intro a9 F
  refine fr_do F (wanted_free rfl) 76 rfl (by decide) (.pointer (some ⟨X, 4, none⟩)) (by intro a' F'; have h75 := F'.at' 75 _ rfl; go_simp) ?_
  clear F a9
  intro a9 F
  refine fr_put F HK 0 rfl rfl rfl 5 _ _ rfl 4 (.int .u8 ((fl / 2 % 4 : Nat) : Int)) (fun a' F' => F'.ev 76 rfl) (fun a' F' => F'.ev 67 rfl) z_u8 (Nat.le_of_ble_eq_true (by kernel_rfl)) (by kernel_rfl) ?_
  clear F HK a9 w9
  intro a9 w9 F HK
  replace HK : Keep w0 ((X, curC (L0, k0) (pkV { Pk.zero with ty := 3, dup := (decide (fl / 8 % 2 = 1)), qos := (fl / 2 % 4 : Nat) } none 0).toList, T) :: B) [] w9 := HK
  refine fr_do F (wanted_free rfl) 77 rfl (by decide) (.pointer (some ⟨X, 0, none⟩)) (by intro a' F'; have h61 := F'.at' 61 _ rfl; go_simp) ?_
  clear F a9
  intro a9 F
  refine fr_do F (wanted_free rfl) 78 rfl (by decide) (.pointer (some ⟨X, 2, none⟩)) (by intro a' F'; have h77 := F'.at' 77 _ rfl; go_simp) ?_
  clear F a9
  intro a9 F
  refine fr_do F (wanted_free rfl) 79 rfl (by decide) (.pointer (some ⟨X, 5, none⟩)) (by intro a' F'; have h78 := F'.at' 78 _ rfl; go_simp) ?_
  clear F a9
  intro a9 F
  refine fr_put F HK 0 rfl rfl rfl 4 _ _ rfl 5 (.bool (decide (fl % 2 = 1))) (fun a' F' => F'.ev 79 rfl) (fun a' F' => F'.ev 70 rfl) z_bool (Nat.le_of_ble_eq_true (by kernel_rfl)) (by kernel_rfl) ?_
  clear F HK a9 w9
  intro a9 w9 F HK
  replace HK : Keep w0 ((X, curC (L0, k0) (pkV { Pk.zero with ty := 3, dup := (decide (fl / 8 % 2 = 1)), qos := (fl / 2 % 4 : Nat), ret := (decide (fl % 2 = 1)) } none 0).toList, T) :: B) [] w9 := HK
  refine wpList_nil ?_
  show Code.wp _ _ _ _ _
  replace F := F.keep [0]
  replace F : FrL 114 [(0, .pointer (some ⟨X, 0, none⟩))] a9 := F
  refine wp_seq ?_
  refine wp_region_lit ?_
  refine fr_do F (wanted_free rfl) 80 rfl (by decide) (.pointer (some ⟨X, 0, none⟩)) (by intro a' F'; have h0 := F'.at' 0 _ rfl; go_simp) ?_
  clear F a9
  intro a9 F
  refine fr_do F (wanted_free rfl) 81 rfl (by decide) (.pointer (some ⟨X, 0, none⟩)) (by intro a' F'; have h0 := F'.at' 0 _ rfl; go_simp) ?_
  clear F a9
  intro a9 F
  refine fr_do F (wanted_free rfl) 82 rfl (by decide) (.pointer (some ⟨X, 0, none⟩)) (by intro a' F'; have h81 := F'.at' 81 _ rfl; go_simp) ?_
  clear F a9
  intro a9 F
  refine fr_do F (wanted_free rfl) 83 rfl (by decide) (.pointer (some ⟨X, 0, none⟩)) (by intro a' F'; have h82 := F'.at' 82 _ rfl; go_simp) ?_
  clear F a9
  intro a9 F
  refine fr_call F (wanted_free rfl) 84 rfl (by decide) 91 #[.pointer (some ⟨X, 0, none⟩)] (by intro a' F'; have h83 := F'.at' 83 _ rfl; go_simp) (HT.out _ _ HK) ?_
  clear HK
  rintro e w8 ⟨rfl, HK, HO⟩
  clear HO
  clear w9
  rename World => w9
  refine ⟨_, rfl, ?_⟩
  clear F a9
  intro a9 F
  refine fr_do F (wanted_free rfl) 85 rfl (by decide) (.pointer (some ⟨X, 0, none⟩)) (by intro a' F'; have h80 := F'.at' 80 _ rfl; go_simp) ?_
  clear F a9
  intro a9 F
  refine fr_do F (wanted_free rfl) 86 rfl (by decide) (.pointer (some ⟨X, 2, none⟩)) (by intro a' F'; have h85 := F'.at' 85 _ rfl; go_simp) ?_
  clear F a9
  intro a9 F
  refine fr_do F (wanted_free rfl) 87 rfl (by decide) (.pointer (some ⟨X, 7, none⟩)) (by intro a' F'; have h86 := F'.at' 86 _ rfl; go_simp) ?_
  clear F a9
  intro a9 F
  refine fr_put F HK 0 rfl rfl rfl 9 _ _ rfl 7 (.string t) (fun a' F' => F'.ev 87 rfl) (fun a' F' => F'.ev 84 rfl) z_str (Nat.le_of_ble_eq_true (by kernel_rfl)) (by kernel_rfl) ?_
  clear F HK a9 w9
  intro a9 w9 F HK
  replace HK : Keep w0 ((X, curC (L1, k1) (pkV { Pk.zero with ty := 3, dup := (decide (fl / 8 % 2 = 1)), qos := (fl / 2 % 4 : Nat), ret := (decide (fl % 2 = 1)), topic := t } none 0).toList, T) :: B) [] w9 := HK
  refine wpList_nil ?_
  show Code.wp _ _ _ _ _
  replace F := F.keep [0]
  replace F : FrL 114 [(0, .pointer (some ⟨X, 0, none⟩))] a9 := F
  refine wp_seq_meet (fun a' w' => FrL 114 [(0, .pointer (some ⟨X, 0, none⟩))] a' ∧ Keep w0 ((X, curC (L2, k2) (pkV { Pk.zero with ty := 3, dup := (decide (fl / 8 % 2 = 1)), qos := (fl / 2 % 4 : Nat), ret := (decide (fl % 2 = 1)), topic := t, id := i } none 0).toList, T) :: B) [] w') ?_ ?_
  · skip
    refine wp_seq ?_
    refine wp_region_lit ?_
    refine fr_do F (wanted_free rfl) 88 rfl (by decide) (.pointer (some ⟨X, 0, none⟩)) (by intro a' F'; have h0 := F'.at' 0 _ rfl; go_simp) ?_
    clear F a9
    intro a9 F
    refine fr_do F (wanted_free rfl) 89 rfl (by decide) (.pointer (some ⟨X, 0, none⟩)) (by intro a' F'; have h88 := F'.at' 88 _ rfl; go_simp) ?_
    clear F a9
    intro a9 F
    refine fr_do F (wanted_free rfl) 90 rfl (by decide) (.pointer (some ⟨X, 2, none⟩)) (by intro a' F'; have h89 := F'.at' 89 _ rfl; go_simp) ?_
    clear F a9
    intro a9 F
    refine fr_do F (wanted_free rfl) 91 rfl (by decide) (.pointer (some ⟨X, 4, none⟩)) (by intro a' F'; have h90 := F'.at' 90 _ rfl; go_simp) ?_
    clear F a9
    intro a9 F
    have hc : w9.cell? ⟨X, 4, none⟩ = some (.int .u8 ((fl / 2 % 4 : Nat) : Int)) := (HK.at 0 rfl).cells 4
    refine fr_do F (wanted_free rfl) 92 rfl (by decide) (.int .u8 ((fl / 2 % 4 : Nat) : Int)) (by intro a' F'; have h91 := F'.at' 91 _ rfl; go_simp) ?_
    clear F a9
    intro a9 F
    clear hc
    refine fr_do F (wanted_free rfl) 93 rfl (by decide) (.bool (decide (0 < fl / 2 % 4))) (by intro a' F'; have h92 := F'.at' 92 _ rfl; go_simp <;> first | rfl | omega | (rw [Bool.eq_iff_iff]; simp; omega) | (rw [decide_eq_decide]; omega)) ?_
    clear F a9
    intro a9 F
    refine wpList_nil ?_
    show Code.wp _ _ _ _ _
    by_cases hif : 0 < fl / 2 % 4
    · rw [decide_eq_true hif] at F
      refine wp_cond_true (F.ev 93 rfl) ?_
      replace F := F.keep [0]
      replace F : FrL 114 [(0, .pointer (some ⟨X, 0, none⟩))] a9 := F
      refine wp_region_lit ?_
      refine fr_do F (wanted_free rfl) 94 rfl (by decide) (.pointer (some ⟨X, 0, none⟩)) (by intro a' F'; have h0 := F'.at' 0 _ rfl; go_simp) ?_
      clear F a9
      intro a9 F
      refine fr_do F (wanted_free rfl) 95 rfl (by decide) (.pointer (some ⟨X, 0, none⟩)) (by intro a' F'; have h0 := F'.at' 0 _ rfl; go_simp) ?_
      clear F a9
      intro a9 F
      refine fr_do F (wanted_free rfl) 96 rfl (by decide) (.pointer (some ⟨X, 0, none⟩)) (by intro a' F'; have h95 := F'.at' 95 _ rfl; go_simp) ?_
      clear F a9
      intro a9 F
      refine fr_do F (wanted_free rfl) 97 rfl (by decide) (.pointer (some ⟨X, 0, none⟩)) (by intro a' F'; have h96 := F'.at' 96 _ rfl; go_simp) ?_
      clear F a9
      intro a9 F
      refine fr_call F (wanted_free rfl) 98 rfl (by decide) 92 #[.pointer (some ⟨X, 0, none⟩)] (by intro a' F'; have h97 := F'.at' 97 _ rfl; go_simp) (HI.out hif _ _ HK) ?_
      clear HK
      rintro e w8 ⟨rfl, HK, HO⟩
      clear HO
      clear w9
      rename World => w9
      refine ⟨_, rfl, ?_⟩
      clear F a9
      intro a9 F
      refine fr_do F (wanted_free rfl) 99 rfl (by decide) (.pointer (some ⟨X, 0, none⟩)) (by intro a' F'; have h94 := F'.at' 94 _ rfl; go_simp) ?_
      clear F a9
      intro a9 F
      refine fr_do F (wanted_free rfl) 100 rfl (by decide) (.pointer (some ⟨X, 2, none⟩)) (by intro a' F'; have h99 := F'.at' 99 _ rfl; go_simp) ?_
      clear F a9
      intro a9 F
      refine fr_do F (wanted_free rfl) 101 rfl (by decide) (.pointer (some ⟨X, 6, none⟩)) (by intro a' F'; have h100 := F'.at' 100 _ rfl; go_simp) ?_
      clear F a9
      intro a9 F
      refine fr_put F HK 0 rfl rfl rfl 22 _ _ rfl 6 (.int .u16 (i : Int)) (fun a' F' => F'.ev 101 rfl) (fun a' F' => F'.ev 98 rfl) z_u16 (Nat.le_of_ble_eq_true (by kernel_rfl)) (by kernel_rfl) ?_
      clear F HK a9 w9
      intro a9 w9 F HK
      replace HK : Keep w0 ((X, curC (L2, k2) (pkV { Pk.zero with ty := 3, dup := (decide (fl / 8 % 2 = 1)), qos := (fl / 2 % 4 : Nat), ret := (decide (fl % 2 = 1)), topic := t, id := i } none 0).toList, T) :: B) [] w9 := HK
      refine wpList_nil ?_
      exact ⟨F.keep [0], HK⟩
    · rw [decide_eq_false hif] at F
      refine wp_cond_false (F.ev 93 rfl) ?_
      refine wp_skip ?_
      refine ⟨F.keep [0], ?_⟩
      obtain ⟨e1, e3⟩ := HN.out hif
      injection e3 with e3 e4
      rw [e1, e3, e4]
      exact HK
  clear HK F a9 w9
  rintro a9 w9 ⟨F, HK⟩
  replace F : FrL 114 [(0, .pointer (some ⟨X, 0, none⟩))] a9 := F
  refine wp_region_lit ?_
  refine fr_do F (wanted_free rfl) 102 rfl (by decide) (.pointer (some ⟨X, 0, none⟩)) (by intro a' F'; have h0 := F'.at' 0 _ rfl; go_simp) ?_
  clear F a9
  intro a9 F
  refine fr_do F (wanted_free rfl) 103 rfl (by decide) (.pointer (some ⟨X, 0, none⟩)) (by intro a' F'; have h0 := F'.at' 0 _ rfl; go_simp) ?_
  clear F a9
  intro a9 F
  refine fr_do F (wanted_free rfl) 104 rfl (by decide) (.pointer (some ⟨X, 0, none⟩)) (by intro a' F'; have h103 := F'.at' 103 _ rfl; go_simp) ?_
  clear F a9
  intro a9 F
  refine fr_do F (wanted_free rfl) 105 rfl (by decide) (.pointer (some ⟨X, 0, none⟩)) (by intro a' F'; have h104 := F'.at' 104 _ rfl; go_simp) ?_
  clear F a9
  intro a9 F
  refine fr_call F (wanted_free rfl) 106 rfl (by decide) 93 #[.pointer (some ⟨X, 0, none⟩)] (by intro a' F'; have h105 := F'.at' 105 _ rfl; go_simp) (HEE.out _ _ HK) ?_
  clear HK
  rintro e w8 ⟨rfl, HK, HO⟩
  clear HO
  clear w9
  rename World => w9
  refine ⟨_, rfl, ?_⟩
  clear F a9
  intro a9 F
  refine fr_do F (wanted_free rfl) 107 rfl (by decide) (.pointer (some ⟨X, 0, none⟩)) (by intro a' F'; have h102 := F'.at' 102 _ rfl; go_simp) ?_
  clear F a9
  intro a9 F
  refine fr_do F (wanted_free rfl) 108 rfl (by decide) (.pointer (some ⟨X, 2, none⟩)) (by intro a' F'; have h107 := F'.at' 107 _ rfl; go_simp) ?_
  clear F a9
  intro a9 F
  refine fr_do F (wanted_free rfl) 109 rfl (by decide) (.pointer (some ⟨X, 8, none⟩)) (by intro a' F'; have h108 := F'.at' 108 _ rfl; go_simp) ?_
  clear F a9
  intro a9 F
  refine fr_put F HK 0 rfl rfl rfl 9 _ _ rfl 8 (.string (baB L2)) (fun a' F' => F'.ev 109 rfl) (fun a' F' => F'.ev 106 rfl) z_str (Nat.le_of_ble_eq_true (by kernel_rfl)) (by kernel_rfl) ?_
  clear F HK a9 w9
  intro a9 w9 F HK
  replace HK : Keep w0 ((X, curC ([], k2) (pkV { Pk.zero with ty := 3, dup := (decide (fl / 8 % 2 = 1)), qos := (fl / 2 % 4 : Nat), ret := (decide (fl % 2 = 1)), topic := t, id := i, payload := (baB L2) } none 0).toList, T) :: B) [] w9 := HK
  refine wpList_nil ?_
  exact ⟨F.keep [], HX.out _ HK⟩
set_option maxRecDepth 100000 in
set_option maxHeartbeats 4000000 in
theorem all_bare12 {w0 w : World} {X : Nat} {T : TypeId} {B : List Box} (ty fl : Nat) (_hfl : fl < 256) (c0 : Cur) (hc : c0.1.length ≤ 90000000) (HK0 : Keep w0 ((X, curC c0 (pkV { Pk.zero with ty := ty } none 0).toList, T) :: B) [] w) (hty : ty = 12) :
    Calls Tryd.prog 60 #[.pointer (some ⟨X, 0, none⟩), .int .u8 (fl : Int)] w fun e w' => e = .returned (.tuple #[]) ∧ ∃ (al : Option Addr) (cap : Nat), Keep w0 ((X, curC (allR ty fl c0).2 (pkV (allR ty fl c0).1 al cap).toList, T) :: B) [] w' ∧ w'.ownsRow w0.heap.size 31 2 (.slice al (allR ty fl c0).1.subs.length cap) (allR ty fl c0).1.subs.length (subCells (allR ty fl c0).1.subs) := by
  obtain ⟨KE, hKE⟩ : ∃ KE : World → Prop, KE = fun w' => ∃ (al : Option Addr) (cap : Nat), Keep w0 ((X, curC (allR ty fl c0).2 (pkV (allR ty fl c0).1 al cap).toList, T) :: B) [] w' ∧ w'.ownsRow w0.heap.size 31 2 (.slice al (allR ty fl c0).1.subs.length cap) (allR ty fl c0).1.subs.length (subCells (allR ty fl c0).1.subs) := ⟨_, rfl⟩
  have HEND := Lib.hid (show ∀ w', KE w' → ∃ (al : Option Addr) (cap : Nat), Keep w0 ((X, curC (allR ty fl c0).2 (pkV (allR ty fl c0).1 al cap).toList, T) :: B) [] w' ∧ w'.ownsRow w0.heap.size 31 2 (.slice al (allR ty fl c0).1.subs.length cap) (allR ty fl c0).1.subs.length (subCells (allR ty fl c0).1.subs) from fun w' h => by rw [hKE] at h; exact h)
  subst hty
  have HX := Lib.hid (show ∀ w', Keep w0 ((X, curC c0 (pkV { Pk.zero with ty := 12 } none 0).toList, T) :: B) [] w' → KE w' from fun w' h => by
    rw [hKE]
    have e : allR 12 fl c0 = ({ Pk.zero with ty := 12 }, c0) := by
      unfold allR
      rw [if_neg (by decide), if_neg (by decide), if_neg (by decide), if_pos (by decide)]
    rw [e]
    exact ⟨none, 0, h, World.ownsRow_nil _ _ _ _⟩)
  obtain ⟨L0, k0⟩ := c0
  have HK := HK0
  clear HK0 hKE
  go_enter Tryd.func60, Tryd.ntmps60
  refine wp_forget (n := 114) (L := [(1, .int .u8 (fl : Int)), (0, .pointer (some ⟨X, 0, none⟩))]) (FrL.add (FrL.add (FrL.nil ?_ ?_) _ _ ?_) _ _ ?_) ?_
  iterate 4 rfl
  intro a9 F
  rename World => w9
  refine wp_seq ?_
  refine wp_region_lit ?_
  refine fr_do F (wanted_free rfl) 5 rfl (by decide) (.pointer (some ⟨X, 0, none⟩)) (by intro a' F'; have h0 := F'.at' 0 _ rfl; go_simp) ?_
  clear F a9
  intro a9 F
  refine fr_do F (wanted_free rfl) 6 rfl (by decide) (.pointer (some ⟨X, 0, none⟩)) (by intro a' F'; have h5 := F'.at' 5 _ rfl; go_simp) ?_
  clear F a9
  intro a9 F
  refine fr_do F (wanted_free rfl) 7 rfl (by decide) (.pointer (some ⟨X, 2, none⟩)) (by intro a' F'; have h6 := F'.at' 6 _ rfl; go_simp) ?_
  clear F a9
  intro a9 F
  refine fr_do F (wanted_free rfl) 8 rfl (by decide) (.pointer (some ⟨X, 2, none⟩)) (by intro a' F'; have h7 := F'.at' 7 _ rfl; go_simp) ?_
  clear F a9
  intro a9 F
  have hc : w9.cell? ⟨X, 2, none⟩ = some (.int .u8 (12 : Int)) := (HK.at 0 rfl).cells 2
  refine fr_do F (wanted_free rfl) 9 rfl (by decide) (.int .u8 (12 : Int)) (by intro a' F'; have h8 := F'.at' 8 _ rfl; go_simp) ?_
  clear F a9
  intro a9 F
  clear hc
  refine wpList_nil ?_
  show Code.wp _ _ _ _ _
  replace F := F.keep [0, 1, 9]
  replace F : FrL 114 [(9, .int .u8 (12 : Int)), (1, .int .u8 (fl : Int)), (0, .pointer (some ⟨X, 0, none⟩))] a9 := F
  refine wp_block_end (fun a' w' => FrL 114 [] a' ∧ KE w') ?_ ?_
  rotate_left
  · rintro a' w' ⟨F', HE⟩
    exact bodyPost_end (results_void rfl _ _) F'.defers ⟨rfl, HEND.out _ HE⟩
  refine wp_seq ?_
  refine wp_region_lit ?_
  refine fr_do F (wanted_free rfl) 21 rfl (by decide) (.bool false) (by intro a' F'; have h9 := F'.at' 9 _ rfl; go_simp) ?_
  clear F a9
  intro a9 F
  refine fr_do F (wanted_free rfl) 20 rfl (by decide) (.bool false) (by intro a' F'; have h21 := F'.at' 21 _ rfl; go_simp) ?_
  clear F a9
  intro a9 F
  refine wpList_nil ?_
  show Code.wp _ _ _ _ _
  refine wp_cond_false (F.ev 20 rfl) ?_
  refine wp_seq ?_
  refine wp_region_lit ?_
  refine fr_do F (wanted_free rfl) 25 rfl (by decide) (.bool false) (by intro a' F'; have h9 := F'.at' 9 _ rfl; go_simp) ?_
  clear F a9
  intro a9 F
  refine fr_do F (wanted_free rfl) 24 rfl (by decide) (.bool false) (by intro a' F'; have h25 := F'.at' 25 _ rfl; go_simp) ?_
  clear F a9
  intro a9 F
  refine wpList_nil ?_
  show Code.wp _ _ _ _ _
  refine wp_cond_false (F.ev 24 rfl) ?_
  refine wp_seq ?_
  refine wp_region_lit ?_
  refine fr_do F (wanted_free rfl) 58 rfl (by decide) (.bool false) (by intro a' F'; have h9 := F'.at' 9 _ rfl; go_simp) ?_
  clear F a9
  intro a9 F
  refine fr_do F (wanted_free rfl) 57 rfl (by decide) (.bool false) (by intro a' F'; have h58 := F'.at' 58 _ rfl; go_simp) ?_
  clear F a9
  intro a9 F
  refine wpList_nil ?_
  show Code.wp _ _ _ _ _
  refine wp_cond_false (F.ev 57 rfl) ?_
  refine wp_seq ?_
  refine wp_seq ?_
  refine wp_region_lit ?_
  refine fr_do F (wanted_free rfl) 111 rfl (by decide) (.bool true) (by intro a' F'; have h9 := F'.at' 9 _ rfl; go_simp) ?_
  clear F a9
  intro a9 F
  refine fr_do F (wanted_free rfl) 110 rfl (by decide) (.bool true) (by intro a' F'; have h111 := F'.at' 111 _ rfl; go_simp) ?_
  clear F a9
  intro a9 F
  refine wpList_nil ?_
  show Code.wp _ _ _ _ _
  refine wp_cond_true (F.ev 110 rfl) ?_
  refine wp_skip ?_
  show Code.wp _ _ _ _ _
  refine wp_cond_true (F.ev 110 rfl) ?_
  refine wp_skip ?_
  exact ⟨F.keep [], HX.out _ HK⟩
set_option maxRecDepth 100000 in
set_option maxHeartbeats 4000000 in
theorem all_bare13 {w0 w : World} {X : Nat} {T : TypeId} {B : List Box} (ty fl : Nat) (_hfl : fl < 256) (c0 : Cur) (hc : c0.1.length ≤ 90000000) (HK0 : Keep w0 ((X, curC c0 (pkV { Pk.zero with ty := ty } none 0).toList, T) :: B) [] w) (hty : ty = 13) :
    Calls Tryd.prog 60 #[.pointer (some ⟨X, 0, none⟩), .int .u8 (fl : Int)] w fun e w' => e = .returned (.tuple #[]) ∧ ∃ (al : Option Addr) (cap : Nat), Keep w0 ((X, curC (allR ty fl c0).2 (pkV (allR ty fl c0).1 al cap).toList, T) :: B) [] w' ∧ w'.ownsRow w0.heap.size 31 2 (.slice al (allR ty fl c0).1.subs.length cap) (allR ty fl c0).1.subs.length (subCells (allR ty fl c0).1.subs) := by
  obtain ⟨KE, hKE⟩ : ∃ KE : World → Prop, KE = fun w' => ∃ (al : Option Addr) (cap : Nat), Keep w0 ((X, curC (allR ty fl c0).2 (pkV (allR ty fl c0).1 al cap).toList, T) :: B) [] w' ∧ w'.ownsRow w0.heap.size 31 2 (.slice al (allR ty fl c0).1.subs.length cap) (allR ty fl c0).1.subs.length (subCells (allR ty fl c0).1.subs) := ⟨_, rfl⟩
  have HEND := Lib.hid (show ∀ w', KE w' → ∃ (al : Option Addr) (cap : Nat), Keep w0 ((X, curC (allR ty fl c0).2 (pkV (allR ty fl c0).1 al cap).toList, T) :: B) [] w' ∧ w'.ownsRow w0.heap.size 31 2 (.slice al (allR ty fl c0).1.subs.length cap) (allR ty fl c0).1.subs.length (subCells (allR ty fl c0).1.subs) from fun w' h => by rw [hKE] at h; exact h)
  subst hty
  have HX := Lib.hid (show ∀ w', Keep w0 ((X, curC c0 (pkV { Pk.zero with ty := 13 } none 0).toList, T) :: B) [] w' → KE w' from fun w' h => by
    rw [hKE]
    have e : allR 13 fl c0 = ({ Pk.zero with ty := 13 }, c0) := by
      unfold allR
      rw [if_neg (by decide), if_neg (by decide), if_neg (by decide), if_pos (by decide)]
    rw [e]
    exact ⟨none, 0, h, World.ownsRow_nil _ _ _ _⟩)
  obtain ⟨L0, k0⟩ := c0
  have HK := HK0
  clear HK0 hKE
  go_enter Tryd.func60, Tryd.ntmps60
  refine wp_forget (n := 114) (L := [(1, .int .u8 (fl : Int)), (0, .pointer (some ⟨X, 0, none⟩))]) (FrL.add (FrL.add (FrL.nil ?_ ?_) _ _ ?_) _ _ ?_) ?_
  iterate 4 rfl
  intro a9 F
  rename World => w9
  refine wp_seq ?_
  refine wp_region_lit ?_
  refine fr_do F (wanted_free rfl) 5 rfl (by decide) (.pointer (some ⟨X, 0, none⟩)) (by intro a' F'; have h0 := F'.at' 0 _ rfl; go_simp) ?_
  clear F a9
  intro a9 F
  refine fr_do F (wanted_free rfl) 6 rfl (by decide) (.pointer (some ⟨X, 0, none⟩)) (by intro a' F'; have h5 := F'.at' 5 _ rfl; go_simp) ?_
  clear F a9
  intro a9 F
  refine fr_do F (wanted_free rfl) 7 rfl (by decide) (.pointer (some ⟨X, 2, none⟩)) (by intro a' F'; have h6 := F'.at' 6 _ rfl; go_simp) ?_
  clear F a9
  intro a9 F
  refine fr_do F (wanted_free rfl) 8 rfl (by decide) (.pointer (some ⟨X, 2, none⟩)) (by intro a' F'; have h7 := F'.at' 7 _ rfl; go_simp) ?_
  clear F a9
  intro a9 F
  have hc : w9.cell? ⟨X, 2, none⟩ = some (.int .u8 (13 : Int)) := (HK.at 0 rfl).cells 2
  refine fr_do F (wanted_free rfl) 9 rfl (by decide) (.int .u8 (13 : Int)) (by intro a' F'; have h8 := F'.at' 8 _ rfl; go_simp) ?_
  clear F a9
  intro a9 F
  clear hc
  refine wpList_nil ?_
  show Code.wp _ _ _ _ _
  replace F := F.keep [0, 1, 9]
  replace F : FrL 114 [(9, .int .u8 (13 : Int)), (1, .int .u8 (fl : Int)), (0, .pointer (some ⟨X, 0, none⟩))] a9 := F
  refine wp_block_end (fun a' w' => FrL 114 [] a' ∧ KE w') ?_ ?_
  rotate_left
  · rintro a' w' ⟨F', HE⟩
    exact bodyPost_end (results_void rfl _ _) F'.defers ⟨rfl, HEND.out _ HE⟩
  refine wp_seq ?_
  refine wp_region_lit ?_
  refine fr_do F (wanted_free rfl) 21 rfl (by decide) (.bool false) (by intro a' F'; have h9 := F'.at' 9 _ rfl; go_simp) ?_
  clear F a9
  intro a9 F
  refine fr_do F (wanted_free rfl) 20 rfl (by decide) (.bool false) (by intro a' F'; have h21 := F'.at' 21 _ rfl; go_simp) ?_
  clear F a9
  intro a9 F
  refine wpList_nil ?_
  show Code.wp _ _ _ _ _
  refine wp_cond_false (F.ev 20 rfl) ?_
  refine wp_seq ?_
  refine wp_region_lit ?_
  refine fr_do F (wanted_free rfl) 25 rfl (by decide) (.bool false) (by intro a' F'; have h9 := F'.at' 9 _ rfl; go_simp) ?_
  clear F a9
  intro a9 F
  refine fr_do F (wanted_free rfl) 24 rfl (by decide) (.bool false) (by intro a' F'; have h25 := F'.at' 25 _ rfl; go_simp) ?_
  clear F a9
  intro a9 F
  refine wpList_nil ?_
  show Code.wp _ _ _ _ _
  refine wp_cond_false (F.ev 24 rfl) ?_
  refine wp_seq ?_
  refine wp_region_lit ?_
  refine fr_do F (wanted_free rfl) 58 rfl (by decide) (.bool false) (by intro a' F'; have h9 := F'.at' 9 _ rfl; go_simp) ?_
  clear F a9
  intro a9 F
  refine fr_do F (wanted_free rfl) 57 rfl (by decide) (.bool false) (by intro a' F'; have h58 := F'.at' 58 _ rfl; go_simp) ?_
  clear F a9
  intro a9 F
  refine wpList_nil ?_
  show Code.wp _ _ _ _ _
  refine wp_cond_false (F.ev 57 rfl) ?_
  refine wp_seq ?_
  refine wp_seq ?_
  refine wp_region_lit ?_
  refine fr_do F (wanted_free rfl) 111 rfl (by decide) (.bool false) (by intro a' F'; have h9 := F'.at' 9 _ rfl; go_simp) ?_
  clear F a9
  intro a9 F
  refine fr_do F (wanted_free rfl) 110 rfl (by decide) (.bool false) (by intro a' F'; have h111 := F'.at' 111 _ rfl; go_simp) ?_
  clear F a9
  intro a9 F
  refine wpList_nil ?_
  show Code.wp _ _ _ _ _
  refine wp_cond_false (F.ev 110 rfl) ?_
  refine wp_seq ?_
  refine wp_region_lit ?_
  refine fr_do F (wanted_free rfl) 112 rfl (by decide) (.bool true) (by intro a' F'; have h9 := F'.at' 9 _ rfl; go_simp) ?_
  clear F a9
  intro a9 F
  refine fr_do F (wanted_free rfl) 110 rfl (by decide) (.bool true) (by intro a' F'; have h112 := F'.at' 112 _ rfl; go_simp) ?_
  clear F a9
  intro a9 F
  refine wpList_nil ?_
  show Code.wp _ _ _ _ _
  refine wp_cond_true (F.ev 110 rfl) ?_
  refine wp_skip ?_
  show Code.wp _ _ _ _ _
  refine wp_cond_true (F.ev 110 rfl) ?_
  refine wp_skip ?_
  exact ⟨F.keep [], HX.out _ HK⟩
set_option maxRecDepth 100000 in
set_option maxHeartbeats 4000000 in
theorem all_bare14 {w0 w : World} {X : Nat} {T : TypeId} {B : List Box} (ty fl : Nat) (_hfl : fl < 256) (c0 : Cur) (hc : c0.1.length ≤ 90000000) (HK0 : Keep w0 ((X, curC c0 (pkV { Pk.zero with ty := ty } none 0).toList, T) :: B) [] w) (hty : ty = 14) :
    Calls Tryd.prog 60 #[.pointer (some ⟨X, 0, none⟩), .int .u8 (fl : Int)] w fun e w' => e = .returned (.tuple #[]) ∧ ∃ (al : Option Addr) (cap : Nat), Keep w0 ((X, curC (allR ty fl c0).2 (pkV (allR ty fl c0).1 al cap).toList, T) :: B) [] w' ∧ w'.ownsRow w0.heap.size 31 2 (.slice al (allR ty fl c0).1.subs.length cap) (allR ty fl c0).1.subs.length (subCells (allR ty fl c0).1.subs) := by
  obtain ⟨KE, hKE⟩ : ∃ KE : World → Prop, KE = fun w' => ∃ (al : Option Addr) (cap : Nat), Keep w0 ((X, curC (allR ty fl c0).2 (pkV (allR ty fl c0).1 al cap).toList, T) :: B) [] w' ∧ w'.ownsRow w0.heap.size 31 2 (.slice al (allR ty fl c0).1.subs.length cap) (allR ty fl c0).1.subs.length (subCells (allR ty fl c0).1.subs) := ⟨_, rfl⟩
  have HEND := Lib.hid (show ∀ w', KE w' → ∃ (al : Option Addr) (cap : Nat), Keep w0 ((X, curC (allR ty fl c0).2 (pkV (allR ty fl c0).1 al cap).toList, T) :: B) [] w' ∧ w'.ownsRow w0.heap.size 31 2 (.slice al (allR ty fl c0).1.subs.length cap) (allR ty fl c0).1.subs.length (subCells (allR ty fl c0).1.subs) from fun w' h => by rw [hKE] at h; exact h)
  subst hty
  have HX := Lib.hid (show ∀ w', Keep w0 ((X, curC c0 (pkV { Pk.zero with ty := 14 } none 0).toList, T) :: B) [] w' → KE w' from fun w' h => by
    rw [hKE]
    have e : allR 14 fl c0 = ({ Pk.zero with ty := 14 }, c0) := by
      unfold allR
      rw [if_neg (by decide), if_neg (by decide), if_neg (by decide), if_pos (by decide)]
    rw [e]
    exact ⟨none, 0, h, World.ownsRow_nil _ _ _ _⟩)
  obtain ⟨L0, k0⟩ := c0
  have HK := HK0
  clear HK0 hKE
  go_enter Tryd.func60, Tryd.ntmps60
  refine wp_forget (n := 114) (L := [(1, .int .u8 (fl : Int)), (0, .pointer (some ⟨X, 0, none⟩))]) (FrL.add (FrL.add (FrL.nil ?_ ?_) _ _ ?_) _ _ ?_) ?_
  iterate 4 rfl
  intro a9 F
  rename World => w9
  refine wp_seq ?_
  refine wp_region_lit ?_
  refine fr_do F (wanted_free rfl) 5 rfl (by decide) (.pointer (some ⟨X, 0, none⟩)) (by intro a' F'; have h0 := F'.at' 0 _ rfl; go_simp) ?_
  clear F a9
  intro a9 F
  refine fr_do F (wanted_free rfl) 6 rfl (by decide) (.pointer (some ⟨X, 0, none⟩)) (by intro a' F'; have h5 := F'.at' 5 _ rfl; go_simp) ?_
  clear F a9
  intro a9 F
  refine fr_do F (wanted_free rfl) 7 rfl (by decide) (.pointer (some ⟨X, 2, none⟩)) (by intro a' F'; have h6 := F'.at' 6 _ rfl; go_simp) ?_
  clear F a9
  intro a9 F
  refine fr_do F (wanted_free rfl) 8 rfl (by decide) (.pointer (some ⟨X, 2, none⟩)) (by intro a' F'; have h7 := F'.at' 7 _ rfl; go_simp) ?_
  clear F a9
  intro a9 F
  have hc : w9.cell? ⟨X, 2, none⟩ = some (.int .u8 (14 : Int)) := (HK.at 0 rfl).cells 2
  refine fr_do F (wanted_free rfl) 9 rfl (by decide) (.int .u8 (14 : Int)) (by intro a' F'; have h8 := F'.at' 8 _ rfl; go_simp) ?_
  clear F a9
  intro a9 F
  clear hc
  refine wpList_nil ?_
  show Code.wp _ _ _ _ _
  replace F := F.keep [0, 1, 9]
  replace F : FrL 114 [(9, .int .u8 (14 : Int)), (1, .int .u8 (fl : Int)), (0, .pointer (some ⟨X, 0, none⟩))] a9 := F
  refine wp_block_end (fun a' w' => FrL 114 [] a' ∧ KE w') ?_ ?_
  rotate_left
  · rintro a' w' ⟨F', HE⟩
    exact bodyPost_end (results_void rfl _ _) F'.defers ⟨rfl, HEND.out _ HE⟩
  refine wp_seq ?_
  refine wp_region_lit ?_
  refine fr_do F (wanted_free rfl) 21 rfl (by decide) (.bool false) (by intro a' F'; have h9 := F'.at' 9 _ rfl; go_simp) ?_
  clear F a9
  intro a9 F
  refine fr_do F (wanted_free rfl) 20 rfl (by decide) (.bool false) (by intro a' F'; have h21 := F'.at' 21 _ rfl; go_simp) ?_
  clear F a9
  intro a9 F
  refine wpList_nil ?_
  show Code.wp _ _ _ _ _
  refine wp_cond_false (F.ev 20 rfl) ?_
  refine wp_seq ?_
  refine wp_region_lit ?_
  refine fr_do F (wanted_free rfl) 25 rfl (by decide) (.bool false) (by intro a' F'; have h9 := F'.at' 9 _ rfl; go_simp) ?_
  clear F a9
  intro a9 F
  refine fr_do F (wanted_free rfl) 24 rfl (by decide) (.bool false) (by intro a' F'; have h25 := F'.at' 25 _ rfl; go_simp) ?_
  clear F a9
  intro a9 F
  refine wpList_nil ?_
  show Code.wp _ _ _ _ _
  refine wp_cond_false (F.ev 24 rfl) ?_
  refine wp_seq ?_
  refine wp_region_lit ?_
  refine fr_do F (wanted_free rfl) 58 rfl (by decide) (.bool false) (by intro a' F'; have h9 := F'.at' 9 _ rfl; go_simp) ?_
  clear F a9
  intro a9 F
  refine fr_do F (wanted_free rfl) 57 rfl (by decide) (.bool false) (by intro a' F'; have h58 := F'.at' 58 _ rfl; go_simp) ?_
  clear F a9
  intro a9 F
  refine wpList_nil ?_
  show Code.wp _ _ _ _ _
  refine wp_cond_false (F.ev 57 rfl) ?_
  refine wp_seq ?_
  refine wp_seq ?_
  refine wp_region_lit ?_
  refine fr_do F (wanted_free rfl) 111 rfl (by decide) (.bool false) (by intro a' F'; have h9 := F'.at' 9 _ rfl; go_simp) ?_
  clear F a9
  intro a9 F
  refine fr_do F (wanted_free rfl) 110 rfl (by decide) (.bool false) (by intro a' F'; have h111 := F'.at' 111 _ rfl; go_simp) ?_
  clear F a9
  intro a9 F
  refine wpList_nil ?_
  show Code.wp _ _ _ _ _
  refine wp_cond_false (F.ev 110 rfl) ?_
  refine wp_seq ?_
  refine wp_region_lit ?_
  refine fr_do F (wanted_free rfl) 112 rfl (by decide) (.bool false) (by intro a' F'; have h9 := F'.at' 9 _ rfl; go_simp) ?_
  clear F a9
  intro a9 F
  refine fr_do F (wanted_free rfl) 110 rfl (by decide) (.bool false) (by intro a' F'; have h112 := F'.at' 112 _ rfl; go_simp) ?_
  clear F a9
  intro a9 F
  refine wpList_nil ?_
  show Code.wp _ _ _ _ _
  refine wp_cond_false (F.ev 110 rfl) ?_
  refine wp_region_lit ?_
  refine fr_do F (wanted_free rfl) 113 rfl (by decide) (.bool true) (by intro a' F'; have h9 := F'.at' 9 _ rfl; go_simp) ?_
  clear F a9
  intro a9 F
  refine fr_do F (wanted_free rfl) 110 rfl (by decide) (.bool true) (by intro a' F'; have h113 := F'.at' 113 _ rfl; go_simp) ?_
  clear F a9
  intro a9 F
  refine wpList_nil ?_
  show Code.wp _ _ _ _ _
  refine wp_cond_true (F.ev 110 rfl) ?_
  refine wp_skip ?_
  exact ⟨F.keep [], HX.out _ HK⟩
set_option maxRecDepth 100000 in
set_option maxHeartbeats 4000000 in
theorem all_lists {w0 w : World} {X : Nat} {T : TypeId} {B : List Box} (ty fl : Nat) (_hfl : fl < 256) (c0 : Cur) (hc : c0.1.length ≤ 90000000) (HK0 : Keep w0 ((X, curC c0 (pkV { Pk.zero with ty := ty } none 0).toList, T) :: B) [] w) (hT0 : T ≠ 31) (hB : ∀ x ∈ B, x.2.2 ≠ 31) (hty : ty ≠ 1 ∧ ty ≠ 2 ∧ ty ≠ 3 ∧ ty ≠ 12 ∧ ty ≠ 13 ∧ ty ≠ 14) :
    Calls Tryd.prog 60 #[.pointer (some ⟨X, 0, none⟩), .int .u8 (fl : Int)] w fun e w' => e = .returned (.tuple #[]) ∧ ∃ (al : Option Addr) (cap : Nat), Keep w0 ((X, curC (allR ty fl c0).2 (pkV (allR ty fl c0).1 al cap).toList, T) :: B) [] w' ∧ w'.ownsRow w0.heap.size 31 2 (.slice al (allR ty fl c0).1.subs.length cap) (allR ty fl c0).1.subs.length (subCells (allR ty fl c0).1.subs) := by
  obtain ⟨KE, hKE⟩ : ∃ KE : World → Prop, KE = fun w' => ∃ (al : Option Addr) (cap : Nat), Keep w0 ((X, curC (allR ty fl c0).2 (pkV (allR ty fl c0).1 al cap).toList, T) :: B) [] w' ∧ w'.ownsRow w0.heap.size 31 2 (.slice al (allR ty fl c0).1.subs.length cap) (allR ty fl c0).1.subs.length (subCells (allR ty fl c0).1.subs) := ⟨_, rfl⟩
  have HEND := Lib.hid (show ∀ w', KE w' → ∃ (al : Option Addr) (cap : Nat), Keep w0 ((X, curC (allR ty fl c0).2 (pkV (allR ty fl c0).1 al cap).toList, T) :: B) [] w' ∧ w'.ownsRow w0.heap.size 31 2 (.slice al (allR ty fl c0).1.subs.length cap) (allR ty fl c0).1.subs.length (subCells (allR ty fl c0).1.subs) from fun w' h => by rw [hKE] at h; exact h)
  have e1 : ((ty : Int) == 1) = false := by rw [beq_eq_false_iff_ne]; omega
  have e2 : ((ty : Int) == 2) = false := by rw [beq_eq_false_iff_ne]; omega
  have e3 : ((ty : Int) == 3) = false := by rw [beq_eq_false_iff_ne]; omega
  have e12 : ((ty : Int) == 12) = false := by rw [beq_eq_false_iff_ne]; omega
  have e13 : ((ty : Int) == 13) = false := by rw [beq_eq_false_iff_ne]; omega
  have e14 : ((ty : Int) == 14) = false := by rw [beq_eq_false_iff_ne]; omega
  have hal := allR_lists ty fl c0 hty
  rcases hi : wordR c0 with ⟨i, L1, k1⟩
  have l1 := word_len c0
  rw [hi] at l1 hal
  have HI := Lib.hid (show ∀ w C, Keep w0 ((X, curC c0 C, T) :: B) [] w → Calls Tryd.prog 92 #[.pointer (some ⟨X, 0, none⟩)] w (RetC w0 w X C T B [] (.int .u16 (i : Int)) (L1, k1)) from fun w C h => by
    have h2 := cur_word c0 (by omega) h
    rw [hi] at h2
    exact h2)
  have HLL := Lib.hid (show ∀ w, Keep w0 ((X, curC (L1, k1) (pkV { Pk.zero with ty := ty, id := i } none 0).toList, T) :: B) [] w → Calls Tryd.prog 94 #[.pointer (some ⟨X, 0, none⟩)] w fun e w' => e = .returned (.tuple #[]) ∧ KE w' from fun w h => by
    have h2 := rest_lists ty i (L1, k1) (by simp only at l1 ⊢; omega) h hT0 hB
    rw [hKE, hal]
    exact h2)
  clear hi l1 hal hty
  obtain ⟨L0, k0⟩ := c0
  have HK := HK0
  clear HK0 hKE
  go_enter Tryd.func60, Tryd.ntmps60
  refine wp_forget (n := 114) (L := [(1, .int .u8 (fl : Int)), (0, .pointer (some ⟨X, 0, none⟩))]) (FrL.add (FrL.add (FrL.nil ?_ ?_) _ _ ?_) _ _ ?_) ?_
  iterate 4 rfl
  intro a9 F
  rename World => w9
  refine wp_seq ?_
  refine wp_region_lit ?_
  refine fr_do F (wanted_free rfl) 5 rfl (by decide) (.pointer (some ⟨X, 0, none⟩)) (by intro a' F'; have h0 := F'.at' 0 _ rfl; go_simp) ?_
  clear F a9
  intro a9 F
  refine fr_do F (wanted_free rfl) 6 rfl (by decide) (.pointer (some ⟨X, 0, none⟩)) (by intro a' F'; have h5 := F'.at' 5 _ rfl; go_simp) ?_
  clear F a9
  intro a9 F
  refine fr_do F (wanted_free rfl) 7 rfl (by decide) (.pointer (some ⟨X, 2, none⟩)) (by intro a' F'; have h6 := F'.at' 6 _ rfl; go_simp) ?_
  clear F a9
  intro a9 F
  refine fr_do F (wanted_free rfl) 8 rfl (by decide) (.pointer (some ⟨X, 2, none⟩)) (by intro a' F'; have h7 := F'.at' 7 _ rfl; go_simp) ?_
  clear F a9
  intro a9 F
  have hc : w9.cell? ⟨X, 2, none⟩ = some (.int .u8 (ty : Int)) := (HK.at 0 rfl).cells 2
  refine fr_do F (wanted_free rfl) 9 rfl (by decide) (.int .u8 (ty : Int)) (by intro a' F'; have h8 := F'.at' 8 _ rfl; go_simp) ?_
  clear F a9
  intro a9 F
  clear hc
  refine wpList_nil ?_
  show Code.wp _ _ _ _ _
  replace F := F.keep [0, 1, 9]
  replace F : FrL 114 [(9, .int .u8 (ty : Int)), (1, .int .u8 (fl : Int)), (0, .pointer (some ⟨X, 0, none⟩))] a9 := F
  refine wp_block_end (fun a' w' => FrL 114 [] a' ∧ KE w') ?_ ?_
  rotate_left
  · rintro a' w' ⟨F', HE⟩
    exact bodyPost_end (results_void rfl _ _) F'.defers ⟨rfl, HEND.out _ HE⟩
  refine wp_seq ?_
  refine wp_region_lit ?_
  refine fr_do F (wanted_free rfl) 21 rfl (by decide) (.bool false) (by intro a' F'; have h9 := F'.at' 9 _ rfl; go_simp) ?_
  clear F a9
  intro a9 F
  refine fr_do F (wanted_free rfl) 20 rfl (by decide) (.bool false) (by intro a' F'; have h21 := F'.at' 21 _ rfl; go_simp) ?_
  clear F a9
  intro a9 F
  refine wpList_nil ?_
  show Code.wp _ _ _ _ _
  refine wp_cond_false (F.ev 20 rfl) ?_
  refine wp_seq ?_
  refine wp_region_lit ?_
  refine fr_do F (wanted_free rfl) 25 rfl (by decide) (.bool false) (by intro a' F'; have h9 := F'.at' 9 _ rfl; go_simp) ?_
  clear F a9
  intro a9 F
  refine fr_do F (wanted_free rfl) 24 rfl (by decide) (.bool false) (by intro a' F'; have h25 := F'.at' 25 _ rfl; go_simp) ?_
  clear F a9
  intro a9 F
  refine wpList_nil ?_
  show Code.wp _ _ _ _ _
  refine wp_cond_false (F.ev 24 rfl) ?_
  refine wp_seq ?_
  refine wp_region_lit ?_
  refine fr_do F (wanted_free rfl) 58 rfl (by decide) (.bool false) (by intro a' F'; have h9 := F'.at' 9 _ rfl; go_simp) ?_
  clear F a9
  intro a9 F
  refine fr_do F (wanted_free rfl) 57 rfl (by decide) (.bool false) (by intro a' F'; have h58 := F'.at' 58 _ rfl; go_simp) ?_
  clear F a9
  intro a9 F
  refine wpList_nil ?_
  show Code.wp _ _ _ _ _
  refine wp_cond_false (F.ev 57 rfl) ?_
  refine wp_seq ?_
  refine wp_seq ?_
  refine wp_region_lit ?_
  refine fr_do F (wanted_free rfl) 111 rfl (by decide) (.bool false) (by intro a' F'; have h9 := F'.at' 9 _ rfl; go_simp) ?_
  clear F a9
  intro a9 F
  refine fr_do F (wanted_free rfl) 110 rfl (by decide) (.bool false) (by intro a' F'; have h111 := F'.at' 111 _ rfl; go_simp) ?_
  clear F a9
  intro a9 F
  refine wpList_nil ?_
  show Code.wp _ _ _ _ _
  refine wp_cond_false (F.ev 110 rfl) ?_
  refine wp_seq ?_
  refine wp_region_lit ?_
  refine fr_do F (wanted_free rfl) 112 rfl (by decide) (.bool false) (by intro a' F'; have h9 := F'.at' 9 _ rfl; go_simp) ?_
  clear F a9
  intro a9 F
  refine fr_do F (wanted_free rfl) 110 rfl (by decide) (.bool false) (by intro a' F'; have h112 := F'.at' 112 _ rfl; go_simp) ?_
  clear F a9
  intro a9 F
  refine wpList_nil ?_
  show Code.wp _ _ _ _ _
  refine wp_cond_false (F.ev 110 rfl) ?_
  refine wp_region_lit ?_
  refine fr_do F (wanted_free rfl) 113 rfl (by decide) (.bool false) (by intro a' F'; have h9 := F'.at' 9 _ rfl; go_simp) ?_
  clear F a9
  intro a9 F
  refine fr_do F (wanted_free rfl) 110 rfl (by decide) (.bool false) (by intro a' F'; have h113 := F'.at' 113 _ rfl; go_simp) ?_
  clear F a9
  intro a9 F
  refine wpList_nil ?_
  show Code.wp _ _ _ _ _
  refine wp_cond_false (F.ev 110 rfl) ?_
  replace F := F.keep [0]
  replace F : FrL 114 [(0, .pointer (some ⟨X, 0, none⟩))] a9 := F
  refine wp_seq ?_
  refine wp_region_lit ?_
  refine fr_do F (wanted_free rfl) 10 rfl (by decide) (.pointer (some ⟨X, 0, none⟩)) (by intro a' F'; have h0 := F'.at' 0 _ rfl; go_simp) ?_
  clear F a9
  intro a9 F
  refine fr_do F (wanted_free rfl) 11 rfl (by decide) (.pointer (some ⟨X, 0, none⟩)) (by intro a' F'; have h0 := F'.at' 0 _ rfl; go_simp) ?_
  clear F a9
  intro a9 F
  refine fr_do F (wanted_free rfl) 12 rfl (by decide) (.pointer (some ⟨X, 0, none⟩)) (by intro a' F'; have h11 := F'.at' 11 _ rfl; go_simp) ?_
  clear F a9
  intro a9 F
  refine fr_do F (wanted_free rfl) 13 rfl (by decide) (.pointer (some ⟨X, 0, none⟩)) (by intro a' F'; have h12 := F'.at' 12 _ rfl; go_simp) ?_
  clear F a9
  intro a9 F
  refine fr_call F (wanted_free rfl) 14 rfl (by decide) 92 #[.pointer (some ⟨X, 0, none⟩)] (by intro a' F'; have h13 := F'.at' 13 _ rfl; go_simp) (HI.out _ _ HK) ?_
  clear HK
  rintro e w8 ⟨rfl, HK, HO⟩
  clear HO
  clear w9
  rename World => w9
  refine ⟨_, rfl, ?_⟩
  clear F a9
  intro a9 F
  refine fr_do F (wanted_free rfl) 15 rfl (by decide) (.pointer (some ⟨X, 0, none⟩)) (by intro a' F'; have h10 := F'.at' 10 _ rfl; go_simp) ?_
  clear F a9
  intro a9 F
  refine fr_do F (wanted_free rfl) 16 rfl (by decide) (.pointer (some ⟨X, 2, none⟩)) (by intro a' F'; have h15 := F'.at' 15 _ rfl; go_simp) ?_
  clear F a9
  intro a9 F
  refine fr_do F (wanted_free rfl) 17 rfl (by decide) (.pointer (some ⟨X, 6, none⟩)) (by intro a' F'; have h16 := F'.at' 16 _ rfl; go_simp) ?_
  clear F a9
  intro a9 F
  refine fr_put F HK 0 rfl rfl rfl 22 _ _ rfl 6 (.int .u16 (i : Int)) (fun a' F' => F'.ev 17 rfl) (fun a' F' => F'.ev 14 rfl) z_u16 (Nat.le_of_ble_eq_true (by kernel_rfl)) (by kernel_rfl) ?_
  clear F HK a9 w9
  intro a9 w9 F HK
  replace HK : Keep w0 ((X, curC (L1, k1) (pkV { Pk.zero with ty := ty, id := i } none 0).toList, T) :: B) [] w9 := HK
  refine wpList_nil ?_
  show Code.wp _ _ _ _ _
  replace F := F.keep [0]
  replace F : FrL 114 [(0, .pointer (some ⟨X, 0, none⟩))] a9 := F
  refine wp_region_lit ?_
  refine fr_do F (wanted_free rfl) 18 rfl (by decide) (.pointer (some ⟨X, 0, none⟩)) (by intro a' F'; have h0 := F'.at' 0 _ rfl; go_simp) ?_
  clear F a9
  intro a9 F
  refine fr_call F (wanted_free rfl) 19 rfl (by decide) 94 #[.pointer (some ⟨X, 0, none⟩)] (by intro a' F'; have h18 := F'.at' 18 _ rfl; go_simp) (HLL.out _ HK) ?_
  clear HK
  rintro e w8 ⟨rfl, HE⟩
  clear w9
  rename World => w9
  refine ⟨_, rfl, ?_⟩
  clear F a9
  intro a9 F
  refine wpList_nil ?_
  exact ⟨F.keep [], HE⟩
theorem rest_all {w0 w : World} {X : Nat} {T : TypeId} {B : List Box} (ty fl : Nat) (hfl : fl < 256) (c0 : Cur) (hc : c0.1.length ≤ 90000000) (HK0 : Keep w0 ((X, curC c0 (pkV { Pk.zero with ty := ty } none 0).toList, T) :: B) [] w) (hT0 : T ≠ 31) (hB : ∀ x ∈ B, x.2.2 ≠ 31) :
    Calls Tryd.prog 60 #[.pointer (some ⟨X, 0, none⟩), .int .u8 (fl : Int)] w fun e w' => e = .returned (.tuple #[]) ∧ ∃ (al : Option Addr) (cap : Nat), Keep w0 ((X, curC (allR ty fl c0).2 (pkV (allR ty fl c0).1 al cap).toList, T) :: B) [] w' ∧ w'.ownsRow w0.heap.size 31 2 (.slice al (allR ty fl c0).1.subs.length cap) (allR ty fl c0).1.subs.length (subCells (allR ty fl c0).1.subs) := by
  by_cases h1 : ty = 1
  · exact all_con ty fl hfl c0 hc HK0 h1
  by_cases h2 : ty = 2
  · exact all_ack ty fl hfl c0 hc HK0 h2
  by_cases h3 : ty = 3
  · exact all_pub ty fl hfl c0 hc HK0 h3
  by_cases h4 : ty = 12
  · exact all_bare12 ty fl hfl c0 hc HK0 h4
  by_cases h5 : ty = 13
  · exact all_bare13 ty fl hfl c0 hc HK0 h5
  by_cases h6 : ty = 14
  · exact all_bare14 ty fl hfl c0 hc HK0 h6
  exact all_lists ty fl hfl c0 hc HK0 hT0 hB ⟨h1, h2, h3, h4, h5, h6⟩
end Go.Proofs.YtcghokbcjbbbhaaDoor
